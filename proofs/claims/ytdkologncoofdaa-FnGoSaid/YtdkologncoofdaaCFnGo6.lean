/- Part 6 of the texts that the law FnGo reaches: contracts of the functions and plain lemmas. -/
import Derived.Test.YtdkologncoofdaaCFnGo2
import Derived.Test.YtdkologncoofdaaCFnGo3
import Derived.Test.YtdkologncoofdaaCFnGo4
import Derived.Test.YtdkologncoofdaaCFnGo5
-- Px66
namespace Go.Proofs.Ytdkologncoofdaa.P
open Go.RowKit Go.Proofs.YtdkologncoofdaaW.PrintWords Go.Proofs.YtdkologncoofdaaW.PrintLast Go.Proofs.YtdkologncoofdaaW.PrintMore
attribute [local go_sem] max2_int min2_int max_two min_two max_three min_three max_four min_four   -- for this text's walks alone
set_option linter.unusedVariables false
set_option linter.unusedSimpArgs false

/-! ### spec_DrawRecGo: function 50 -/
def spec_DrawRecGo.l0 : Nat → List (S39) → Int → List Int → Int → ByteArray → Int → Int → Option ((List (S39)) × ByteArray × Int × Int × Int × Bool)
 | 0, _, _, _, _, _, _, _ => none
 | k + 1, x6, x8, x721000, x721001, x729000, x729001, x729002 => if x8 > 0 then ((spec_l5Say.f k x721000 x721001).bind fun bt731 => ((spec_RecGo.f k x6 x729000 x729001 x729002 bt731.1 bt731.2.1).bind fun bt734 => (if bt734.2.2.2 = true then (spec_DrawRecGo.l0 k x6 (wrap64 (x8 - 1)) x721000 bt731.2.2 bt734.1 bt734.2.1 bt734.2.2.1) else (spec_DrawRecGo.l0 k x6 (wrap64 (x8 - 1)) x721000 bt731.2.2 x729000 x729001 x729002)))) else ((spec_l1Rd_pick.f k x721000 x721001 16).bind fun bt739 => (if bt739.1 = 0 then ((spec_l1Rd_of.f k x721000 bt739.2 (([(⟨#[]⟩ : ByteArray), (⟨#[110, 111, 110, 101]⟩ : ByteArray), (⟨#[103, 111, 111, 100]⟩ : ByteArray)] : List ByteArray))).bind fun bt744 => ((spec_l5Say.f k x721000 bt744.2).bind fun bt746 => (some (x6, bt744.1, x729001, x729002, bt746.1, bt746.2.1)))) else (if bt739.1 = 1 then ((some (([(-1), 12000, 12001] : List Int) : List Int)).bind fun y749 => ((spec_l1Rd_pick.f k x721000 bt739.2 3).bind fun bt752 => (if 0 ≤ bt752.1 then (if bt752.1 < (y749.length : Int) then ((spec_l5Say.f k x721000 bt752.2).bind fun bt755 => (some (x6, x729000, rd y749 bt752.1, x729002, bt755.1, bt755.2.1))) else (none)) else (none)))) else ((spec_l5Say.f k x721000 bt739.2).bind fun bt758 => (some (x6, x729000, x729001, x729002, bt758.1, bt758.2.1))))))
def spec_DrawRecGo.f (k : Nat) (l0 : List Int) : Option ((List (S39)) × ByteArray × Int × Int × Int × Bool) := (spec_l1Open.f l0).bind fun bt718 => ((spec_l5Any.f k bt718.1 bt718.2).bind fun bt721 => ((spec_RecBegin.f k bt721.1).bind fun bt725 => ((spec_l1Rd_pick.f k bt718.1 bt721.2 5).bind fun bt729 => (spec_DrawRecGo.l0 k bt721.1 bt729.1 bt718.1 bt729.2 bt725.1 bt725.2.1 bt725.2.2))))
theorem spec_DrawRecGo.mono_l : ∀ k, (∀ y0 y1 y2 y3 y4 y5 y6, LeO (spec_DrawRecGo.l0 k y0 y1 y2 y3 y4 y5 y6) (spec_DrawRecGo.l0 (k + 1) y0 y1 y2 y3 y4 y5 y6))
 | 0 => fun _ _ _ _ _ _ _ r h => by simp [spec_DrawRecGo.l0] at h
 | k + 1 => by
  have ih0 := spec_DrawRecGo.mono_l k
  ·intro y0 y1 y2 y3 y4 y5 y6
   unfold spec_DrawRecGo.l0
   repeat' first
   | (with_reducible exact ih0 _ _ _ _ _ _ _)
   | (with_reducible exact spec_RecBegin.mono _ _)
   | (with_reducible exact spec_RecGo.mono _ _ _ _ _ _ _)
   | (with_reducible exact spec_l1Rd_of.mono _ _ _ _)
   | (with_reducible exact spec_l1Rd_pick.mono _ _ _ _)
   | (with_reducible exact spec_l5Any.mono _ _ _)
   | (with_reducible exact spec_l5Say.mono _ _ _)
   | (with_reducible exact LeO.refl _)
   | (with_reducible exact LeO.none _)
   | (with_reducible refine LeO.ite ?_ ?_)
   | (with_reducible refine LeO.bind ?_ (fun _ => ?_))
   | exact ih0 _ _ _ _ _ _ _
   | exact spec_RecBegin.mono _ _
   | exact spec_RecGo.mono _ _ _ _ _ _ _
   | exact spec_l1Rd_of.mono _ _ _ _
   | exact spec_l1Rd_pick.mono _ _ _ _
   | exact spec_l5Any.mono _ _ _
   | exact spec_l5Say.mono _ _ _
   | exact LeO.none _
   | refine LeO.ite ?_ ?_
   | refine LeO.bind ?_ (fun _ => ?_)
theorem spec_DrawRecGo.mono : ∀ a0 k, LeO (spec_DrawRecGo.f k a0) (spec_DrawRecGo.f (k + 1) a0) := by
 intro a0 k
 have ih0 := spec_DrawRecGo.mono_l k
 unfold spec_DrawRecGo.f
 repeat' first
   | (with_reducible exact ih0 _ _ _ _ _ _ _)
   | (with_reducible exact spec_RecBegin.mono _ _)
   | (with_reducible exact spec_RecGo.mono _ _ _ _ _ _ _)
   | (with_reducible exact spec_l1Rd_of.mono _ _ _ _)
   | (with_reducible exact spec_l1Rd_pick.mono _ _ _ _)
   | (with_reducible exact spec_l5Any.mono _ _ _)
   | (with_reducible exact spec_l5Say.mono _ _ _)
   | (with_reducible exact LeO.refl _)
   | (with_reducible exact LeO.none _)
   | (with_reducible refine LeO.ite ?_ ?_)
   | (with_reducible refine LeO.bind ?_ (fun _ => ?_))
   | exact ih0 _ _ _ _ _ _ _
   | exact spec_RecBegin.mono _ _
   | exact spec_RecGo.mono _ _ _ _ _ _ _
   | exact spec_l1Rd_of.mono _ _ _ _
   | exact spec_l1Rd_pick.mono _ _ _ _
   | exact spec_l5Any.mono _ _ _
   | exact spec_l5Say.mono _ _ _
   | exact LeO.none _
   | refine LeO.ite ?_ ?_
   | refine LeO.bind ?_ (fun _ => ?_)
def spec_DrawRecGo.T7 : Bool × List (List Nat × List Nat) := (true, [([], []), ([], []), ([], []), ([2], [2]), ([0, 1, 3, 3], [0, 1, 3]), ([4], [4]), ([5], [5]), ([5], [5]), ([], []), ([8, 6, 4, 0, 1, 2, 3, 4, 5, 6, 8], [6, 8]), ([7, 9, 0, 1, 2, 3, 4, 5, 6, 7, 8, 9], [7])])
def spec_DrawRecGo.B7 : List Nat := [0, 0, 0, 4, 15, 31, 63, 63, 0, 383, 1023]
theorem spec_DrawRecGo.tab7 : rtab .any (opsOf Try.f50 7) = spec_DrawRecGo.T7 := by kernel_rfl
theorem spec_DrawRecGo.bits7 : waitsOk spec_DrawRecGo.T7.2 spec_DrawRecGo.B7 = true := by kernel_rfl
set_option maxHeartbeats 8000000 in
set_option maxRecDepth 100000 in
theorem spec_DrawRecGo.calls (k : Nat) (A0 : Option Addr) (c0 : Nat) (l0 : List Int) (r1 : List (S39)) (r2 : ByteArray) (r3 : Int) (r4 : Int) (r5 : Int) (r6 : Bool) (w : World) (hr0 : Kd.C (Kd.int .u8) w A0 l0.length l0) (hc0 : l0.length ≤ c0) (h : spec_DrawRecGo.f k l0 = some (r1, r2, r3, r4, r5, r6)) :
  Calls Try.prog 50 #[.slice A0 l0.length c0] w fun e w' => ∃ v0_ : Value, e = .returned (.tuple #[v0_, .agg #[.string r2, .int .i64 r3, .int .i64 r4], .agg #[.int .i64 r5, .bool r6]]) ∧ Kd.R k39 39 w' w.heap.size (fun _ => True) v0_ r1 ∧ Below w.heap.size w w' := by
 have hu31 := Try.underlying31
 have hu43 := Try.underlying43
 have HR0 := Aside0.mk hr0
 have HC0 := Aside0.mk hc0
 clear hr0 hc0
 have HB := Aside0.mk (Below.refl w.heap.size w)
 have H : ((spec_l1Open.f l0).bind fun bt718 => ((spec_l5Any.f k bt718.1 bt718.2).bind fun bt721 => ((spec_RecBegin.f k bt721.1).bind fun bt725 => ((spec_l1Rd_pick.f k bt718.1 bt721.2 5).bind fun bt729 => (spec_DrawRecGo.l0 k bt721.1 bt729.1 bt718.1 bt729.2 bt725.1 bt725.2.1 bt725.2.2))))) = some (r1, r2, r3, r4, r5, r6) := h
 clear h
 replace H := Option.bind_eq_some_iff.mp H
 obtain ⟨⟨t718, t719⟩, A20, H⟩ := H
 replace H : ((spec_l5Any.f k t718 t719).bind fun bt721 => ((spec_RecBegin.f k bt721.1).bind fun bt725 => ((spec_l1Rd_pick.f k t718 bt721.2 5).bind fun bt729 => (spec_DrawRecGo.l0 k bt721.1 bt729.1 t718 bt729.2 bt725.1 bt725.2.1 bt725.2.2)))) = some (r1, r2, r3, r4, r5, r6) := H
 have A2 := Aside0.mk A20
 clear A20
 replace H := Option.bind_eq_some_iff.mp H
 obtain ⟨⟨t721, t724⟩, A30, H⟩ := H
 replace H : ((spec_RecBegin.f k t721).bind fun bt725 => ((spec_l1Rd_pick.f k t718 t724 5).bind fun bt729 => (spec_DrawRecGo.l0 k t721 bt729.1 t718 bt729.2 bt725.1 bt725.2.1 bt725.2.2))) = some (r1, r2, r3, r4, r5, r6) := H
 have A3 := Aside0.mk A30
 clear A30
 replace H := Option.bind_eq_some_iff.mp H
 obtain ⟨⟨t725, t726, t727⟩, A40, H⟩ := H
 replace H : ((spec_l1Rd_pick.f k t718 t724 5).bind fun bt729 => (spec_DrawRecGo.l0 k t721 bt729.1 t718 bt729.2 t725 t726 t727)) = some (r1, r2, r3, r4, r5, r6) := H
 have A4 := Aside0.mk A40
 clear A40
 replace H := Option.bind_eq_some_iff.mp H
 obtain ⟨⟨t729, t730⟩, A50, H⟩ := H
 replace H : (spec_DrawRecGo.l0 k t721 t729 t718 t730 t725 t726 t727) = some (r1, r2, r3, r4, r5, r6) := H
 have A5 := Aside0.mk A50
 clear A50
 have H' := Aside0.mk H
 clear H
 go_enter Try.func50, Try.ntmps50
 go_wp2_with (first | ((with_reducible refine gate_dst (N := 3) rfl ?_); refine box_event ?hg (N := 3) ?hd (cs := #[.string (⟨#[]⟩ : ByteArray), .int .i64 0, .int .i64 0]) (t := 31) ?hr ?_; (case hd => rfl); (case hg => rfl); (case hr => first | (go_simp; done) | (go_simp; rfl)); intro gb716 hg w6 hbox hb; have n0_ := bs HB hb; have n1_ := Aside0.mk (hbox); have n2_ := gh hg HB; have n3_ := gh hg HB; clear HB; have HB := n0_; have BK716 := n1_; have GW716 := n2_; have GE716 := n3_; clear n0_ n1_ n2_ n3_; clear hb hbox hg) | ((with_reducible refine gate_dst (N := 4) rfl ?_); refine box_event ?hg (N := 4) ?hd (cs := #[.int .i64 0, .bool false]) (t := 43) ?hr ?_; (case hd => rfl); (case hg => rfl); (case hr => first | (go_simp; done) | (go_simp; rfl)); intro gb717 hg w7 hbox hb; have n0_ := up BK716 hb; have n1_ := bs HB hb; have n2_ := Aside0.mk (hbox); have n3_ := gh hg HB; have n4_ := gh hg HB; have n5_ := nlt' hg BK716; have n6_ := ngt' hg BK716; clear BK716; clear HB; have BK716 := n0_; have HB := n1_; have BK717 := n2_; have GW717 := n3_; have GE717 := n4_; have NB716_717 := n5_; have NB717_716 := n6_; clear n0_ n1_ n2_ n3_ n4_ n5_ n6_; clear hb hbox hg) | ((with_reducible refine gate_callee (f := 62) rfl ?_); refine goesL_ (some 12) rfl rfl Try.func62 (by kernel_rfl) rfl #[.slice A0 l0.length c0] rfl mxp ?_; (with_reducible refine (spec_l1Open.calls _ _ l0 t718 t719 w _ ?side1 ?side2 ?side3 A2.out).mono ?_); (case side1 => exact bw HB.out); (case side2 => exact HR0.out); (case side3 => exact HC0.out); rintro e w8 ⟨g720, rfl, hi, hb, hb2⟩; refine ⟨_, rfl, ?_⟩; have n0_ := Aside0.mk (blk_below (g := gb716) (o := .cells #[.string (⟨#[]⟩ : ByteArray), .int .i64 0, .int .i64 0] 31 (0, 0)) (bx BK716.out) hb2); have n1_ := Aside0.mk (blk_below (g := gb717) (o := .cells #[.int .i64 0, .bool false] 43 (0, 0)) (bx BK717.out) hb2); have n2_ := Aside0.mk (hb); have n3_ := Aside0.mk (hi); have n4_ := Aside0.mk (IsS107.ne_blk hi (blk_below (g := gb716) (o := .cells #[.string (⟨#[]⟩ : ByteArray), .int .i64 0, .int .i64 0] 31 (0, 0)) (bx BK716.out) hb2) (by decide)); have n5_ := Aside0.mk (Ne.symm (IsS107.ne_blk hi (blk_below (g := gb716) (o := .cells #[.string (⟨#[]⟩ : ByteArray), .int .i64 0, .int .i64 0] 31 (0, 0)) (bx BK716.out) hb2) (by decide))); have n6_ := Aside0.mk (IsS107.ne_blk hi (blk_below (g := gb717) (o := .cells #[.int .i64 0, .bool false] 43 (0, 0)) (bx BK717.out) hb2) (by decide)); have n7_ := Aside0.mk (Ne.symm (IsS107.ne_blk hi (blk_below (g := gb717) (o := .cells #[.int .i64 0, .bool false] 43 (0, 0)) (bx BK717.out) hb2) (by decide))); clear BK716; clear BK717; clear HB; have BK716 := n0_; have BK717 := n1_; have HB := n2_; have HI720 := n3_; have NB720_716 := n4_; have NB716_720 := n5_; have NB720_717 := n6_; have NB717_720 := n7_; clear n0_ n1_ n2_ n3_ n4_ n5_ n6_ n7_; (try clear hb); (try clear hb2); (try clear hk); (try clear hi)) | ((with_reducible refine gate_callee (f := 63) rfl ?_); refine goesL_ (some 14) rfl rfl Try.func63 (by kernel_rfl) rfl #[.pointer (some ⟨g720, 0, none⟩)] rfl mxp ?_; (with_reducible refine (spec_l5Any.calls k g720 t718 t719 t721 t724 w _ ?side1 ?side2 A3.out).mono ?_); (case side1 => exact ib HI720.out); (case side2 => exact bi HB.out); rintro e w9 ⟨v722, rfl, ho0, hi, hb, hk⟩; refine ⟨_, rfl, ?_⟩; have n0_ := kp BK716 hk NB716_720; have n1_ := kp BK717 hk NB717_720; have n2_ := Aside0.mk (Kd.R_lower ho0 (below_size (bi HB.out))); have n3_ := Aside0.mk (hb); have n4_ := Aside0.mk (hi); clear BK716; clear BK717; clear HB; clear HI720; have BK716 := n0_; have BK717 := n1_; have HO723 := n2_; have HB := n3_; have HI720 := n4_; clear n0_ n1_ n2_ n3_ n4_; (try clear hb); (try clear hb2); (try clear hk); (try clear hi); (try clear ho0); obtain ⟨Ao10, co10, eo10⟩ := Kd.R_slice HO723.out; subst eo10) | ((with_reducible refine gate_callee (f := 42) rfl ?_); refine goesL_ (some 16) rfl rfl Try.func42 (by kernel_rfl) rfl #[.slice Ao10 t721.length co10] rfl mxp ?_; (with_reducible refine (spec_RecBegin.calls k _ _ t721 t725 t726 t727 _ ?side1 ?side2 A4.out).mono ?_); (case side1 => exact cx (Kd.R_reads' HO723.out).2.2); (case side2 => exact (Kd.R_reads' HO723.out).2.1); rintro e w11 ⟨rfl, hb⟩; refine ⟨_, rfl, ?_⟩; have n0_ := Aside0.mk (Kd.R_below (rx HO723.out) hb); have n1_ := up BK716 hb; have n2_ := up BK717 hb; have n3_ := Aside0.mk (IsS107.below (ib HI720.out) hb); have n4_ := bsi HB hb; clear HO723; clear BK716; clear BK717; clear HI720; clear HB; have HO723 := n0_; have BK716 := n1_; have BK717 := n2_; have HI720 := n3_; have HB := n4_; clear n0_ n1_ n2_ n3_ n4_; (try clear hb); (try clear hb2); (try clear hk); (try clear hi)) | ((with_reducible refine gate_dst (N := 7) rfl ?_); refine box_event ?hg (N := 7) ?hd (cs := #[.string (⟨#[]⟩ : ByteArray), .int .i64 0, .int .i64 0]) (t := 31) ?hr ?_; (case hd => rfl); (case hg => rfl); (case hr => first | (go_simp; done) | (go_simp; rfl)); intro gb728 hg w12 hbox hb; have n0_ := Aside0.mk (Kd.R_below (rx HO723.out) hb); have n1_ := up BK716 hb; have n2_ := up BK717 hb; have n3_ := Aside0.mk (IsS107.below (ib HI720.out) hb); have n4_ := bsi HB hb; have n5_ := Aside0.mk (hbox); have n6_ := Aside0.mk ((by rw [hg]; exact (below_size (bi HB.out)) : w.heap.size ≤ gb728)); have n7_ := Aside0.mk ((by rw [hg]; exact (below_size (bi HB.out)) : w.heap.size ≤ gb728)); have n8_ := nlt' hg BK716; have n9_ := ngt' hg BK716; have n10_ := nlt' hg BK717; have n11_ := ngt' hg BK717; have n12_ := Aside0.mk ((by rw [hg]; exact Nat.ne_of_lt (IsS107.lt (show IsS107 w _ g720 t718 t724 from ib HI720.out)) : g720 ≠ gb728)); have n13_ := Aside0.mk ((by rw [hg]; exact Nat.ne_of_gt (IsS107.lt (show IsS107 w _ g720 t718 t724 from ib HI720.out)) : gb728 ≠ g720)); clear HO723; clear BK716; clear BK717; clear HI720; clear HB; have HO723 := n0_; have BK716 := n1_; have BK717 := n2_; have HI720 := n3_; have HB := n4_; have BK728 := n5_; have GW728 := n6_; have GE728 := n7_; have NB716_728 := n8_; have NB728_716 := n9_; have NB717_728 := n10_; have NB728_717 := n11_; have NB720_728 := n12_; have NB728_720 := n13_; clear n0_ n1_ n2_ n3_ n4_ n5_ n6_ n7_ n8_ n9_ n10_ n11_ n12_ n13_; clear hb hbox hg; have hnb13 := NB728_716.out; have hnc13 := NB716_728.out; have hnb14 := NB728_717.out; have hnc14 := NB717_728.out; have hnb15 := NB728_720.out; have hnc15 := NB720_728.out; have hcz16_0 := b0 BK728; have hcz16_1 := b1 BK728; have hcz16_2 := b2 BK728; have hfz16_0 := fz BK728 0; have hfz16_1 := fz BK728 1; have hfz16_2 := fz BK728 2) | ((with_reducible refine gate_callee (f := 64) rfl ?_); refine goesL_ (some 18) rfl rfl Try.func64 (by kernel_rfl) rfl #[.pointer (some ⟨g720, 0, none⟩), .int .i64 5] rfl mxp ?_; (with_reducible refine (spec_l1Rd_pick.calls k g720 t718 t724 5 t729 t730 w _ ?side1 ?side2 A5.out).mono ?_); (case side1 => exact ib HI720.out); (case side2 => exact bi HB.out); rintro e w17 ⟨rfl, hi, hb, hk⟩; refine ⟨_, rfl, ?_⟩; have n0_ := Aside0.mk (KeepBut.blk hk (g' := gb716) (o := .cells #[.string (⟨#[]⟩ : ByteArray), .int .i64 0, .int .i64 0] 31 (0, 0)) (by refine bx ?_; refine blk_far ?_ NB716_728.out _; refine bx ?_; refine blk_far ?_ NB716_728.out _; refine bx ?_; refine blk_far ?_ NB716_728.out _; refine bx ?_; exact BK716.out) NB716_720.out (by simp)); have n1_ := Aside0.mk (KeepBut.blk hk (g' := gb717) (o := .cells #[.int .i64 0, .bool false] 43 (0, 0)) (by refine bx ?_; refine blk_far ?_ NB717_728.out _; refine bx ?_; refine blk_far ?_ NB717_728.out _; refine bx ?_; refine blk_far ?_ NB717_728.out _; refine bx ?_; exact BK717.out) NB717_720.out (by simp)); have n2_ := Aside0.mk (Kd.R_mono (Kd.R_keep (IsS107.apart (show IsS107 w _ g720 t718 t724 from ib HI720.out) (by refine rx ?_; exact (Kd.R_mono (Kd.R_far (p := ⟨gb728, 2, none⟩) (Kd.R_far (p := ⟨gb728, 1, none⟩) (Kd.R_far (p := ⟨gb728, 0, none⟩) (Kd.R_types HO723.out BK728.out (by decide)) (fun _ hk => hk.2) (.string t725)) (fun _ hk => hk.2) (.int .i64 t726)) (fun _ hk => hk.2) (.int .i64 t727)) (fun _ h_ => h_.1))) (by decide)) hk (fun _ h => h.2)) (fun _ h => h.1)); have n3_ := Aside0.mk (KeepBut.blk hk (g' := gb728) (o := .cells #[.string t725, .int .i64 t726, .int .i64 t727] 31 (0, 0)) (by refine bx ?_; refine blk_put (cs := #[.string t725, .int .i64 t726, .int .i64 0]) ?_ 2 _ rfl; refine bx ?_; refine blk_put (cs := #[.string t725, .int .i64 0, .int .i64 0]) ?_ 1 _ rfl; refine bx ?_; refine blk_put (cs := #[.string (⟨#[]⟩ : ByteArray), .int .i64 0, .int .i64 0]) ?_ 0 _ rfl; refine bx ?_; exact BK728.out) NB728_720.out (by simp)); have n4_ := Aside0.mk (hb); have n5_ := Aside0.mk (hi); clear BK716; clear BK717; clear HO723; clear BK728; clear HB; clear HI720; have BK716 := n0_; have BK717 := n1_; have HO723 := n2_; have BK728 := n3_; have HB := n4_; have HI720 := n5_; clear n0_ n1_ n2_ n3_ n4_ n5_; (try clear hb); (try clear hb2); (try clear hk); (try clear hi)))
 go_loopg [8] k (fun kq v8 w' => ∃ (x8_1 : Int) (x721001_1 : Int) (x729000_1 : ByteArray) (x729001_1 : Int) (x729002_1 : Int), v8 = .int .i64 x8_1 ∧ Aside0 (spec_DrawRecGo.l0 kq t721 x8_1 t718 x721001_1 x729000_1 x729001_1 x729002_1 = some (r1, r2, r3, r4, r5, r6)) ∧ Aside0 (kq ≤ k) ∧ Aside0 (Kd.R k39 39 w' w.heap.size (fun _ => True) (.slice Ao10 t721.length co10) t721) ∧ Aside0 (w'.heap[gb716]? = some (.cells #[.string (⟨#[]⟩ : ByteArray), .int .i64 0, .int .i64 0] 31 (0, 0))) ∧ Aside0 (w'.heap[gb717]? = some (.cells #[.int .i64 0, .bool false] 43 (0, 0))) ∧ Aside0 (w'.heap[gb728]? = some (.cells #[.string x729000_1, .int .i64 x729001_1, .int .i64 x729002_1] 31 (0, 0))) ∧ Aside0 (IsS107 w w' g720 t718 x721001_1) ∧ Aside0 (Below w.heap.size w w'))
 case atStart => exact ⟨(t729), (t730), (t725), (t726), (t727), (by first | rfl | (simp; done) | (simp [*]; done)), H', ⟨Nat.le_refl _⟩, ⟨by refine rx ?_; exact HO723.out⟩, (bk BK716), (bk BK717), (bk BK728), ⟨ib HI720.out⟩, (hbi HB)⟩
 case round =>
  clear H'
  try clear c1
  try clear p2
  try clear c4
  try clear c5
  try clear c6
  try clear c13
  try clear c14
  try clear c15
  try clear hcz16_0
  try clear hcz16_1
  try clear hcz16_2
  try clear hfz16_0
  try clear hfz16_1
  try clear hfz16_2
  obtain ⟨x8_1, x721001_1, x729000_1, x729001_1, x729002_1, rfl, HA, HK1, HO_6, BK716, BK717, BK728, HI720, HB⟩ := hrel
  cases gk with
  | zero => exact absurd HA.out (by simp [spec_DrawRecGo.l0])
  | succ k1 =>
   have H := HA.out
   clear HA
   simp only [spec_DrawRecGo.l0] at H
   by_cases c18 : x8_1 > 0
   ·rw [if_pos c18] at H
    have c18b0 : decide (0 < x8_1) = true := decide_eq_true c18
    clear c18
    replace H := Option.bind_eq_some_iff.mp H
    obtain ⟨⟨t731, t732, t733⟩, A190, H⟩ := H
    replace H : ((spec_RecGo.f k1 t721 x729000_1 x729001_1 x729002_1 t731 t732).bind fun bt734 => (if bt734.2.2.2 = true then (spec_DrawRecGo.l0 k1 t721 (wrap64 (x8_1 - 1)) t718 t733 bt734.1 bt734.2.1 bt734.2.2.1) else (spec_DrawRecGo.l0 k1 t721 (wrap64 (x8_1 - 1)) t718 t733 x729000_1 x729001_1 x729002_1))) = some (r1, r2, r3, r4, r5, r6) := H
    have A19 := Aside0.mk A190
    clear A190
    replace H := Option.bind_eq_some_iff.mp H
    obtain ⟨⟨t734, t735, t736, t737⟩, A200, H⟩ := H
    replace H : (if t737 = true then (spec_DrawRecGo.l0 k1 t721 (wrap64 (x8_1 - 1)) t718 t733 t734 t735 t736) else (spec_DrawRecGo.l0 k1 t721 (wrap64 (x8_1 - 1)) t718 t733 x729000_1 x729001_1 x729002_1)) = some (r1, r2, r3, r4, r5, r6) := H
    have A20 := Aside0.mk A200
    clear A200
    by_cases c21 : t737 = true
    ·subst c21
     have H1 : (spec_DrawRecGo.l0 k1 t721 (wrap64 (x8_1 - 1)) t718 t733 t734 t735 t736) = some (r1, r2, r3, r4, r5, r6) := by rw [if_pos rfl] at H; exact H
     clear H
     have H := H1
     clear H1
     have H' := Aside0.mk H
     clear H
     try go_wp2
     have n0_ := Aside0.mk (Kd.R_drew HO_6.out)
     have n1_ := Aside0.mk (blk_drew BK716.out)
     have n2_ := Aside0.mk (blk_drew BK717.out)
     have n3_ := Aside0.mk (blk_drew BK728.out)
     have n4_ := Aside0.mk (IsS107.drew HI720.out)
     have n5_ := Aside0.mk (below_drew1 HB.out)
     clear HO_6
     clear BK716
     clear BK717
     clear BK728
     clear HI720
     clear HB
     have HO_6 := n0_
     have BK716 := n1_
     have BK717 := n2_
     have BK728 := n3_
     have HI720 := n4_
     have HB := n5_
     clear n0_ n1_ n2_ n3_ n4_ n5_
     refine start_ (n := 11) (S := fun w' => w'.cell? ⟨gb728, 0, none⟩ = some (.string x729000_1) ∧ w'.cell? ⟨gb728, 1, none⟩ = some (.int .i64 x729001_1) ∧ w'.cell? ⟨gb728, 2, none⟩ = some (.int .i64 x729002_1)) (ds := []) #[false, false, false, false, false, false, false, false, false, false, false] (by kernel_rfl) rfl rfl ⟨(blk_cell BK728.out 0).trans rfl, (blk_cell BK728.out 1).trans rfl, (blk_cell BK728.out 2).trans rfl⟩ (fun hHeld => ?_); refine with_tabW spec_DrawRecGo.tab7 spec_DrawRecGo.bits7 (fun HT_ HW_ => ?_)
     generalize wr.drew = w22 at HO_6 BK716 BK717 BK728 HI720 HB hHeld ⊢
     refine pure_ (i := 0) (N := some 24) (v := ?_) (a' := ?_) #[true, false, false, false, false, false, false, false, false, false, false] rfl rfl (any_of HT_.out (by kernel_rfl)) (fun _ _ _ h => h) (Or.inl ⟨by rfl, ?_⟩) ?_ ?_
     rotate_left
     ·intro w'
      go_simp
      with_reducible rfl
     rotate_left
     ·simp only [Act.put, List.setIfInBounds_toArray, List.set_cons_zero, List.set_cons_succ, i64_w, i32_w]
      rfl
     refine pure_ (i := 2) (N := some 26) (v := ?_) (a' := ?_) #[true, false, true, false, false, false, false, false, false, false, false] rfl rfl (any_of HT_.out (by kernel_rfl)) (fun _ _ _ h => h) (Or.inl ⟨by rfl, ?_⟩) ?_ ?_
     rotate_left
     ·intro w'
      go_simp
      with_reducible rfl
     rotate_left
     ·simp only [Act.put, List.setIfInBounds_toArray, List.set_cons_zero, List.set_cons_succ, i64_w, i32_w]
      rfl
     refine take_ (i := 1) (N := some 25) (v := ?_) (a' := ?_) #[true, true, true, false, false, false, false, false, false, false, false] rfl rfl (take_ofW HT_.out HW_.out (by kernel_rfl)) (fun _ _ _ h => h) (Or.inl ⟨by rfl, ?_⟩) hHeld ?_ ?_
     rotate_left
     ·rintro w' ⟨s0, s1, s2⟩
      go_simp
      with_reducible rfl
     rotate_left
     ·simp only [Act.put, List.setIfInBounds_toArray, List.set_cons_zero, List.set_cons_succ, i64_w, i32_w]
      rfl
     refine join_ (σ := Nat) 2 #[true, true, true, true, true, true, true, true, true, false, false] (fun s_ => [(27, .agg #[.int .i64 t731, .bool t732]), (28, .tuple #[.agg #[.string t734, .int .i64 t735, .int .i64 t736], .bool true]), (9, .pointer (some ⟨s_, 0, none⟩)), (23, .tuple #[.agg #[.string t734, .int .i64 t735, .int .i64 t736], .bool true]), (29, .agg #[.string t734, .int .i64 t735, .int .i64 t736]), (30, .bool true)]) (fun s_ w' => (w'.cell? ⟨gb728, 0, none⟩ = some (.string x729000_1) ∧ w'.cell? ⟨gb728, 1, none⟩ = some (.int .i64 x729001_1) ∧ w'.cell? ⟨gb728, 2, none⟩ = some (.int .i64 x729002_1)) ∧ (Kd.R k39 39 w' w.heap.size (fun _ => True) (.slice Ao10 t721.length co10) t721) ∧ (w'.heap[gb716]? = some (.cells #[.string (⟨#[]⟩ : ByteArray), .int .i64 0, .int .i64 0] 31 (0, 0))) ∧ (w'.heap[gb717]? = some (.cells #[.int .i64 0, .bool false] 43 (0, 0))) ∧ (w'.heap[gb728]? = some (.cells #[.string x729000_1, .int .i64 x729001_1, .int .i64 x729002_1] 31 (0, 0))) ∧ (w'.heap[s_]? = some (.cells #[.string (⟨#[]⟩ : ByteArray), .int .i64 0, .int .i64 0] 31 (0, 0))) ∧ (w.heap.size ≤ s_) ∧ (w.heap.size ≤ s_) ∧ (g720 ≠ s_) ∧ (s_ ≠ g720) ∧ (gb716 ≠ s_) ∧ (s_ ≠ gb716) ∧ (gb717 ≠ s_) ∧ (s_ ≠ gb717) ∧ (gb728 ≠ s_) ∧ (s_ ≠ gb728) ∧ (IsS107 w w' g720 t718 t733) ∧ (Below w.heap.size w w')) ?_ ?_
     rotate_left
     ·intro hCont
      refine two_ (i := 3) (j := 8) (Ni := some 27) (Nj := some 9) #[true, true, true, true, false, false, false, false, false, false, false] #[true, true, true, false, false, false, false, false, true, false, false] rfl rfl rfl rfl (two_of HT_.out (by kernel_rfl)) (by decide) (by decide) (fun K hK => ?_) (fun K hK => ?_)
      ·skip
       refine goes_ Try.func65 (by kernel_rfl) rfl #[.pointer (some ⟨g720, 0, none⟩)] (by rfl) rfl rfl mxp ?_
       with_reducible refine (spec_l5Say.calls k1 g720 t718 x721001_1 t731 t732 t733 w _ ?side1 ?side2 A19.out).mono ?_
       (case side1 => exact ib HI720.out)
       (case side2 => exact bi HB.out)
       rintro e w23 ⟨rfl, hi, hb, hk⟩
       refine ⟨_, rfl, ?_⟩
       have n0_ := Aside0.mk (Kd.R_mono (Kd.R_keep (IsS107.apart (show IsS107 w _ g720 t718 x721001_1 from ib HI720.out) (rx HO_6.out) (by decide)) hk (fun _ h => h.2)) (fun _ h => h.1))
       have n1_ := kp BK716 hk NB716_720
       have n2_ := kp BK717 hk NB717_720
       have n3_ := kp BK728 hk NB728_720
       have n4_ := Aside0.mk (hb)
       have n5_ := Aside0.mk (hi)
       clear HO_6
       clear BK716
       clear BK717
       clear BK728
       clear HB
       clear HI720
       have HO_6 := n0_
       have BK716 := n1_
       have BK717 := n2_
       have BK728 := n3_
       have HB := n4_
       have HI720 := n5_
       clear n0_ n1_ n2_ n3_ n4_ n5_
       (try clear hb)
       (try clear hb2)
       (try clear hk)
       (try clear hi)
       refine hK.out _ _ ⟨(blk_cell BK728.out 0).trans rfl, (blk_cell BK728.out 1).trans rfl, (blk_cell BK728.out 2).trans rfl⟩ (fun hHeld => ?_)
       clear hK K
       refine norm_ (a' := ?_) ?_ ?_
       rotate_left
       ·show Act.put _ (some 27) _ = _
        simp only [Act.put, List.setIfInBounds_toArray, List.set_cons_zero, List.set_cons_succ, i64_w, i32_w]
        rfl
       refine two_ (i := 4) (j := 8) (Ni := some 28) (Nj := some 9) #[true, true, true, true, true, false, false, false, false, false, false] #[true, true, true, true, false, false, false, false, true, false, false] rfl rfl rfl rfl (two_of HT_.out (by kernel_rfl)) (by decide) (by decide) (fun K hK => ?_) (fun K hK => ?_)
       ·skip
        refine goes_ Try.func47 (by kernel_rfl) rfl #[.slice Ao10 t721.length co10, .agg #[.string x729000_1, .int .i64 x729001_1, .int .i64 x729002_1], .agg #[.int .i64 t731, .bool t732]] (by rfl) rfl rfl mxp ?_
        with_reducible refine (spec_RecGo.calls k1 _ _ t721 x729000_1 x729001_1 x729002_1 t731 t732 t734 t735 t736 true _ ?side1 ?side2 A20.out).mono ?_
        (case side1 => exact cx (Kd.R_reads' HO_6.out).2.2)
        (case side2 => exact (Kd.R_reads' HO_6.out).2.1)
        rintro e w24 ⟨rfl, hb⟩
        refine ⟨_, rfl, ?_⟩
        have n0_ := Aside0.mk (Kd.R_below (rx HO_6.out) hb)
        have n1_ := up BK716 hb
        have n2_ := up BK717 hb
        have n3_ := up BK728 hb
        have n4_ := Aside0.mk (IsS107.below (ib HI720.out) hb)
        have n5_ := bsi HB hb
        clear HO_6
        clear BK716
        clear BK717
        clear BK728
        clear HI720
        clear HB
        have HO_6 := n0_
        have BK716 := n1_
        have BK717 := n2_
        have BK728 := n3_
        have HI720 := n4_
        have HB := n5_
        clear n0_ n1_ n2_ n3_ n4_ n5_
        (try clear hb)
        (try clear hb2)
        (try clear hk)
        (try clear hi)
        refine hK.out _ _ ⟨(blk_cell BK728.out 0).trans rfl, (blk_cell BK728.out 1).trans rfl, (blk_cell BK728.out 2).trans rfl⟩ (fun hHeld => ?_)
        clear hK K
        refine norm_ (a' := ?_) ?_ ?_
        rotate_left
        ·show Act.put _ (some 28) _ = _
         simp only [Act.put, List.setIfInBounds_toArray, List.set_cons_zero, List.set_cons_succ, i64_w, i32_w]
         rfl
        refine pure_ (i := 5) (N := some 23) (v := ?_) (a' := ?_) #[true, true, true, true, true, true, false, false, false, false, false] rfl rfl (any_of HT_.out (by kernel_rfl)) (fun _ _ _ h => h) (Or.inl ⟨by rfl, ?_⟩) ?_ ?_
        rotate_left
        ·intro w'
         go_simp
         with_reducible rfl
        rotate_left
        ·simp only [Act.put, List.setIfInBounds_toArray, List.set_cons_zero, List.set_cons_succ, i64_w, i32_w]
         rfl
        refine pure_ (i := 6) (N := some 29) (v := ?_) (a' := ?_) #[true, true, true, true, true, true, true, false, false, false, false] rfl rfl (any_of HT_.out (by kernel_rfl)) (fun _ _ _ h => h) (Or.inl ⟨by rfl, ?_⟩) ?_ ?_
        rotate_left
        ·intro w'
         go_simp
         with_reducible rfl
        rotate_left
        ·simp only [Act.put, List.setIfInBounds_toArray, List.set_cons_zero, List.set_cons_succ, i64_w, i32_w]
         rfl
        refine pure_ (i := 7) (N := some 30) (v := ?_) (a' := ?_) #[true, true, true, true, true, true, true, true, false, false, false] rfl rfl (any_of HT_.out (by kernel_rfl)) (fun _ _ _ h => h) (Or.inl ⟨by rfl, ?_⟩) ?_ ?_
        rotate_left
        ·intro w'
         go_simp
         with_reducible rfl
        rotate_left
        ·simp only [Act.put, List.setIfInBounds_toArray, List.set_cons_zero, List.set_cons_succ, i64_w, i32_w]
         rfl
        refine one_ (i := 8) (N := some 9) #[true, true, true, true, true, true, true, true, true, false, false] rfl rfl (one_of HT_.out (by kernel_rfl)) (by decide) (fun K hK => ?_)
        refine box_step ?hg (N := 9) ?hd (cs := #[.string (⟨#[]⟩ : ByteArray), .int .i64 0, .int .i64 0]) (t := 31) ?hr ?_; (case hd => rfl); (case hg => rfl); (case hr => first | (go_simp; done) | (go_simp; rfl))
        intro gb738 hg w25 hbox hb
        have n0_ := Aside0.mk (Kd.R_below (rx HO_6.out) hb)
        have n1_ := up BK716 hb
        have n2_ := up BK717 hb
        have n3_ := up BK728 hb
        have n4_ := Aside0.mk (IsS107.below (ib HI720.out) hb)
        have n5_ := bsi HB hb
        have n6_ := Aside0.mk (hbox)
        have n7_ := Aside0.mk ((by rw [hg]; exact (below_size (bi HB.out)) : w.heap.size ≤ gb738))
        have n8_ := Aside0.mk ((by rw [hg]; exact (below_size (bi HB.out)) : w.heap.size ≤ gb738))
        have n9_ := nlt' hg BK716
        have n10_ := ngt' hg BK716
        have n11_ := nlt' hg BK717
        have n12_ := ngt' hg BK717
        have n13_ := nlt' hg BK728
        have n14_ := ngt' hg BK728
        have n15_ := Aside0.mk ((by rw [hg]; exact Nat.ne_of_lt (IsS107.lt (show IsS107 w _ g720 t718 t733 from ib HI720.out)) : g720 ≠ gb738))
        have n16_ := Aside0.mk ((by rw [hg]; exact Nat.ne_of_gt (IsS107.lt (show IsS107 w _ g720 t718 t733 from ib HI720.out)) : gb738 ≠ g720))
        clear HO_6
        clear BK716
        clear BK717
        clear BK728
        clear HI720
        clear HB
        have HO_6 := n0_
        have BK716 := n1_
        have BK717 := n2_
        have BK728 := n3_
        have HI720 := n4_
        have HB := n5_
        have BK738 := n6_
        have GW738 := n7_
        have GE738 := n8_
        have NB716_738 := n9_
        have NB738_716 := n10_
        have NB717_738 := n11_
        have NB738_717 := n12_
        have NB728_738 := n13_
        have NB738_728 := n14_
        have NB720_738 := n15_
        have NB738_720 := n16_
        clear n0_ n1_ n2_ n3_ n4_ n5_ n6_ n7_ n8_ n9_ n10_ n11_ n12_ n13_ n14_ n15_ n16_
        clear hb hbox hg
        refine hK.out _ _ ⟨(blk_cell BK728.out 0).trans rfl, (blk_cell BK728.out 1).trans rfl, (blk_cell BK728.out 2).trans rfl⟩ (fun hHeld => ?_)
        clear hK K
        refine norm_ (a' := ?_) ?_ ?_
        rotate_left
        ·show Act.put _ (some 9) _ = _
         simp only [Act.put, List.setIfInBounds_toArray, List.set_cons_zero, List.set_cons_succ, i64_w, i32_w]
         rfl
        exact norm_ (by simp only [putAll, Act.put, List.setIfInBounds_toArray, List.set_cons_zero, List.set_cons_succ]) (hCont (gb738) _ ⟨hHeld, (rx HO_6.out), (bx BK716.out), (bx BK717.out), (bx BK728.out), (bx BK738.out), GW738.out, GE738.out, NB720_738.out, NB738_720.out, NB716_738.out, NB738_716.out, NB717_738.out, NB738_717.out, NB728_738.out, NB738_728.out, (ib HI720.out), (bi HB.out)⟩)
       ·skip
        refine box_step ?hg (N := 9) ?hd (cs := #[.string (⟨#[]⟩ : ByteArray), .int .i64 0, .int .i64 0]) (t := 31) ?hr ?_; (case hd => rfl); (case hg => rfl); (case hr => first | (go_simp; done) | (go_simp; rfl))
        intro gb738 hg w24 hbox hb
        have n0_ := Aside0.mk (Kd.R_below (rx HO_6.out) hb)
        have n1_ := up BK716 hb
        have n2_ := up BK717 hb
        have n3_ := up BK728 hb
        have n4_ := Aside0.mk (IsS107.below (ib HI720.out) hb)
        have n5_ := bsi HB hb
        have n6_ := Aside0.mk (hbox)
        have n7_ := Aside0.mk ((by rw [hg]; exact (below_size (bi HB.out)) : w.heap.size ≤ gb738))
        have n8_ := Aside0.mk ((by rw [hg]; exact (below_size (bi HB.out)) : w.heap.size ≤ gb738))
        have n9_ := nlt' hg BK716
        have n10_ := ngt' hg BK716
        have n11_ := nlt' hg BK717
        have n12_ := ngt' hg BK717
        have n13_ := nlt' hg BK728
        have n14_ := ngt' hg BK728
        have n15_ := Aside0.mk ((by rw [hg]; exact Nat.ne_of_lt (IsS107.lt (show IsS107 w _ g720 t718 t733 from ib HI720.out)) : g720 ≠ gb738))
        have n16_ := Aside0.mk ((by rw [hg]; exact Nat.ne_of_gt (IsS107.lt (show IsS107 w _ g720 t718 t733 from ib HI720.out)) : gb738 ≠ g720))
        clear HO_6
        clear BK716
        clear BK717
        clear BK728
        clear HI720
        clear HB
        have HO_6 := n0_
        have BK716 := n1_
        have BK717 := n2_
        have BK728 := n3_
        have HI720 := n4_
        have HB := n5_
        have BK738 := n6_
        have GW738 := n7_
        have GE738 := n8_
        have NB716_738 := n9_
        have NB738_716 := n10_
        have NB717_738 := n11_
        have NB738_717 := n12_
        have NB728_738 := n13_
        have NB738_728 := n14_
        have NB720_738 := n15_
        have NB738_720 := n16_
        clear n0_ n1_ n2_ n3_ n4_ n5_ n6_ n7_ n8_ n9_ n10_ n11_ n12_ n13_ n14_ n15_ n16_
        clear hb hbox hg
        refine hK.out _ _ ⟨(blk_cell BK728.out 0).trans rfl, (blk_cell BK728.out 1).trans rfl, (blk_cell BK728.out 2).trans rfl⟩ (fun hHeld => ?_)
        clear hK K
        refine norm_ (a' := ?_) ?_ ?_
        rotate_left
        ·show Act.put _ (some 9) _ = _
         simp only [Act.put, List.setIfInBounds_toArray, List.set_cons_zero, List.set_cons_succ, i64_w, i32_w]
         rfl
        refine one_ (i := 4) (N := some 28) #[true, true, true, true, true, false, false, false, true, false, false] rfl rfl (one_of HT_.out (by kernel_rfl)) (by decide) (fun K hK => ?_)
        refine goes_ Try.func47 (by kernel_rfl) rfl #[.slice Ao10 t721.length co10, .agg #[.string x729000_1, .int .i64 x729001_1, .int .i64 x729002_1], .agg #[.int .i64 t731, .bool t732]] (by rfl) rfl rfl mxp ?_
        with_reducible refine (spec_RecGo.calls k1 _ _ t721 x729000_1 x729001_1 x729002_1 t731 t732 t734 t735 t736 true _ ?side1 ?side2 A20.out).mono ?_
        (case side1 => exact cx (Kd.R_reads' HO_6.out).2.2)
        (case side2 => exact (Kd.R_reads' HO_6.out).2.1)
        rintro e w25 ⟨rfl, hb⟩
        refine ⟨_, rfl, ?_⟩
        have n0_ := Aside0.mk (Kd.R_below (rx HO_6.out) hb)
        have n1_ := up BK716 hb
        have n2_ := up BK717 hb
        have n3_ := up BK728 hb
        have n4_ := Aside0.mk (IsS107.below (ib HI720.out) hb)
        have n5_ := up BK738 hb
        have n6_ := bsi HB hb
        clear HO_6
        clear BK716
        clear BK717
        clear BK728
        clear HI720
        clear BK738
        clear HB
        have HO_6 := n0_
        have BK716 := n1_
        have BK717 := n2_
        have BK728 := n3_
        have HI720 := n4_
        have BK738 := n5_
        have HB := n6_
        clear n0_ n1_ n2_ n3_ n4_ n5_ n6_
        (try clear hb)
        (try clear hb2)
        (try clear hk)
        (try clear hi)
        refine hK.out _ _ ⟨(blk_cell BK728.out 0).trans rfl, (blk_cell BK728.out 1).trans rfl, (blk_cell BK728.out 2).trans rfl⟩ (fun hHeld => ?_)
        clear hK K
        refine norm_ (a' := ?_) ?_ ?_
        rotate_left
        ·show Act.put _ (some 28) _ = _
         simp only [Act.put, List.setIfInBounds_toArray, List.set_cons_zero, List.set_cons_succ, i64_w, i32_w]
         rfl
        refine pure_ (i := 5) (N := some 23) (v := ?_) (a' := ?_) #[true, true, true, true, true, true, false, false, true, false, false] rfl rfl (any_of HT_.out (by kernel_rfl)) (fun _ _ _ h => h) (Or.inl ⟨by rfl, ?_⟩) ?_ ?_
        rotate_left
        ·intro w'
         go_simp
         with_reducible rfl
        rotate_left
        ·simp only [Act.put, List.setIfInBounds_toArray, List.set_cons_zero, List.set_cons_succ, i64_w, i32_w]
         rfl
        refine pure_ (i := 6) (N := some 29) (v := ?_) (a' := ?_) #[true, true, true, true, true, true, true, false, true, false, false] rfl rfl (any_of HT_.out (by kernel_rfl)) (fun _ _ _ h => h) (Or.inl ⟨by rfl, ?_⟩) ?_ ?_
        rotate_left
        ·intro w'
         go_simp
         with_reducible rfl
        rotate_left
        ·simp only [Act.put, List.setIfInBounds_toArray, List.set_cons_zero, List.set_cons_succ, i64_w, i32_w]
         rfl
        refine pure_ (i := 7) (N := some 30) (v := ?_) (a' := ?_) #[true, true, true, true, true, true, true, true, true, false, false] rfl rfl (any_of HT_.out (by kernel_rfl)) (fun _ _ _ h => h) (Or.inl ⟨by rfl, ?_⟩) ?_ ?_
        rotate_left
        ·intro w'
         go_simp
         with_reducible rfl
        rotate_left
        ·simp only [Act.put, List.setIfInBounds_toArray, List.set_cons_zero, List.set_cons_succ, i64_w, i32_w]
         rfl
        exact norm_ (by simp only [putAll, Act.put, List.setIfInBounds_toArray, List.set_cons_zero, List.set_cons_succ]) (hCont (gb738) _ ⟨hHeld, (rx HO_6.out), (bx BK716.out), (bx BK717.out), (bx BK728.out), (bx BK738.out), GW738.out, GE738.out, NB720_738.out, NB738_720.out, NB716_738.out, NB738_716.out, NB717_738.out, NB738_717.out, NB728_738.out, NB738_728.out, (ib HI720.out), (bi HB.out)⟩)
      ·skip
       refine box_step ?hg (N := 9) ?hd (cs := #[.string (⟨#[]⟩ : ByteArray), .int .i64 0, .int .i64 0]) (t := 31) ?hr ?_; (case hd => rfl); (case hg => rfl); (case hr => first | (go_simp; done) | (go_simp; rfl))
       intro gb738 hg w23 hbox hb
       have n0_ := Aside0.mk (Kd.R_below (rx HO_6.out) hb)
       have n1_ := up BK716 hb
       have n2_ := up BK717 hb
       have n3_ := up BK728 hb
       have n4_ := Aside0.mk (IsS107.below (ib HI720.out) hb)
       have n5_ := bsi HB hb
       have n6_ := Aside0.mk (hbox)
       have n7_ := Aside0.mk ((by rw [hg]; exact (below_size (bi HB.out)) : w.heap.size ≤ gb738))
       have n8_ := Aside0.mk ((by rw [hg]; exact (below_size (bi HB.out)) : w.heap.size ≤ gb738))
       have n9_ := nlt' hg BK716
       have n10_ := ngt' hg BK716
       have n11_ := nlt' hg BK717
       have n12_ := ngt' hg BK717
       have n13_ := nlt' hg BK728
       have n14_ := ngt' hg BK728
       have n15_ := Aside0.mk ((by rw [hg]; exact Nat.ne_of_lt (IsS107.lt (show IsS107 w _ g720 t718 x721001_1 from ib HI720.out)) : g720 ≠ gb738))
       have n16_ := Aside0.mk ((by rw [hg]; exact Nat.ne_of_gt (IsS107.lt (show IsS107 w _ g720 t718 x721001_1 from ib HI720.out)) : gb738 ≠ g720))
       clear HO_6
       clear BK716
       clear BK717
       clear BK728
       clear HI720
       clear HB
       have HO_6 := n0_
       have BK716 := n1_
       have BK717 := n2_
       have BK728 := n3_
       have HI720 := n4_
       have HB := n5_
       have BK738 := n6_
       have GW738 := n7_
       have GE738 := n8_
       have NB716_738 := n9_
       have NB738_716 := n10_
       have NB717_738 := n11_
       have NB738_717 := n12_
       have NB728_738 := n13_
       have NB738_728 := n14_
       have NB720_738 := n15_
       have NB738_720 := n16_
       clear n0_ n1_ n2_ n3_ n4_ n5_ n6_ n7_ n8_ n9_ n10_ n11_ n12_ n13_ n14_ n15_ n16_
       clear hb hbox hg
       refine hK.out _ _ ⟨(blk_cell BK728.out 0).trans rfl, (blk_cell BK728.out 1).trans rfl, (blk_cell BK728.out 2).trans rfl⟩ (fun hHeld => ?_)
       clear hK K
       refine norm_ (a' := ?_) ?_ ?_
       rotate_left
       ·show Act.put _ (some 9) _ = _
        simp only [Act.put, List.setIfInBounds_toArray, List.set_cons_zero, List.set_cons_succ, i64_w, i32_w]
        rfl
       refine one_ (i := 3) (N := some 27) #[true, true, true, true, false, false, false, false, true, false, false] rfl rfl (one_of HT_.out (by kernel_rfl)) (by decide) (fun K hK => ?_)
       refine goes_ Try.func65 (by kernel_rfl) rfl #[.pointer (some ⟨g720, 0, none⟩)] (by rfl) rfl rfl mxp ?_
       with_reducible refine (spec_l5Say.calls k1 g720 t718 x721001_1 t731 t732 t733 w _ ?side1 ?side2 A19.out).mono ?_
       (case side1 => exact ib HI720.out)
       (case side2 => exact bi HB.out)
       rintro e w24 ⟨rfl, hi, hb, hk⟩
       refine ⟨_, rfl, ?_⟩
       have n0_ := Aside0.mk (Kd.R_mono (Kd.R_keep (IsS107.apart (show IsS107 w _ g720 t718 x721001_1 from ib HI720.out) (rx HO_6.out) (by decide)) hk (fun _ h => h.2)) (fun _ h => h.1))
       have n1_ := kp BK716 hk NB716_720
       have n2_ := kp BK717 hk NB717_720
       have n3_ := kp BK728 hk NB728_720
       have n4_ := kp BK738 hk NB738_720
       have n5_ := Aside0.mk (hb)
       have n6_ := Aside0.mk (hi)
       clear HO_6
       clear BK716
       clear BK717
       clear BK728
       clear BK738
       clear HB
       clear HI720
       have HO_6 := n0_
       have BK716 := n1_
       have BK717 := n2_
       have BK728 := n3_
       have BK738 := n4_
       have HB := n5_
       have HI720 := n6_
       clear n0_ n1_ n2_ n3_ n4_ n5_ n6_
       (try clear hb)
       (try clear hb2)
       (try clear hk)
       (try clear hi)
       refine hK.out _ _ ⟨(blk_cell BK728.out 0).trans rfl, (blk_cell BK728.out 1).trans rfl, (blk_cell BK728.out 2).trans rfl⟩ (fun hHeld => ?_)
       clear hK K
       refine norm_ (a' := ?_) ?_ ?_
       rotate_left
       ·show Act.put _ (some 27) _ = _
        simp only [Act.put, List.setIfInBounds_toArray, List.set_cons_zero, List.set_cons_succ, i64_w, i32_w]
        rfl
       refine one_ (i := 4) (N := some 28) #[true, true, true, true, true, false, false, false, true, false, false] rfl rfl (one_of HT_.out (by kernel_rfl)) (by decide) (fun K hK => ?_)
       refine goes_ Try.func47 (by kernel_rfl) rfl #[.slice Ao10 t721.length co10, .agg #[.string x729000_1, .int .i64 x729001_1, .int .i64 x729002_1], .agg #[.int .i64 t731, .bool t732]] (by rfl) rfl rfl mxp ?_
       with_reducible refine (spec_RecGo.calls k1 _ _ t721 x729000_1 x729001_1 x729002_1 t731 t732 t734 t735 t736 true _ ?side1 ?side2 A20.out).mono ?_
       (case side1 => exact cx (Kd.R_reads' HO_6.out).2.2)
       (case side2 => exact (Kd.R_reads' HO_6.out).2.1)
       rintro e w25 ⟨rfl, hb⟩
       refine ⟨_, rfl, ?_⟩
       have n0_ := Aside0.mk (Kd.R_below (rx HO_6.out) hb)
       have n1_ := up BK716 hb
       have n2_ := up BK717 hb
       have n3_ := up BK728 hb
       have n4_ := Aside0.mk (IsS107.below (ib HI720.out) hb)
       have n5_ := up BK738 hb
       have n6_ := bsi HB hb
       clear HO_6
       clear BK716
       clear BK717
       clear BK728
       clear HI720
       clear BK738
       clear HB
       have HO_6 := n0_
       have BK716 := n1_
       have BK717 := n2_
       have BK728 := n3_
       have HI720 := n4_
       have BK738 := n5_
       have HB := n6_
       clear n0_ n1_ n2_ n3_ n4_ n5_ n6_
       (try clear hb)
       (try clear hb2)
       (try clear hk)
       (try clear hi)
       refine hK.out _ _ ⟨(blk_cell BK728.out 0).trans rfl, (blk_cell BK728.out 1).trans rfl, (blk_cell BK728.out 2).trans rfl⟩ (fun hHeld => ?_)
       clear hK K
       refine norm_ (a' := ?_) ?_ ?_
       rotate_left
       ·show Act.put _ (some 28) _ = _
        simp only [Act.put, List.setIfInBounds_toArray, List.set_cons_zero, List.set_cons_succ, i64_w, i32_w]
        rfl
       refine pure_ (i := 5) (N := some 23) (v := ?_) (a' := ?_) #[true, true, true, true, true, true, false, false, true, false, false] rfl rfl (any_of HT_.out (by kernel_rfl)) (fun _ _ _ h => h) (Or.inl ⟨by rfl, ?_⟩) ?_ ?_
       rotate_left
       ·intro w'
        go_simp
        with_reducible rfl
       rotate_left
       ·simp only [Act.put, List.setIfInBounds_toArray, List.set_cons_zero, List.set_cons_succ, i64_w, i32_w]
        rfl
       refine pure_ (i := 6) (N := some 29) (v := ?_) (a' := ?_) #[true, true, true, true, true, true, true, false, true, false, false] rfl rfl (any_of HT_.out (by kernel_rfl)) (fun _ _ _ h => h) (Or.inl ⟨by rfl, ?_⟩) ?_ ?_
       rotate_left
       ·intro w'
        go_simp
        with_reducible rfl
       rotate_left
       ·simp only [Act.put, List.setIfInBounds_toArray, List.set_cons_zero, List.set_cons_succ, i64_w, i32_w]
        rfl
       refine pure_ (i := 7) (N := some 30) (v := ?_) (a' := ?_) #[true, true, true, true, true, true, true, true, true, false, false] rfl rfl (any_of HT_.out (by kernel_rfl)) (fun _ _ _ h => h) (Or.inl ⟨by rfl, ?_⟩) ?_ ?_
       rotate_left
       ·intro w'
        go_simp
        with_reducible rfl
       rotate_left
       ·simp only [Act.put, List.setIfInBounds_toArray, List.set_cons_zero, List.set_cons_succ, i64_w, i32_w]
        rfl
       exact norm_ (by simp only [putAll, Act.put, List.setIfInBounds_toArray, List.set_cons_zero, List.set_cons_succ]) (hCont (gb738) _ ⟨hHeld, (rx HO_6.out), (bx BK716.out), (bx BK717.out), (bx BK728.out), (bx BK738.out), GW738.out, GE738.out, NB720_738.out, NB738_720.out, NB716_738.out, NB738_716.out, NB717_738.out, NB738_717.out, NB728_738.out, NB738_728.out, (ib HI720.out), (bi HB.out)⟩)
     rintro gb738 w26 ⟨hS_, h0_, h1_, h2_, h3_, h4_, h5_, h6_, h7_, h8_, h9_, h10_, h11_, h12_, h13_, h14_, h15_, h16_⟩
     have n0_ : Aside0 (Kd.R k39 39 w26 w.heap.size (fun _ => True) (.slice Ao10 t721.length co10) t721) := ⟨h0_⟩
     have n1_ : Aside0 (w26.heap[gb716]? = some (.cells #[.string (⟨#[]⟩ : ByteArray), .int .i64 0, .int .i64 0] 31 (0, 0))) := ⟨h1_⟩
     have n2_ : Aside0 (w26.heap[gb717]? = some (.cells #[.int .i64 0, .bool false] 43 (0, 0))) := ⟨h2_⟩
     have n3_ : Aside0 (w26.heap[gb728]? = some (.cells #[.string x729000_1, .int .i64 x729001_1, .int .i64 x729002_1] 31 (0, 0))) := ⟨h3_⟩
     have n4_ : Aside0 (w26.heap[gb738]? = some (.cells #[.string (⟨#[]⟩ : ByteArray), .int .i64 0, .int .i64 0] 31 (0, 0))) := ⟨h4_⟩
     have n5_ : Aside0 (w.heap.size ≤ gb738) := ⟨h5_⟩
     have n6_ : Aside0 (w.heap.size ≤ gb738) := ⟨h6_⟩
     have n7_ : Aside0 (g720 ≠ gb738) := ⟨h7_⟩
     have n8_ : Aside0 (gb738 ≠ g720) := ⟨h8_⟩
     have n9_ : Aside0 (gb716 ≠ gb738) := ⟨h9_⟩
     have n10_ : Aside0 (gb738 ≠ gb716) := ⟨h10_⟩
     have n11_ : Aside0 (gb717 ≠ gb738) := ⟨h11_⟩
     have n12_ : Aside0 (gb738 ≠ gb717) := ⟨h12_⟩
     have n13_ : Aside0 (gb728 ≠ gb738) := ⟨h13_⟩
     have n14_ : Aside0 (gb738 ≠ gb728) := ⟨h14_⟩
     have n15_ : Aside0 (IsS107 w w26 g720 t718 t733) := ⟨h15_⟩
     have n16_ : Aside0 (Below w.heap.size w w26) := ⟨h16_⟩
     clear HO_6
     clear BK716
     clear BK717
     clear BK728
     clear HI720
     clear HB
     clear h0_ h1_ h2_ h3_ h4_ h5_ h6_ h7_ h8_ h9_ h10_ h11_ h12_ h13_ h14_ h15_ h16_
     have HO_6 := n0_
     have BK716 := n1_
     have BK717 := n2_
     have BK728 := n3_
     have BK738 := n4_
     have GW738 := n5_
     have GE738 := n6_
     have NB720_738 := n7_
     have NB738_720 := n8_
     have NB716_738 := n9_
     have NB738_716 := n10_
     have NB717_738 := n11_
     have NB738_717 := n12_
     have NB728_738 := n13_
     have NB738_728 := n14_
     have HI720 := n15_
     have HB := n16_
     clear n0_ n1_ n2_ n3_ n4_ n5_ n6_ n7_ n8_ n9_ n10_ n11_ n12_ n13_ n14_ n15_ n16_
     have hHeld : w26.cell? ⟨gb728, 0, none⟩ = some (.string x729000_1) ∧ w26.cell? ⟨gb728, 1, none⟩ = some (.int .i64 x729001_1) ∧ w26.cell? ⟨gb728, 2, none⟩ = some (.int .i64 x729002_1) := hS_
     refine norm_ (a' := ?_) ?_ ?_
     rotate_left
     ·simp only [putAll, Act.put, List.setIfInBounds_toArray, List.set_cons_zero, List.set_cons_succ]
      rfl
     refine one_ (i := 9) (N := none) #[true, true, true, true, true, true, true, true, true, true, false] rfl rfl (one_of HT_.out (by kernel_rfl)) (by decide) (fun K hK => ?_)
     have hs27 : w26.cell? ⟨gb738, 0, none⟩ = some (.string (⟨#[]⟩ : ByteArray)) := (blk_cell BK738.out 0).trans rfl
     have hfs27 := blk_frozen BK738.out 0
     have hns27_0 := NB716_738.out
     have hns27_1 := NB717_738.out
     have hns27_2 := NB728_738.out
     have hms27_0 := NB738_716.out
     have hms27_1 := NB738_717.out
     have hms27_2 := NB738_728.out
     have hs28 : w26.cell? ⟨gb738, 1, none⟩ = some (.int .i64 0) := (blk_cell BK738.out 1).trans rfl
     have hfs28 := blk_frozen BK738.out 1
     have hns28_0 := NB716_738.out
     have hns28_1 := NB717_738.out
     have hns28_2 := NB728_738.out
     have hms28_0 := NB738_716.out
     have hms28_1 := NB738_717.out
     have hms28_2 := NB738_728.out
     have hs29 : w26.cell? ⟨gb738, 2, none⟩ = some (.int .i64 0) := (blk_cell BK738.out 2).trans rfl
     have hfs29 := blk_frozen BK738.out 2
     have hns29_0 := NB716_738.out
     have hns29_1 := NB717_738.out
     have hns29_2 := NB728_738.out
     have hms29_0 := NB738_716.out
     have hms29_1 := NB738_717.out
     have hms29_2 := NB738_728.out
     refine skip_ (w1 := ?_) (by rfl) rfl ?_ ?_
     rotate_left
     ·go_simp
      rfl
     refine hK.out _ _ ⟨((cell_far (p := ⟨gb738, _, none⟩) NB728_738.out _).trans (((cell_far (p := ⟨gb738, _, none⟩) NB728_738.out _).trans (((cell_far (p := ⟨gb738, _, none⟩) NB728_738.out _).trans (hHeld.1)))))), ((cell_far (p := ⟨gb738, _, none⟩) NB728_738.out _).trans (((cell_far (p := ⟨gb738, _, none⟩) NB728_738.out _).trans (((cell_far (p := ⟨gb738, _, none⟩) NB728_738.out _).trans (hHeld.2.1)))))), ((cell_far (p := ⟨gb738, _, none⟩) NB728_738.out _).trans (((cell_far (p := ⟨gb738, _, none⟩) NB728_738.out _).trans (((cell_far (p := ⟨gb738, _, none⟩) NB728_738.out _).trans (hHeld.2.2))))))⟩ (fun hHeld => ?_)
     clear hK K
     refine pure_ (i := 10) (N := some 10) (v := ?_) (a' := ?_) #[true, true, true, true, true, true, true, true, true, true, true] rfl rfl (any_of HT_.out (by kernel_rfl)) (fun _ _ _ h => h) (Or.inl ⟨by rfl, ?_⟩) ?_ ?_
     rotate_left
     ·intro w'
      go_simp
      with_reducible rfl
     rotate_left
     ·simp only [Act.put, List.setIfInBounds_toArray, List.set_cons_zero, List.set_cons_succ, i64_w, i32_w]
      rfl
     refine done_ (done_of HT_.out (by kernel_rfl)) ?_
     have hnb30 := NB738_716.out
     have hnc30 := NB716_738.out
     have hnb31 := NB738_717.out
     have hnc31 := NB717_738.out
     have hnb32 := NB738_728.out
     have hnc32 := NB728_738.out
     have hnb33 := NB738_720.out
     have hnc33 := NB720_738.out
     have hcz34_0 := b0 BK738
     have hcz34_1 := b1 BK738
     have hcz34_2 := b2 BK738
     have hfz34_0 := fz BK738 0
     have hfz34_1 := fz BK738 1
     have hfz34_2 := fz BK738 2
     have hnb35 := NB728_716.out
     have hnc35 := NB716_728.out
     have hnb36 := NB728_717.out
     have hnc36 := NB717_728.out
     have hnb37 := NB728_720.out
     have hnc37 := NB720_728.out
     have hcz38_0 := b0 BK728
     have hcz38_1 := b1 BK728
     have hcz38_2 := b2 BK728
     have hfz38_0 := fz BK728 0
     have hfz38_1 := fz BK728 1
     have hfz38_2 := fz BK728 2
     try go_wp2
     go_roundg k1
     case measure => have := HK1.out; omega
     case rel => exact ⟨(wrap64 (x8_1 - 1)), (t733), (t734), (t735), (t736), (by first | rfl | (simp; done) | (simp [*]; done)), H', ⟨by have := HK1.out; omega⟩, ⟨by refine rx ?_; exact Kd.R_mono (Kd.R_far (p := ⟨gb728, 2, none⟩) (Kd.R_far (p := ⟨gb728, 1, none⟩) (Kd.R_far (p := ⟨gb728, 0, none⟩) (Kd.R_far (p := ⟨gb738, 2, none⟩) (Kd.R_far (p := ⟨gb738, 1, none⟩) (Kd.R_far (p := ⟨gb738, 0, none⟩) (Kd.R_types (Kd.R_types HO_6.out BK738.out (by decide)) BK728.out (by decide)) (fun _ hk => hk.1.2) (.string t734)) (fun _ hk => hk.1.2) (.int .i64 t735)) (fun _ hk => hk.1.2) (.int .i64 t736)) (fun _ hk => hk.2) (.string t734)) (fun _ hk => hk.2) (.int .i64 t735)) (fun _ hk => hk.2) (.int .i64 t736)) (fun _ hk => trivial)⟩, ⟨by refine bx ?_; refine blk_far ?_ NB716_728.out _; refine bx ?_; refine blk_far ?_ NB716_728.out _; refine bx ?_; refine blk_far ?_ NB716_728.out _; refine bx ?_; refine blk_far ?_ NB716_738.out _; refine bx ?_; refine blk_far ?_ NB716_738.out _; refine bx ?_; refine blk_far ?_ NB716_738.out _; refine bx ?_; exact BK716.out⟩, ⟨by refine bx ?_; refine blk_far ?_ NB717_728.out _; refine bx ?_; refine blk_far ?_ NB717_728.out _; refine bx ?_; refine blk_far ?_ NB717_728.out _; refine bx ?_; refine blk_far ?_ NB717_738.out _; refine bx ?_; refine blk_far ?_ NB717_738.out _; refine bx ?_; refine blk_far ?_ NB717_738.out _; refine bx ?_; exact BK717.out⟩, ⟨by refine bx ?_; refine blk_put (cs := #[.string t734, .int .i64 t735, .int .i64 x729002_1]) ?_ 2 _ rfl; refine bx ?_; refine blk_put (cs := #[.string t734, .int .i64 x729001_1, .int .i64 x729002_1]) ?_ 1 _ rfl; refine bx ?_; refine blk_put (cs := #[.string x729000_1, .int .i64 x729001_1, .int .i64 x729002_1]) ?_ 0 _ rfl; refine bx ?_; refine blk_far ?_ NB728_738.out _; refine bx ?_; refine blk_far ?_ NB728_738.out _; refine bx ?_; refine blk_far ?_ NB728_738.out _; refine bx ?_; exact BK728.out⟩, ⟨ib HI720.out⟩, (hbi HB)⟩
    ·replace c21 := Bool.eq_false_iff.mpr c21
     subst c21
     have H1 : (spec_DrawRecGo.l0 k1 t721 (wrap64 (x8_1 - 1)) t718 t733 x729000_1 x729001_1 x729002_1) = some (r1, r2, r3, r4, r5, r6) := by rw [if_neg (show ¬ (false = true) by decide)] at H; exact H
     clear H
     have H := H1
     clear H1
     have H' := Aside0.mk H
     clear H
     try go_wp2
     have n0_ := Aside0.mk (Kd.R_drew HO_6.out)
     have n1_ := Aside0.mk (blk_drew BK716.out)
     have n2_ := Aside0.mk (blk_drew BK717.out)
     have n3_ := Aside0.mk (blk_drew BK728.out)
     have n4_ := Aside0.mk (IsS107.drew HI720.out)
     have n5_ := Aside0.mk (below_drew1 HB.out)
     clear HO_6
     clear BK716
     clear BK717
     clear BK728
     clear HI720
     clear HB
     have HO_6 := n0_
     have BK716 := n1_
     have BK717 := n2_
     have BK728 := n3_
     have HI720 := n4_
     have HB := n5_
     clear n0_ n1_ n2_ n3_ n4_ n5_
     refine start_ (n := 11) (S := fun w' => w'.cell? ⟨gb728, 0, none⟩ = some (.string x729000_1) ∧ w'.cell? ⟨gb728, 1, none⟩ = some (.int .i64 x729001_1) ∧ w'.cell? ⟨gb728, 2, none⟩ = some (.int .i64 x729002_1)) (ds := []) #[false, false, false, false, false, false, false, false, false, false, false] (by kernel_rfl) rfl rfl ⟨(blk_cell BK728.out 0).trans rfl, (blk_cell BK728.out 1).trans rfl, (blk_cell BK728.out 2).trans rfl⟩ (fun hHeld => ?_); refine with_tabW spec_DrawRecGo.tab7 spec_DrawRecGo.bits7 (fun HT_ HW_ => ?_)
     generalize wr.drew = w39 at HO_6 BK716 BK717 BK728 HI720 HB hHeld ⊢
     refine pure_ (i := 0) (N := some 24) (v := ?_) (a' := ?_) #[true, false, false, false, false, false, false, false, false, false, false] rfl rfl (any_of HT_.out (by kernel_rfl)) (fun _ _ _ h => h) (Or.inl ⟨by rfl, ?_⟩) ?_ ?_
     rotate_left
     ·intro w'
      go_simp
      with_reducible rfl
     rotate_left
     ·simp only [Act.put, List.setIfInBounds_toArray, List.set_cons_zero, List.set_cons_succ, i64_w, i32_w]
      rfl
     refine pure_ (i := 2) (N := some 26) (v := ?_) (a' := ?_) #[true, false, true, false, false, false, false, false, false, false, false] rfl rfl (any_of HT_.out (by kernel_rfl)) (fun _ _ _ h => h) (Or.inl ⟨by rfl, ?_⟩) ?_ ?_
     rotate_left
     ·intro w'
      go_simp
      with_reducible rfl
     rotate_left
     ·simp only [Act.put, List.setIfInBounds_toArray, List.set_cons_zero, List.set_cons_succ, i64_w, i32_w]
      rfl
     refine take_ (i := 1) (N := some 25) (v := ?_) (a' := ?_) #[true, true, true, false, false, false, false, false, false, false, false] rfl rfl (take_ofW HT_.out HW_.out (by kernel_rfl)) (fun _ _ _ h => h) (Or.inl ⟨by rfl, ?_⟩) hHeld ?_ ?_
     rotate_left
     ·rintro w' ⟨s0, s1, s2⟩
      go_simp
      with_reducible rfl
     rotate_left
     ·simp only [Act.put, List.setIfInBounds_toArray, List.set_cons_zero, List.set_cons_succ, i64_w, i32_w]
      rfl
     refine join_ (σ := Nat) 2 #[true, true, true, true, true, true, true, true, true, false, false] (fun s_ => [(27, .agg #[.int .i64 t731, .bool t732]), (28, .tuple #[.agg #[.string t734, .int .i64 t735, .int .i64 t736], .bool false]), (9, .pointer (some ⟨s_, 0, none⟩)), (23, .tuple #[.agg #[.string t734, .int .i64 t735, .int .i64 t736], .bool false]), (29, .agg #[.string t734, .int .i64 t735, .int .i64 t736]), (30, .bool false)]) (fun s_ w' => (w'.cell? ⟨gb728, 0, none⟩ = some (.string x729000_1) ∧ w'.cell? ⟨gb728, 1, none⟩ = some (.int .i64 x729001_1) ∧ w'.cell? ⟨gb728, 2, none⟩ = some (.int .i64 x729002_1)) ∧ (Kd.R k39 39 w' w.heap.size (fun _ => True) (.slice Ao10 t721.length co10) t721) ∧ (w'.heap[gb716]? = some (.cells #[.string (⟨#[]⟩ : ByteArray), .int .i64 0, .int .i64 0] 31 (0, 0))) ∧ (w'.heap[gb717]? = some (.cells #[.int .i64 0, .bool false] 43 (0, 0))) ∧ (w'.heap[gb728]? = some (.cells #[.string x729000_1, .int .i64 x729001_1, .int .i64 x729002_1] 31 (0, 0))) ∧ (w'.heap[s_]? = some (.cells #[.string (⟨#[]⟩ : ByteArray), .int .i64 0, .int .i64 0] 31 (0, 0))) ∧ (w.heap.size ≤ s_) ∧ (w.heap.size ≤ s_) ∧ (g720 ≠ s_) ∧ (s_ ≠ g720) ∧ (gb716 ≠ s_) ∧ (s_ ≠ gb716) ∧ (gb717 ≠ s_) ∧ (s_ ≠ gb717) ∧ (gb728 ≠ s_) ∧ (s_ ≠ gb728) ∧ (IsS107 w w' g720 t718 t733) ∧ (Below w.heap.size w w')) ?_ ?_
     rotate_left
     ·intro hCont
      refine two_ (i := 3) (j := 8) (Ni := some 27) (Nj := some 9) #[true, true, true, true, false, false, false, false, false, false, false] #[true, true, true, false, false, false, false, false, true, false, false] rfl rfl rfl rfl (two_of HT_.out (by kernel_rfl)) (by decide) (by decide) (fun K hK => ?_) (fun K hK => ?_)
      ·skip
       refine goes_ Try.func65 (by kernel_rfl) rfl #[.pointer (some ⟨g720, 0, none⟩)] (by rfl) rfl rfl mxp ?_
       with_reducible refine (spec_l5Say.calls k1 g720 t718 x721001_1 t731 t732 t733 w _ ?side1 ?side2 A19.out).mono ?_
       (case side1 => exact ib HI720.out)
       (case side2 => exact bi HB.out)
       rintro e w40 ⟨rfl, hi, hb, hk⟩
       refine ⟨_, rfl, ?_⟩
       have n0_ := Aside0.mk (Kd.R_mono (Kd.R_keep (IsS107.apart (show IsS107 w _ g720 t718 x721001_1 from ib HI720.out) (rx HO_6.out) (by decide)) hk (fun _ h => h.2)) (fun _ h => h.1))
       have n1_ := kp BK716 hk NB716_720
       have n2_ := kp BK717 hk NB717_720
       have n3_ := kp BK728 hk NB728_720
       have n4_ := Aside0.mk (hb)
       have n5_ := Aside0.mk (hi)
       clear HO_6
       clear BK716
       clear BK717
       clear BK728
       clear HB
       clear HI720
       have HO_6 := n0_
       have BK716 := n1_
       have BK717 := n2_
       have BK728 := n3_
       have HB := n4_
       have HI720 := n5_
       clear n0_ n1_ n2_ n3_ n4_ n5_
       (try clear hb)
       (try clear hb2)
       (try clear hk)
       (try clear hi)
       refine hK.out _ _ ⟨(blk_cell BK728.out 0).trans rfl, (blk_cell BK728.out 1).trans rfl, (blk_cell BK728.out 2).trans rfl⟩ (fun hHeld => ?_)
       clear hK K
       refine norm_ (a' := ?_) ?_ ?_
       rotate_left
       ·show Act.put _ (some 27) _ = _
        simp only [Act.put, List.setIfInBounds_toArray, List.set_cons_zero, List.set_cons_succ, i64_w, i32_w]
        rfl
       refine two_ (i := 4) (j := 8) (Ni := some 28) (Nj := some 9) #[true, true, true, true, true, false, false, false, false, false, false] #[true, true, true, true, false, false, false, false, true, false, false] rfl rfl rfl rfl (two_of HT_.out (by kernel_rfl)) (by decide) (by decide) (fun K hK => ?_) (fun K hK => ?_)
       ·skip
        refine goes_ Try.func47 (by kernel_rfl) rfl #[.slice Ao10 t721.length co10, .agg #[.string x729000_1, .int .i64 x729001_1, .int .i64 x729002_1], .agg #[.int .i64 t731, .bool t732]] (by rfl) rfl rfl mxp ?_
        with_reducible refine (spec_RecGo.calls k1 _ _ t721 x729000_1 x729001_1 x729002_1 t731 t732 t734 t735 t736 false _ ?side1 ?side2 A20.out).mono ?_
        (case side1 => exact cx (Kd.R_reads' HO_6.out).2.2)
        (case side2 => exact (Kd.R_reads' HO_6.out).2.1)
        rintro e w41 ⟨rfl, hb⟩
        refine ⟨_, rfl, ?_⟩
        have n0_ := Aside0.mk (Kd.R_below (rx HO_6.out) hb)
        have n1_ := up BK716 hb
        have n2_ := up BK717 hb
        have n3_ := up BK728 hb
        have n4_ := Aside0.mk (IsS107.below (ib HI720.out) hb)
        have n5_ := bsi HB hb
        clear HO_6
        clear BK716
        clear BK717
        clear BK728
        clear HI720
        clear HB
        have HO_6 := n0_
        have BK716 := n1_
        have BK717 := n2_
        have BK728 := n3_
        have HI720 := n4_
        have HB := n5_
        clear n0_ n1_ n2_ n3_ n4_ n5_
        (try clear hb)
        (try clear hb2)
        (try clear hk)
        (try clear hi)
        refine hK.out _ _ ⟨(blk_cell BK728.out 0).trans rfl, (blk_cell BK728.out 1).trans rfl, (blk_cell BK728.out 2).trans rfl⟩ (fun hHeld => ?_)
        clear hK K
        refine norm_ (a' := ?_) ?_ ?_
        rotate_left
        ·show Act.put _ (some 28) _ = _
         simp only [Act.put, List.setIfInBounds_toArray, List.set_cons_zero, List.set_cons_succ, i64_w, i32_w]
         rfl
        refine pure_ (i := 5) (N := some 23) (v := ?_) (a' := ?_) #[true, true, true, true, true, true, false, false, false, false, false] rfl rfl (any_of HT_.out (by kernel_rfl)) (fun _ _ _ h => h) (Or.inl ⟨by rfl, ?_⟩) ?_ ?_
        rotate_left
        ·intro w'
         go_simp
         with_reducible rfl
        rotate_left
        ·simp only [Act.put, List.setIfInBounds_toArray, List.set_cons_zero, List.set_cons_succ, i64_w, i32_w]
         rfl
        refine pure_ (i := 6) (N := some 29) (v := ?_) (a' := ?_) #[true, true, true, true, true, true, true, false, false, false, false] rfl rfl (any_of HT_.out (by kernel_rfl)) (fun _ _ _ h => h) (Or.inl ⟨by rfl, ?_⟩) ?_ ?_
        rotate_left
        ·intro w'
         go_simp
         with_reducible rfl
        rotate_left
        ·simp only [Act.put, List.setIfInBounds_toArray, List.set_cons_zero, List.set_cons_succ, i64_w, i32_w]
         rfl
        refine pure_ (i := 7) (N := some 30) (v := ?_) (a' := ?_) #[true, true, true, true, true, true, true, true, false, false, false] rfl rfl (any_of HT_.out (by kernel_rfl)) (fun _ _ _ h => h) (Or.inl ⟨by rfl, ?_⟩) ?_ ?_
        rotate_left
        ·intro w'
         go_simp
         with_reducible rfl
        rotate_left
        ·simp only [Act.put, List.setIfInBounds_toArray, List.set_cons_zero, List.set_cons_succ, i64_w, i32_w]
         rfl
        refine one_ (i := 8) (N := some 9) #[true, true, true, true, true, true, true, true, true, false, false] rfl rfl (one_of HT_.out (by kernel_rfl)) (by decide) (fun K hK => ?_)
        refine box_step ?hg (N := 9) ?hd (cs := #[.string (⟨#[]⟩ : ByteArray), .int .i64 0, .int .i64 0]) (t := 31) ?hr ?_; (case hd => rfl); (case hg => rfl); (case hr => first | (go_simp; done) | (go_simp; rfl))
        intro gb738 hg w42 hbox hb
        have n0_ := Aside0.mk (Kd.R_below (rx HO_6.out) hb)
        have n1_ := up BK716 hb
        have n2_ := up BK717 hb
        have n3_ := up BK728 hb
        have n4_ := Aside0.mk (IsS107.below (ib HI720.out) hb)
        have n5_ := bsi HB hb
        have n6_ := Aside0.mk (hbox)
        have n7_ := Aside0.mk ((by rw [hg]; exact (below_size (bi HB.out)) : w.heap.size ≤ gb738))
        have n8_ := Aside0.mk ((by rw [hg]; exact (below_size (bi HB.out)) : w.heap.size ≤ gb738))
        have n9_ := nlt' hg BK716
        have n10_ := ngt' hg BK716
        have n11_ := nlt' hg BK717
        have n12_ := ngt' hg BK717
        have n13_ := nlt' hg BK728
        have n14_ := ngt' hg BK728
        have n15_ := Aside0.mk ((by rw [hg]; exact Nat.ne_of_lt (IsS107.lt (show IsS107 w _ g720 t718 t733 from ib HI720.out)) : g720 ≠ gb738))
        have n16_ := Aside0.mk ((by rw [hg]; exact Nat.ne_of_gt (IsS107.lt (show IsS107 w _ g720 t718 t733 from ib HI720.out)) : gb738 ≠ g720))
        clear HO_6
        clear BK716
        clear BK717
        clear BK728
        clear HI720
        clear HB
        have HO_6 := n0_
        have BK716 := n1_
        have BK717 := n2_
        have BK728 := n3_
        have HI720 := n4_
        have HB := n5_
        have BK738 := n6_
        have GW738 := n7_
        have GE738 := n8_
        have NB716_738 := n9_
        have NB738_716 := n10_
        have NB717_738 := n11_
        have NB738_717 := n12_
        have NB728_738 := n13_
        have NB738_728 := n14_
        have NB720_738 := n15_
        have NB738_720 := n16_
        clear n0_ n1_ n2_ n3_ n4_ n5_ n6_ n7_ n8_ n9_ n10_ n11_ n12_ n13_ n14_ n15_ n16_
        clear hb hbox hg
        refine hK.out _ _ ⟨(blk_cell BK728.out 0).trans rfl, (blk_cell BK728.out 1).trans rfl, (blk_cell BK728.out 2).trans rfl⟩ (fun hHeld => ?_)
        clear hK K
        refine norm_ (a' := ?_) ?_ ?_
        rotate_left
        ·show Act.put _ (some 9) _ = _
         simp only [Act.put, List.setIfInBounds_toArray, List.set_cons_zero, List.set_cons_succ, i64_w, i32_w]
         rfl
        exact norm_ (by simp only [putAll, Act.put, List.setIfInBounds_toArray, List.set_cons_zero, List.set_cons_succ]) (hCont (gb738) _ ⟨hHeld, (rx HO_6.out), (bx BK716.out), (bx BK717.out), (bx BK728.out), (bx BK738.out), GW738.out, GE738.out, NB720_738.out, NB738_720.out, NB716_738.out, NB738_716.out, NB717_738.out, NB738_717.out, NB728_738.out, NB738_728.out, (ib HI720.out), (bi HB.out)⟩)
       ·skip
        refine box_step ?hg (N := 9) ?hd (cs := #[.string (⟨#[]⟩ : ByteArray), .int .i64 0, .int .i64 0]) (t := 31) ?hr ?_; (case hd => rfl); (case hg => rfl); (case hr => first | (go_simp; done) | (go_simp; rfl))
        intro gb738 hg w41 hbox hb
        have n0_ := Aside0.mk (Kd.R_below (rx HO_6.out) hb)
        have n1_ := up BK716 hb
        have n2_ := up BK717 hb
        have n3_ := up BK728 hb
        have n4_ := Aside0.mk (IsS107.below (ib HI720.out) hb)
        have n5_ := bsi HB hb
        have n6_ := Aside0.mk (hbox)
        have n7_ := Aside0.mk ((by rw [hg]; exact (below_size (bi HB.out)) : w.heap.size ≤ gb738))
        have n8_ := Aside0.mk ((by rw [hg]; exact (below_size (bi HB.out)) : w.heap.size ≤ gb738))
        have n9_ := nlt' hg BK716
        have n10_ := ngt' hg BK716
        have n11_ := nlt' hg BK717
        have n12_ := ngt' hg BK717
        have n13_ := nlt' hg BK728
        have n14_ := ngt' hg BK728
        have n15_ := Aside0.mk ((by rw [hg]; exact Nat.ne_of_lt (IsS107.lt (show IsS107 w _ g720 t718 t733 from ib HI720.out)) : g720 ≠ gb738))
        have n16_ := Aside0.mk ((by rw [hg]; exact Nat.ne_of_gt (IsS107.lt (show IsS107 w _ g720 t718 t733 from ib HI720.out)) : gb738 ≠ g720))
        clear HO_6
        clear BK716
        clear BK717
        clear BK728
        clear HI720
        clear HB
        have HO_6 := n0_
        have BK716 := n1_
        have BK717 := n2_
        have BK728 := n3_
        have HI720 := n4_
        have HB := n5_
        have BK738 := n6_
        have GW738 := n7_
        have GE738 := n8_
        have NB716_738 := n9_
        have NB738_716 := n10_
        have NB717_738 := n11_
        have NB738_717 := n12_
        have NB728_738 := n13_
        have NB738_728 := n14_
        have NB720_738 := n15_
        have NB738_720 := n16_
        clear n0_ n1_ n2_ n3_ n4_ n5_ n6_ n7_ n8_ n9_ n10_ n11_ n12_ n13_ n14_ n15_ n16_
        clear hb hbox hg
        refine hK.out _ _ ⟨(blk_cell BK728.out 0).trans rfl, (blk_cell BK728.out 1).trans rfl, (blk_cell BK728.out 2).trans rfl⟩ (fun hHeld => ?_)
        clear hK K
        refine norm_ (a' := ?_) ?_ ?_
        rotate_left
        ·show Act.put _ (some 9) _ = _
         simp only [Act.put, List.setIfInBounds_toArray, List.set_cons_zero, List.set_cons_succ, i64_w, i32_w]
         rfl
        refine one_ (i := 4) (N := some 28) #[true, true, true, true, true, false, false, false, true, false, false] rfl rfl (one_of HT_.out (by kernel_rfl)) (by decide) (fun K hK => ?_)
        refine goes_ Try.func47 (by kernel_rfl) rfl #[.slice Ao10 t721.length co10, .agg #[.string x729000_1, .int .i64 x729001_1, .int .i64 x729002_1], .agg #[.int .i64 t731, .bool t732]] (by rfl) rfl rfl mxp ?_
        with_reducible refine (spec_RecGo.calls k1 _ _ t721 x729000_1 x729001_1 x729002_1 t731 t732 t734 t735 t736 false _ ?side1 ?side2 A20.out).mono ?_
        (case side1 => exact cx (Kd.R_reads' HO_6.out).2.2)
        (case side2 => exact (Kd.R_reads' HO_6.out).2.1)
        rintro e w42 ⟨rfl, hb⟩
        refine ⟨_, rfl, ?_⟩
        have n0_ := Aside0.mk (Kd.R_below (rx HO_6.out) hb)
        have n1_ := up BK716 hb
        have n2_ := up BK717 hb
        have n3_ := up BK728 hb
        have n4_ := Aside0.mk (IsS107.below (ib HI720.out) hb)
        have n5_ := up BK738 hb
        have n6_ := bsi HB hb
        clear HO_6
        clear BK716
        clear BK717
        clear BK728
        clear HI720
        clear BK738
        clear HB
        have HO_6 := n0_
        have BK716 := n1_
        have BK717 := n2_
        have BK728 := n3_
        have HI720 := n4_
        have BK738 := n5_
        have HB := n6_
        clear n0_ n1_ n2_ n3_ n4_ n5_ n6_
        (try clear hb)
        (try clear hb2)
        (try clear hk)
        (try clear hi)
        refine hK.out _ _ ⟨(blk_cell BK728.out 0).trans rfl, (blk_cell BK728.out 1).trans rfl, (blk_cell BK728.out 2).trans rfl⟩ (fun hHeld => ?_)
        clear hK K
        refine norm_ (a' := ?_) ?_ ?_
        rotate_left
        ·show Act.put _ (some 28) _ = _
         simp only [Act.put, List.setIfInBounds_toArray, List.set_cons_zero, List.set_cons_succ, i64_w, i32_w]
         rfl
        refine pure_ (i := 5) (N := some 23) (v := ?_) (a' := ?_) #[true, true, true, true, true, true, false, false, true, false, false] rfl rfl (any_of HT_.out (by kernel_rfl)) (fun _ _ _ h => h) (Or.inl ⟨by rfl, ?_⟩) ?_ ?_
        rotate_left
        ·intro w'
         go_simp
         with_reducible rfl
        rotate_left
        ·simp only [Act.put, List.setIfInBounds_toArray, List.set_cons_zero, List.set_cons_succ, i64_w, i32_w]
         rfl
        refine pure_ (i := 6) (N := some 29) (v := ?_) (a' := ?_) #[true, true, true, true, true, true, true, false, true, false, false] rfl rfl (any_of HT_.out (by kernel_rfl)) (fun _ _ _ h => h) (Or.inl ⟨by rfl, ?_⟩) ?_ ?_
        rotate_left
        ·intro w'
         go_simp
         with_reducible rfl
        rotate_left
        ·simp only [Act.put, List.setIfInBounds_toArray, List.set_cons_zero, List.set_cons_succ, i64_w, i32_w]
         rfl
        refine pure_ (i := 7) (N := some 30) (v := ?_) (a' := ?_) #[true, true, true, true, true, true, true, true, true, false, false] rfl rfl (any_of HT_.out (by kernel_rfl)) (fun _ _ _ h => h) (Or.inl ⟨by rfl, ?_⟩) ?_ ?_
        rotate_left
        ·intro w'
         go_simp
         with_reducible rfl
        rotate_left
        ·simp only [Act.put, List.setIfInBounds_toArray, List.set_cons_zero, List.set_cons_succ, i64_w, i32_w]
         rfl
        exact norm_ (by simp only [putAll, Act.put, List.setIfInBounds_toArray, List.set_cons_zero, List.set_cons_succ]) (hCont (gb738) _ ⟨hHeld, (rx HO_6.out), (bx BK716.out), (bx BK717.out), (bx BK728.out), (bx BK738.out), GW738.out, GE738.out, NB720_738.out, NB738_720.out, NB716_738.out, NB738_716.out, NB717_738.out, NB738_717.out, NB728_738.out, NB738_728.out, (ib HI720.out), (bi HB.out)⟩)
      ·skip
       refine box_step ?hg (N := 9) ?hd (cs := #[.string (⟨#[]⟩ : ByteArray), .int .i64 0, .int .i64 0]) (t := 31) ?hr ?_; (case hd => rfl); (case hg => rfl); (case hr => first | (go_simp; done) | (go_simp; rfl))
       intro gb738 hg w40 hbox hb
       have n0_ := Aside0.mk (Kd.R_below (rx HO_6.out) hb)
       have n1_ := up BK716 hb
       have n2_ := up BK717 hb
       have n3_ := up BK728 hb
       have n4_ := Aside0.mk (IsS107.below (ib HI720.out) hb)
       have n5_ := bsi HB hb
       have n6_ := Aside0.mk (hbox)
       have n7_ := Aside0.mk ((by rw [hg]; exact (below_size (bi HB.out)) : w.heap.size ≤ gb738))
       have n8_ := Aside0.mk ((by rw [hg]; exact (below_size (bi HB.out)) : w.heap.size ≤ gb738))
       have n9_ := nlt' hg BK716
       have n10_ := ngt' hg BK716
       have n11_ := nlt' hg BK717
       have n12_ := ngt' hg BK717
       have n13_ := nlt' hg BK728
       have n14_ := ngt' hg BK728
       have n15_ := Aside0.mk ((by rw [hg]; exact Nat.ne_of_lt (IsS107.lt (show IsS107 w _ g720 t718 x721001_1 from ib HI720.out)) : g720 ≠ gb738))
       have n16_ := Aside0.mk ((by rw [hg]; exact Nat.ne_of_gt (IsS107.lt (show IsS107 w _ g720 t718 x721001_1 from ib HI720.out)) : gb738 ≠ g720))
       clear HO_6
       clear BK716
       clear BK717
       clear BK728
       clear HI720
       clear HB
       have HO_6 := n0_
       have BK716 := n1_
       have BK717 := n2_
       have BK728 := n3_
       have HI720 := n4_
       have HB := n5_
       have BK738 := n6_
       have GW738 := n7_
       have GE738 := n8_
       have NB716_738 := n9_
       have NB738_716 := n10_
       have NB717_738 := n11_
       have NB738_717 := n12_
       have NB728_738 := n13_
       have NB738_728 := n14_
       have NB720_738 := n15_
       have NB738_720 := n16_
       clear n0_ n1_ n2_ n3_ n4_ n5_ n6_ n7_ n8_ n9_ n10_ n11_ n12_ n13_ n14_ n15_ n16_
       clear hb hbox hg
       refine hK.out _ _ ⟨(blk_cell BK728.out 0).trans rfl, (blk_cell BK728.out 1).trans rfl, (blk_cell BK728.out 2).trans rfl⟩ (fun hHeld => ?_)
       clear hK K
       refine norm_ (a' := ?_) ?_ ?_
       rotate_left
       ·show Act.put _ (some 9) _ = _
        simp only [Act.put, List.setIfInBounds_toArray, List.set_cons_zero, List.set_cons_succ, i64_w, i32_w]
        rfl
       refine one_ (i := 3) (N := some 27) #[true, true, true, true, false, false, false, false, true, false, false] rfl rfl (one_of HT_.out (by kernel_rfl)) (by decide) (fun K hK => ?_)
       refine goes_ Try.func65 (by kernel_rfl) rfl #[.pointer (some ⟨g720, 0, none⟩)] (by rfl) rfl rfl mxp ?_
       with_reducible refine (spec_l5Say.calls k1 g720 t718 x721001_1 t731 t732 t733 w _ ?side1 ?side2 A19.out).mono ?_
       (case side1 => exact ib HI720.out)
       (case side2 => exact bi HB.out)
       rintro e w41 ⟨rfl, hi, hb, hk⟩
       refine ⟨_, rfl, ?_⟩
       have n0_ := Aside0.mk (Kd.R_mono (Kd.R_keep (IsS107.apart (show IsS107 w _ g720 t718 x721001_1 from ib HI720.out) (rx HO_6.out) (by decide)) hk (fun _ h => h.2)) (fun _ h => h.1))
       have n1_ := kp BK716 hk NB716_720
       have n2_ := kp BK717 hk NB717_720
       have n3_ := kp BK728 hk NB728_720
       have n4_ := kp BK738 hk NB738_720
       have n5_ := Aside0.mk (hb)
       have n6_ := Aside0.mk (hi)
       clear HO_6
       clear BK716
       clear BK717
       clear BK728
       clear BK738
       clear HB
       clear HI720
       have HO_6 := n0_
       have BK716 := n1_
       have BK717 := n2_
       have BK728 := n3_
       have BK738 := n4_
       have HB := n5_
       have HI720 := n6_
       clear n0_ n1_ n2_ n3_ n4_ n5_ n6_
       (try clear hb)
       (try clear hb2)
       (try clear hk)
       (try clear hi)
       refine hK.out _ _ ⟨(blk_cell BK728.out 0).trans rfl, (blk_cell BK728.out 1).trans rfl, (blk_cell BK728.out 2).trans rfl⟩ (fun hHeld => ?_)
       clear hK K
       refine norm_ (a' := ?_) ?_ ?_
       rotate_left
       ·show Act.put _ (some 27) _ = _
        simp only [Act.put, List.setIfInBounds_toArray, List.set_cons_zero, List.set_cons_succ, i64_w, i32_w]
        rfl
       refine one_ (i := 4) (N := some 28) #[true, true, true, true, true, false, false, false, true, false, false] rfl rfl (one_of HT_.out (by kernel_rfl)) (by decide) (fun K hK => ?_)
       refine goes_ Try.func47 (by kernel_rfl) rfl #[.slice Ao10 t721.length co10, .agg #[.string x729000_1, .int .i64 x729001_1, .int .i64 x729002_1], .agg #[.int .i64 t731, .bool t732]] (by rfl) rfl rfl mxp ?_
       with_reducible refine (spec_RecGo.calls k1 _ _ t721 x729000_1 x729001_1 x729002_1 t731 t732 t734 t735 t736 false _ ?side1 ?side2 A20.out).mono ?_
       (case side1 => exact cx (Kd.R_reads' HO_6.out).2.2)
       (case side2 => exact (Kd.R_reads' HO_6.out).2.1)
       rintro e w42 ⟨rfl, hb⟩
       refine ⟨_, rfl, ?_⟩
       have n0_ := Aside0.mk (Kd.R_below (rx HO_6.out) hb)
       have n1_ := up BK716 hb
       have n2_ := up BK717 hb
       have n3_ := up BK728 hb
       have n4_ := Aside0.mk (IsS107.below (ib HI720.out) hb)
       have n5_ := up BK738 hb
       have n6_ := bsi HB hb
       clear HO_6
       clear BK716
       clear BK717
       clear BK728
       clear HI720
       clear BK738
       clear HB
       have HO_6 := n0_
       have BK716 := n1_
       have BK717 := n2_
       have BK728 := n3_
       have HI720 := n4_
       have BK738 := n5_
       have HB := n6_
       clear n0_ n1_ n2_ n3_ n4_ n5_ n6_
       (try clear hb)
       (try clear hb2)
       (try clear hk)
       (try clear hi)
       refine hK.out _ _ ⟨(blk_cell BK728.out 0).trans rfl, (blk_cell BK728.out 1).trans rfl, (blk_cell BK728.out 2).trans rfl⟩ (fun hHeld => ?_)
       clear hK K
       refine norm_ (a' := ?_) ?_ ?_
       rotate_left
       ·show Act.put _ (some 28) _ = _
        simp only [Act.put, List.setIfInBounds_toArray, List.set_cons_zero, List.set_cons_succ, i64_w, i32_w]
        rfl
       refine pure_ (i := 5) (N := some 23) (v := ?_) (a' := ?_) #[true, true, true, true, true, true, false, false, true, false, false] rfl rfl (any_of HT_.out (by kernel_rfl)) (fun _ _ _ h => h) (Or.inl ⟨by rfl, ?_⟩) ?_ ?_
       rotate_left
       ·intro w'
        go_simp
        with_reducible rfl
       rotate_left
       ·simp only [Act.put, List.setIfInBounds_toArray, List.set_cons_zero, List.set_cons_succ, i64_w, i32_w]
        rfl
       refine pure_ (i := 6) (N := some 29) (v := ?_) (a' := ?_) #[true, true, true, true, true, true, true, false, true, false, false] rfl rfl (any_of HT_.out (by kernel_rfl)) (fun _ _ _ h => h) (Or.inl ⟨by rfl, ?_⟩) ?_ ?_
       rotate_left
       ·intro w'
        go_simp
        with_reducible rfl
       rotate_left
       ·simp only [Act.put, List.setIfInBounds_toArray, List.set_cons_zero, List.set_cons_succ, i64_w, i32_w]
        rfl
       refine pure_ (i := 7) (N := some 30) (v := ?_) (a' := ?_) #[true, true, true, true, true, true, true, true, true, false, false] rfl rfl (any_of HT_.out (by kernel_rfl)) (fun _ _ _ h => h) (Or.inl ⟨by rfl, ?_⟩) ?_ ?_
       rotate_left
       ·intro w'
        go_simp
        with_reducible rfl
       rotate_left
       ·simp only [Act.put, List.setIfInBounds_toArray, List.set_cons_zero, List.set_cons_succ, i64_w, i32_w]
        rfl
       exact norm_ (by simp only [putAll, Act.put, List.setIfInBounds_toArray, List.set_cons_zero, List.set_cons_succ]) (hCont (gb738) _ ⟨hHeld, (rx HO_6.out), (bx BK716.out), (bx BK717.out), (bx BK728.out), (bx BK738.out), GW738.out, GE738.out, NB720_738.out, NB738_720.out, NB716_738.out, NB738_716.out, NB717_738.out, NB738_717.out, NB728_738.out, NB738_728.out, (ib HI720.out), (bi HB.out)⟩)
     rintro gb738 w43 ⟨hS_, h0_, h1_, h2_, h3_, h4_, h5_, h6_, h7_, h8_, h9_, h10_, h11_, h12_, h13_, h14_, h15_, h16_⟩
     have n0_ : Aside0 (Kd.R k39 39 w43 w.heap.size (fun _ => True) (.slice Ao10 t721.length co10) t721) := ⟨h0_⟩
     have n1_ : Aside0 (w43.heap[gb716]? = some (.cells #[.string (⟨#[]⟩ : ByteArray), .int .i64 0, .int .i64 0] 31 (0, 0))) := ⟨h1_⟩
     have n2_ : Aside0 (w43.heap[gb717]? = some (.cells #[.int .i64 0, .bool false] 43 (0, 0))) := ⟨h2_⟩
     have n3_ : Aside0 (w43.heap[gb728]? = some (.cells #[.string x729000_1, .int .i64 x729001_1, .int .i64 x729002_1] 31 (0, 0))) := ⟨h3_⟩
     have n4_ : Aside0 (w43.heap[gb738]? = some (.cells #[.string (⟨#[]⟩ : ByteArray), .int .i64 0, .int .i64 0] 31 (0, 0))) := ⟨h4_⟩
     have n5_ : Aside0 (w.heap.size ≤ gb738) := ⟨h5_⟩
     have n6_ : Aside0 (w.heap.size ≤ gb738) := ⟨h6_⟩
     have n7_ : Aside0 (g720 ≠ gb738) := ⟨h7_⟩
     have n8_ : Aside0 (gb738 ≠ g720) := ⟨h8_⟩
     have n9_ : Aside0 (gb716 ≠ gb738) := ⟨h9_⟩
     have n10_ : Aside0 (gb738 ≠ gb716) := ⟨h10_⟩
     have n11_ : Aside0 (gb717 ≠ gb738) := ⟨h11_⟩
     have n12_ : Aside0 (gb738 ≠ gb717) := ⟨h12_⟩
     have n13_ : Aside0 (gb728 ≠ gb738) := ⟨h13_⟩
     have n14_ : Aside0 (gb738 ≠ gb728) := ⟨h14_⟩
     have n15_ : Aside0 (IsS107 w w43 g720 t718 t733) := ⟨h15_⟩
     have n16_ : Aside0 (Below w.heap.size w w43) := ⟨h16_⟩
     clear HO_6
     clear BK716
     clear BK717
     clear BK728
     clear HI720
     clear HB
     clear h0_ h1_ h2_ h3_ h4_ h5_ h6_ h7_ h8_ h9_ h10_ h11_ h12_ h13_ h14_ h15_ h16_
     have HO_6 := n0_
     have BK716 := n1_
     have BK717 := n2_
     have BK728 := n3_
     have BK738 := n4_
     have GW738 := n5_
     have GE738 := n6_
     have NB720_738 := n7_
     have NB738_720 := n8_
     have NB716_738 := n9_
     have NB738_716 := n10_
     have NB717_738 := n11_
     have NB738_717 := n12_
     have NB728_738 := n13_
     have NB738_728 := n14_
     have HI720 := n15_
     have HB := n16_
     clear n0_ n1_ n2_ n3_ n4_ n5_ n6_ n7_ n8_ n9_ n10_ n11_ n12_ n13_ n14_ n15_ n16_
     have hHeld : w43.cell? ⟨gb728, 0, none⟩ = some (.string x729000_1) ∧ w43.cell? ⟨gb728, 1, none⟩ = some (.int .i64 x729001_1) ∧ w43.cell? ⟨gb728, 2, none⟩ = some (.int .i64 x729002_1) := hS_
     refine norm_ (a' := ?_) ?_ ?_
     rotate_left
     ·simp only [putAll, Act.put, List.setIfInBounds_toArray, List.set_cons_zero, List.set_cons_succ]
      rfl
     refine one_ (i := 9) (N := none) #[true, true, true, true, true, true, true, true, true, true, false] rfl rfl (one_of HT_.out (by kernel_rfl)) (by decide) (fun K hK => ?_)
     have hs44 : w43.cell? ⟨gb738, 0, none⟩ = some (.string (⟨#[]⟩ : ByteArray)) := (blk_cell BK738.out 0).trans rfl
     have hfs44 := blk_frozen BK738.out 0
     have hns44_0 := NB716_738.out
     have hns44_1 := NB717_738.out
     have hns44_2 := NB728_738.out
     have hms44_0 := NB738_716.out
     have hms44_1 := NB738_717.out
     have hms44_2 := NB738_728.out
     have hs45 : w43.cell? ⟨gb738, 1, none⟩ = some (.int .i64 0) := (blk_cell BK738.out 1).trans rfl
     have hfs45 := blk_frozen BK738.out 1
     have hns45_0 := NB716_738.out
     have hns45_1 := NB717_738.out
     have hns45_2 := NB728_738.out
     have hms45_0 := NB738_716.out
     have hms45_1 := NB738_717.out
     have hms45_2 := NB738_728.out
     have hs46 : w43.cell? ⟨gb738, 2, none⟩ = some (.int .i64 0) := (blk_cell BK738.out 2).trans rfl
     have hfs46 := blk_frozen BK738.out 2
     have hns46_0 := NB716_738.out
     have hns46_1 := NB717_738.out
     have hns46_2 := NB728_738.out
     have hms46_0 := NB738_716.out
     have hms46_1 := NB738_717.out
     have hms46_2 := NB738_728.out
     refine skip_ (w1 := ?_) (by rfl) rfl ?_ ?_
     rotate_left
     ·go_simp
      rfl
     refine hK.out _ _ ⟨((cell_far (p := ⟨gb738, _, none⟩) NB728_738.out _).trans (((cell_far (p := ⟨gb738, _, none⟩) NB728_738.out _).trans (((cell_far (p := ⟨gb738, _, none⟩) NB728_738.out _).trans (hHeld.1)))))), ((cell_far (p := ⟨gb738, _, none⟩) NB728_738.out _).trans (((cell_far (p := ⟨gb738, _, none⟩) NB728_738.out _).trans (((cell_far (p := ⟨gb738, _, none⟩) NB728_738.out _).trans (hHeld.2.1)))))), ((cell_far (p := ⟨gb738, _, none⟩) NB728_738.out _).trans (((cell_far (p := ⟨gb738, _, none⟩) NB728_738.out _).trans (((cell_far (p := ⟨gb738, _, none⟩) NB728_738.out _).trans (hHeld.2.2))))))⟩ (fun hHeld => ?_)
     clear hK K
     refine pure_ (i := 10) (N := some 10) (v := ?_) (a' := ?_) #[true, true, true, true, true, true, true, true, true, true, true] rfl rfl (any_of HT_.out (by kernel_rfl)) (fun _ _ _ h => h) (Or.inl ⟨by rfl, ?_⟩) ?_ ?_
     rotate_left
     ·intro w'
      go_simp
      with_reducible rfl
     rotate_left
     ·simp only [Act.put, List.setIfInBounds_toArray, List.set_cons_zero, List.set_cons_succ, i64_w, i32_w]
      rfl
     refine done_ (done_of HT_.out (by kernel_rfl)) ?_
     try go_wp2
     go_roundg k1
     case measure => have := HK1.out; omega
     case rel => exact ⟨(wrap64 (x8_1 - 1)), (t733), (x729000_1), (x729001_1), (x729002_1), (by first | rfl | (simp; done) | (simp [*]; done)), H', ⟨by have := HK1.out; omega⟩, ⟨by refine rx ?_; exact Kd.R_mono (Kd.R_far (p := ⟨gb738, 2, none⟩) (Kd.R_far (p := ⟨gb738, 1, none⟩) (Kd.R_far (p := ⟨gb738, 0, none⟩) (Kd.R_types HO_6.out BK738.out (by decide)) (fun _ hk => hk.2) (.string t734)) (fun _ hk => hk.2) (.int .i64 t735)) (fun _ hk => hk.2) (.int .i64 t736)) (fun _ hk => trivial)⟩, ⟨by refine bx ?_; refine blk_far ?_ NB716_738.out _; refine bx ?_; refine blk_far ?_ NB716_738.out _; refine bx ?_; refine blk_far ?_ NB716_738.out _; refine bx ?_; exact BK716.out⟩, ⟨by refine bx ?_; refine blk_far ?_ NB717_738.out _; refine bx ?_; refine blk_far ?_ NB717_738.out _; refine bx ?_; refine blk_far ?_ NB717_738.out _; refine bx ?_; exact BK717.out⟩, ⟨by refine bx ?_; refine blk_far ?_ NB728_738.out _; refine bx ?_; refine blk_far ?_ NB728_738.out _; refine bx ?_; refine blk_far ?_ NB728_738.out _; refine bx ?_; exact BK728.out⟩, ⟨ib HI720.out⟩, (hbi HB)⟩
   ·rw [if_neg c18] at H
    have c18b0 : decide (0 < x8_1) = false := decide_eq_false c18
    clear c18
    replace H := Option.bind_eq_some_iff.mp H
    obtain ⟨⟨t739, t740⟩, A470, H⟩ := H
    replace H : (if t739 = 0 then ((spec_l1Rd_of.f k1 t718 t740 (([(⟨#[]⟩ : ByteArray), (⟨#[110, 111, 110, 101]⟩ : ByteArray), (⟨#[103, 111, 111, 100]⟩ : ByteArray)] : List ByteArray))).bind fun bt744 => ((spec_l5Say.f k1 t718 bt744.2).bind fun bt746 => (some (t721, bt744.1, x729001_1, x729002_1, bt746.1, bt746.2.1)))) else (if t739 = 1 then ((some (([(-1), 12000, 12001] : List Int) : List Int)).bind fun y749 => ((spec_l1Rd_pick.f k1 t718 t740 3).bind fun bt752 => (if 0 ≤ bt752.1 then (if bt752.1 < (y749.length : Int) then ((spec_l5Say.f k1 t718 bt752.2).bind fun bt755 => (some (t721, x729000_1, rd y749 bt752.1, x729002_1, bt755.1, bt755.2.1))) else (none)) else (none)))) else ((spec_l5Say.f k1 t718 t740).bind fun bt758 => (some (t721, x729000_1, x729001_1, x729002_1, bt758.1, bt758.2.1))))) = some (r1, r2, r3, r4, r5, r6) := H
    have A47 := Aside0.mk A470
    clear A470
    by_cases c48 : t739 = 0
    ·rw [if_pos c48] at H
     have c48b0 : (t739 == 0) = true := beq_iff_eq.mpr c48
     have c48b1 : (t739 != 0) = false := bne_eq_false_iff_eq.mpr c48
     clear c48
     obtain ⟨y741, hy741⟩ : ∃ y_ : List ByteArray, y_ = (([(⟨#[]⟩ : ByteArray), (⟨#[110, 111, 110, 101]⟩ : ByteArray), (⟨#[103, 111, 111, 100]⟩ : ByteArray)] : List ByteArray)) := ⟨_, rfl⟩
     replace H : ((spec_l1Rd_of.f k1 t718 t740 y741).bind fun bt744 => ((spec_l5Say.f k1 t718 bt744.2).bind fun bt746 => (some (t721, bt744.1, x729001_1, x729002_1, bt746.1, bt746.2.1)))) = some (r1, r2, r3, r4, r5, r6) := by first | (rw [hy741]; with_reducible exact H) | (have H2_ := (Option.bind_some _ _).symm.trans H; rw [hy741]; with_reducible exact H2_) | (have H2_ := (Option.bind_some _ _).symm.trans H; with_reducible exact H2_) | with_reducible exact H | (rw [hy741]; exact H) | exact H
     have Ny741 := Aside0.mk hy741
     clear hy741
     replace H := Option.bind_eq_some_iff.mp H
     obtain ⟨⟨t744, t745⟩, A490, H⟩ := H
     replace H : ((spec_l5Say.f k1 t718 t745).bind fun bt746 => (some (t721, t744, x729001_1, x729002_1, bt746.1, bt746.2.1))) = some (r1, r2, r3, r4, r5, r6) := H
     have A49 := Aside0.mk A490
     clear A490
     replace H := Option.bind_eq_some_iff.mp H
     obtain ⟨⟨t746, t747, t748⟩, A500, H⟩ := H
     replace H : (some (t721, t744, x729001_1, x729002_1, t746, t747)) = some (r1, r2, r3, r4, r5, r6) := H
     have A50 := Aside0.mk A500
     clear A500
     simp only [Option.some.injEq, Prod.mk.injEq] at H
     obtain ⟨rfl, rfl, rfl, rfl, rfl, rfl⟩ := H
     try go_wp2_with (first | ((with_reducible refine gate_callee (f := 64) rfl ?_); refine goesL_ (some 34) rfl rfl Try.func64 (by kernel_rfl) rfl #[.pointer (some ⟨g720, 0, none⟩), .int .i64 16] rfl mxp ?_; (with_reducible refine (spec_l1Rd_pick.calls k1 g720 t718 x721001_1 16 t739 t740 w _ ?side1 ?side2 A47.out).mono ?_); (case side1 => exact ib HI720.out); (case side2 => exact bi HB.out); rintro e w51 ⟨rfl, hi, hb, hk⟩; refine ⟨_, rfl, ?_⟩; have n0_ := Aside0.mk (Kd.R_mono (Kd.R_keep (IsS107.apart (show IsS107 w _ g720 t718 x721001_1 from ib HI720.out) (rx HO_6.out) (by decide)) hk (fun _ h => h.2)) (fun _ h => h.1)); have n1_ := kp BK716 hk NB716_720; have n2_ := kp BK717 hk NB717_720; have n3_ := kp BK728 hk NB728_720; have n4_ := Aside0.mk (hb); have n5_ := Aside0.mk (hi); clear HO_6; clear BK716; clear BK717; clear BK728; clear HB; clear HI720; have HO_6 := n0_; have BK716 := n1_; have BK717 := n2_; have BK728 := n3_; have HB := n4_; have HI720 := n5_; clear n0_ n1_ n2_ n3_ n4_ n5_; (try clear hb); (try clear hb2); (try clear hk); (try clear hi)) | ((with_reducible refine gate_dst (N := 38) rfl ?_); refine Kd.R_lit Kd.string _ 9 ?hg (N := 38) ?hd (xs := ([(⟨#[]⟩ : ByteArray), (⟨#[110, 111, 110, 101]⟩ : ByteArray), (⟨#[103, 111, 111, 100]⟩ : ByteArray)] : List ByteArray)) (inner := [.string (⟨#[]⟩ : ByteArray), .string (⟨#[110, 111, 110, 101]⟩ : ByteArray), .string (⟨#[103, 111, 111, 100]⟩ : ByteArray)]) (ok := fun _ => True) (okp := fun _ => True) ?hr ?hp (fun _ hk => hk) trivial (Below.refl _ _) (Nat.le_refl _) (by simp) ?_; (case hd => rfl); (case hg => rfl); (case hr => first | (go_simp; done) | (go_simp; rfl)); (case hp => exact (Reps.one (show Kd.M Kd.string _ _ _ (⟨#[]⟩ : ByteArray) [.string (⟨#[]⟩ : ByteArray)] from rfl) (Reps.one (show Kd.M Kd.string _ _ _ (⟨#[110, 111, 110, 101]⟩ : ByteArray) [.string (⟨#[110, 111, 110, 101]⟩ : ByteArray)] from rfl) (Reps.one (show Kd.M Kd.string _ _ _ (⟨#[103, 111, 111, 100]⟩ : ByteArray) [.string (⟨#[103, 111, 111, 100]⟩ : ByteArray)] from rfl) (Reps.none _ _))))); intro v742 w52 ho53 hb hg_ hnew_; clear hg_ hnew_; (first | rw [← Ny741.out] at ho53 | (simp only [Int.reduceToNat] at ho53; rw [← Ny741.out] at ho53)); have n0_ := Aside0.mk (Kd.R_below (rx HO_6.out) hb); have n1_ := Aside0.mk (Kd.R_lower ho53 (below_size (bi HB.out))); have n2_ := up BK716 hb; have n3_ := up BK717 hb; have n4_ := up BK728 hb; have n5_ := Aside0.mk (IsS107.below (ib HI720.out) hb); have n6_ := bsi HB hb; clear HO_6; clear BK716; clear BK717; clear BK728; clear HI720; clear HB; have HO_6 := n0_; have HO743 := n1_; have BK716 := n2_; have BK717 := n3_; have BK728 := n4_; have HI720 := n5_; have HB := n6_; clear n0_ n1_ n2_ n3_ n4_ n5_ n6_; clear hb ho53; obtain ⟨Ao54, co54, eo54⟩ := Kd.R_slice HO743.out; subst eo54) | ((with_reducible refine gate_callee (f := 80) rfl ?_); refine goesL_ (some 39) rfl rfl Try.func80 (by kernel_rfl) rfl #[.pointer (some ⟨g720, 0, none⟩), .slice Ao54 y741.length co54] rfl mxp ?_; (with_reducible refine (spec_l1Rd_of.calls k1 g720 t718 t740 _ _ y741 t744 t745 w _ ?side1 ?side2 ?side3 ?side4 ?side5 A49.out).mono ?_); (case side1 => exact ib HI720.out); (case side2 => exact bi HB.out); (case side3 => exact cx (Kd.R_reads' HO743.out).2.2); (case side4 => exact (Kd.R_reads' HO743.out).2.1); (case side5 => exact far_slice (IsS107.own_ne HI720.out HO743.out (by decide))); rintro e w55 ⟨rfl, hi, hb, hk⟩; refine ⟨_, rfl, ?_⟩; have n0_ := Aside0.mk (Kd.R_mono (Kd.R_keep (IsS107.apart (show IsS107 w _ g720 t718 t740 from ib HI720.out) (rx HO_6.out) (by decide)) hk (fun _ h => h.2)) (fun _ h => h.1)); have n1_ := kp BK716 hk NB716_720; have n2_ := kp BK717 hk NB717_720; have n3_ := kp BK728 hk NB728_720; have n4_ := Aside0.mk (Kd.R_mono (Kd.R_keep (IsS107.apart (show IsS107 w _ g720 t718 t740 from ib HI720.out) (rx HO743.out) (by decide)) hk (fun _ h => h.2)) (fun _ h => h.1)); have n5_ := Aside0.mk (hb); have n6_ := Aside0.mk (hi); clear HO_6; clear BK716; clear BK717; clear BK728; clear HO743; clear HB; clear HI720; have HO_6 := n0_; have BK716 := n1_; have BK717 := n2_; have BK728 := n3_; have HO743 := n4_; have HB := n5_; have HI720 := n6_; clear n0_ n1_ n2_ n3_ n4_ n5_ n6_; (try clear hb); (try clear hb2); (try clear hk); (try clear hi); have hnb56 := NB728_716.out; have hnc56 := NB716_728.out; have hnb57 := NB728_717.out; have hnc57 := NB717_728.out; have hnb58 := NB728_720.out; have hnc58 := NB720_728.out; have hcz59_0 := b0 BK728; have hcz59_1 := b1 BK728; have hcz59_2 := b2 BK728; have hfz59_0 := fz BK728 0; have hfz59_1 := fz BK728 1; have hfz59_2 := fz BK728 2))
     have n0_ : Aside0 (Kd.R k39 39 (w55.setCell ⟨gb728, 0, none⟩ (.string t744)) w.heap.size (fun _ => True) (.slice Ao10 t721.length co10) t721) := ⟨by refine rx ?_; exact Kd.R_mono (Kd.R_far (p := ⟨gb728, 0, none⟩) (Kd.R_types HO_6.out BK728.out (by decide)) (fun _ hk => hk.2) (.string t744)) (fun _ hk => trivial)⟩
     have n1_ : Aside0 (Kd.R Kd.string 9 (w55.setCell ⟨gb728, 0, none⟩ (.string t744)) w.heap.size (fun _ => True) (.slice Ao54 y741.length co54) y741) := ⟨by refine rx ?_; exact Kd.R_mono (Kd.R_far (p := ⟨gb728, 0, none⟩) (Kd.R_types HO743.out BK728.out (by decide)) (fun _ hk => hk.2) (.string t744)) (fun _ hk => trivial)⟩
     have n2_ : Aside0 ((w55.setCell ⟨gb728, 0, none⟩ (.string t744)).heap[gb716]? = some (.cells #[.string (⟨#[]⟩ : ByteArray), .int .i64 0, .int .i64 0] 31 (0, 0))) := ⟨by refine bx ?_; refine blk_far ?_ NB716_728.out _; refine bx ?_; exact BK716.out⟩
     have n3_ : Aside0 ((w55.setCell ⟨gb728, 0, none⟩ (.string t744)).heap[gb717]? = some (.cells #[.int .i64 0, .bool false] 43 (0, 0))) := ⟨by refine bx ?_; refine blk_far ?_ NB717_728.out _; refine bx ?_; exact BK717.out⟩
     have n4_ : Aside0 ((w55.setCell ⟨gb728, 0, none⟩ (.string t744)).heap[gb728]? = some (.cells #[.string t744, .int .i64 x729001_1, .int .i64 x729002_1] 31 (0, 0))) := ⟨by refine bx ?_; refine blk_put (cs := #[.string x729000_1, .int .i64 x729001_1, .int .i64 x729002_1]) ?_ 0 _ rfl; refine bx ?_; exact BK728.out⟩
     have n5_ : Aside0 (IsS107 w (w55.setCell ⟨gb728, 0, none⟩ (.string t744)) g720 t718 t745) := ⟨ib HI720.out⟩
     have n6_ : Aside0 (Below w.heap.size w (w55.setCell ⟨gb728, 0, none⟩ (.string t744))) := (hbi HB)
     (try clear HO_6)
     (try clear HO743)
     (try clear BK716)
     (try clear BK717)
     (try clear BK728)
     (try clear HI720)
     (try clear HB)
     generalize (w55.setCell ⟨gb728, 0, none⟩ (.string t744)) = w60 at n0_ n1_ n2_ n3_ n4_ n5_ n6_ ⊢
     have HO_6 := n0_
     have HO743 := n1_
     have BK716 := n2_
     have BK717 := n3_
     have BK728 := n4_
     have HI720 := n5_
     have HB := n6_
     clear n0_ n1_ n2_ n3_ n4_ n5_ n6_
     have n0_ := Aside0.mk (Kd.R_drew HO_6.out)
     have n1_ := Aside0.mk (Kd.R_drew HO743.out)
     have n2_ := Aside0.mk (blk_drew BK716.out)
     have n3_ := Aside0.mk (blk_drew BK717.out)
     have n4_ := Aside0.mk (blk_drew BK728.out)
     have n5_ := Aside0.mk (IsS107.drew HI720.out)
     have n6_ := Aside0.mk (below_drew1 HB.out)
     clear HO_6
     clear HO743
     clear BK716
     clear BK717
     clear BK728
     clear HI720
     clear HB
     have HO_6 := n0_
     have HO743 := n1_
     have BK716 := n2_
     have BK717 := n3_
     have BK728 := n4_
     have HI720 := n5_
     have HB := n6_
     clear n0_ n1_ n2_ n3_ n4_ n5_ n6_
     refine start_ (n := 7) (S := fun w' => w'.cell? ⟨gb728, 0, none⟩ = some (.string t744) ∧ w'.cell? ⟨gb728, 1, none⟩ = some (.int .i64 x729001_1) ∧ w'.cell? ⟨gb728, 2, none⟩ = some (.int .i64 x729002_1)) (ds := []) #[false, false, false, false, false, false, false] (by kernel_rfl) rfl rfl ⟨(blk_cell BK728.out 0).trans rfl, (blk_cell BK728.out 1).trans rfl, (blk_cell BK728.out 2).trans rfl⟩ (fun hHeld => ?_)
     generalize w60.drew = w61 at HO_6 HO743 BK716 BK717 BK728 HI720 HB hHeld ⊢
     refine pure_ (i := 0) (N := some 49) (v := ?_) (a' := ?_) #[true, false, false, false, false, false, false] rfl rfl (by kernel_rfl) (fun _ _ _ h => h) (Or.inl ⟨by rfl, ?_⟩) ?_ ?_
     rotate_left
     ·intro w'
      go_simp
      with_reducible rfl
     rotate_left
     ·simp only [Act.put, List.setIfInBounds_toArray, List.set_cons_zero, List.set_cons_succ, i64_w, i32_w]
      rfl
     refine pure_ (i := 2) (N := some 51) (v := ?_) (a' := ?_) #[true, false, true, false, false, false, false] rfl rfl (by kernel_rfl) (fun _ _ _ h => h) (Or.inl ⟨by rfl, ?_⟩) ?_ ?_
     rotate_left
     ·intro w'
      go_simp
      with_reducible rfl
     rotate_left
     ·simp only [Act.put, List.setIfInBounds_toArray, List.set_cons_zero, List.set_cons_succ, i64_w, i32_w]
      rfl
     refine take_ (i := 1) (N := some 50) (v := ?_) (a' := ?_) #[true, true, true, false, false, false, false] rfl rfl (by kernel_rfl) (fun _ _ _ h => h) (Or.inl ⟨by rfl, ?_⟩) hHeld ?_ ?_
     rotate_left
     ·rintro w' ⟨s0, s1, s2⟩
      go_simp
      with_reducible rfl
     rotate_left
     ·simp only [Act.put, List.setIfInBounds_toArray, List.set_cons_zero, List.set_cons_succ, i64_w, i32_w]
      rfl
     refine one_ (i := 3) (N := some 52) #[true, true, true, true, false, false, false] rfl rfl (by kernel_rfl) (by decide) (fun K hK => ?_)
     refine goes_ Try.func65 (by kernel_rfl) rfl #[.pointer (some ⟨g720, 0, none⟩)] (by rfl) rfl rfl mxp ?_
     with_reducible refine (spec_l5Say.calls k1 g720 t718 t745 t746 t747 t748 w _ ?side1 ?side2 A50.out).mono ?_
     (case side1 => exact ib HI720.out)
     (case side2 => exact bi HB.out)
     rintro e w62 ⟨rfl, hi, hb, hk⟩
     refine ⟨_, rfl, ?_⟩
     have n0_ := Aside0.mk (Kd.R_mono (Kd.R_keep (IsS107.apart (show IsS107 w _ g720 t718 t745 from ib HI720.out) (rx HO_6.out) (by decide)) hk (fun _ h => h.2)) (fun _ h => h.1))
     have n1_ := kp BK716 hk NB716_720
     have n2_ := kp BK717 hk NB717_720
     have n3_ := kp BK728 hk NB728_720
     have n4_ := Aside0.mk (Kd.R_mono (Kd.R_keep (IsS107.apart (show IsS107 w _ g720 t718 t745 from ib HI720.out) (rx HO743.out) (by decide)) hk (fun _ h => h.2)) (fun _ h => h.1))
     have n5_ := Aside0.mk (hb)
     have n6_ := Aside0.mk (hi)
     clear HO_6
     clear BK716
     clear BK717
     clear BK728
     clear HO743
     clear HB
     clear HI720
     have HO_6 := n0_
     have BK716 := n1_
     have BK717 := n2_
     have BK728 := n3_
     have HO743 := n4_
     have HB := n5_
     have HI720 := n6_
     clear n0_ n1_ n2_ n3_ n4_ n5_ n6_
     (try clear hb)
     (try clear hb2)
     (try clear hk)
     (try clear hi)
     refine hK.out _ _ ⟨(blk_cell BK728.out 0).trans rfl, (blk_cell BK728.out 1).trans rfl, (blk_cell BK728.out 2).trans rfl⟩ (fun hHeld => ?_)
     clear hK K
     refine norm_ (a' := ?_) ?_ ?_
     rotate_left
     ·show Act.put _ (some 52) _ = _
      simp only [Act.put, List.setIfInBounds_toArray, List.set_cons_zero, List.set_cons_succ, i64_w, i32_w]
      rfl
     refine pure_ (i := 4) (N := some 2) (v := ?_) (a' := ?_) #[true, true, true, true, true, false, false] rfl rfl (by kernel_rfl) (fun _ _ _ h => h) (Or.inl ⟨by rfl, ?_⟩) ?_ ?_
     rotate_left
     ·intro w'
      go_simp
      with_reducible rfl
     rotate_left
     ·simp only [Act.put, List.setIfInBounds_toArray, List.set_cons_zero, List.set_cons_succ, i64_w, i32_w]
      rfl
     refine one_ (i := 5) (N := none) #[true, true, true, true, true, true, false] rfl rfl (by kernel_rfl) (by decide) (fun K hK => ?_)
     have hs63 : w62.cell? ⟨gb716, 0, none⟩ = some (.string (⟨#[]⟩ : ByteArray)) := (blk_cell BK716.out 0).trans rfl
     have hfs63 := blk_frozen BK716.out 0
     have hns63_1 := NB717_716.out
     have hns63_2 := NB728_716.out
     have hms63_1 := NB716_717.out
     have hms63_2 := NB716_728.out
     have hs64 : w62.cell? ⟨gb716, 1, none⟩ = some (.int .i64 0) := (blk_cell BK716.out 1).trans rfl
     have hfs64 := blk_frozen BK716.out 1
     have hns64_1 := NB717_716.out
     have hns64_2 := NB728_716.out
     have hms64_1 := NB716_717.out
     have hms64_2 := NB716_728.out
     have hs65 : w62.cell? ⟨gb716, 2, none⟩ = some (.int .i64 0) := (blk_cell BK716.out 2).trans rfl
     have hfs65 := blk_frozen BK716.out 2
     have hns65_1 := NB717_716.out
     have hns65_2 := NB728_716.out
     have hms65_1 := NB716_717.out
     have hms65_2 := NB716_728.out
     refine skip_ (w1 := ?_) (by rfl) rfl ?_ ?_
     rotate_left
     ·go_simp
      rfl
     refine hK.out _ _ ⟨((cell_far (p := ⟨gb716, _, none⟩) NB728_716.out _).trans (((cell_far (p := ⟨gb716, _, none⟩) NB728_716.out _).trans (((cell_far (p := ⟨gb716, _, none⟩) NB728_716.out _).trans (hHeld.1)))))), ((cell_far (p := ⟨gb716, _, none⟩) NB728_716.out _).trans (((cell_far (p := ⟨gb716, _, none⟩) NB728_716.out _).trans (((cell_far (p := ⟨gb716, _, none⟩) NB728_716.out _).trans (hHeld.2.1)))))), ((cell_far (p := ⟨gb716, _, none⟩) NB728_716.out _).trans (((cell_far (p := ⟨gb716, _, none⟩) NB728_716.out _).trans (((cell_far (p := ⟨gb716, _, none⟩) NB728_716.out _).trans (hHeld.2.2))))))⟩ (fun hHeld => ?_)
     clear hK K
     refine one_ (i := 6) (N := none) #[true, true, true, true, true, true, true] rfl rfl (by kernel_rfl) (by decide) (fun K hK => ?_)
     have hs66 : w62.cell? ⟨gb717, 0, none⟩ = some (.int .i64 0) := (blk_cell BK717.out 0).trans rfl
     have hfs66 := blk_frozen BK717.out 0
     have hns66_0 := NB716_717.out
     have hns66_2 := NB728_717.out
     have hms66_0 := NB717_716.out
     have hms66_2 := NB717_728.out
     have hs67 : w62.cell? ⟨gb717, 1, none⟩ = some (.bool false) := (blk_cell BK717.out 1).trans rfl
     have hfs67 := blk_frozen BK717.out 1
     have hns67_0 := NB716_717.out
     have hns67_2 := NB728_717.out
     have hms67_0 := NB717_716.out
     have hms67_2 := NB717_728.out
     refine skip_ (w1 := ?_) (by rfl) rfl ?_ ?_
     rotate_left
     ·go_simp
      rfl
     refine hK.out _ _ ⟨((cell_far (p := ⟨gb717, _, none⟩) NB728_717.out _).trans (((cell_far (p := ⟨gb717, _, none⟩) NB728_717.out _).trans (hHeld.1)))), ((cell_far (p := ⟨gb717, _, none⟩) NB728_717.out _).trans (((cell_far (p := ⟨gb717, _, none⟩) NB728_717.out _).trans (hHeld.2.1)))), ((cell_far (p := ⟨gb717, _, none⟩) NB728_717.out _).trans (((cell_far (p := ⟨gb717, _, none⟩) NB728_717.out _).trans (hHeld.2.2))))⟩ (fun hHeld => ?_)
     clear hK K
     refine done_ (by kernel_rfl) ?_
     try go_wp2
     refine bodyPost_ret (results_list (rs := [.tmp 2, .cell 3 31, .cell 4 43]) rfl (by simp) (.tmp (.cell gb716 31 #[.string t744, .int .i64 x729001_1, .int .i64 x729002_1] (0, 0) _ rfl (by refine bx ?_; refine blk_far ?_ NB716_717.out _; refine bx ?_; refine blk_far ?_ NB716_717.out _; refine bx ?_; refine blk_put (cs := #[.string t744, .int .i64 x729001_1, .int .i64 0]) ?_ 2 _ rfl; refine bx ?_; refine blk_put (cs := #[.string t744, .int .i64 0, .int .i64 0]) ?_ 1 _ rfl; refine bx ?_; refine blk_put (cs := #[.string (⟨#[]⟩ : ByteArray), .int .i64 0, .int .i64 0]) ?_ 0 _ rfl; refine bx ?_; exact BK716.out) Try.underlying31 rfl (by kernel_rfl) (.cell gb717 43 #[.int .i64 t746, .bool t747] (0, 0) _ rfl (by refine bx ?_; refine blk_put (cs := #[.int .i64 t746, .bool false]) ?_ 1 _ rfl; refine bx ?_; refine blk_put (cs := #[.int .i64 0, .bool false]) ?_ 0 _ rfl; refine bx ?_; refine blk_far ?_ NB717_716.out _; refine bx ?_; refine blk_far ?_ NB717_716.out _; refine bx ?_; refine blk_far ?_ NB717_716.out _; refine bx ?_; exact BK717.out) Try.underlying43 rfl (by kernel_rfl) .nil)))) rfl ?_
     exact ⟨_, exq, by refine rx ?_; exact Kd.R_mono (Kd.R_far (p := ⟨gb717, 1, none⟩) (Kd.R_far (p := ⟨gb717, 0, none⟩) (Kd.R_far (p := ⟨gb716, 2, none⟩) (Kd.R_far (p := ⟨gb716, 1, none⟩) (Kd.R_far (p := ⟨gb716, 0, none⟩) (Kd.R_types (Kd.R_types HO_6.out BK716.out (by decide)) BK717.out (by decide)) (fun _ hk => hk.1.2) (.string t744)) (fun _ hk => hk.1.2) (.int .i64 x729001_1)) (fun _ hk => hk.1.2) (.int .i64 x729002_1)) (fun _ hk => hk.2) (.int .i64 t746)) (fun _ hk => hk.2) (.bool t747)) (fun _ hk => trivial), bi HB.out⟩
    ·rw [if_neg c48] at H
     have c48b0 : (t739 == 0) = false := beq_eq_false_iff_ne.mpr c48
     have c48b1 : (t739 != 0) = true := bne_iff_ne.mpr c48
     by_cases c68 : t739 = 1
     ·rw [if_pos c68] at H
      have c68b0 : (t739 == 1) = true := beq_iff_eq.mpr c68
      have c68b1 : (t739 != 1) = false := bne_eq_false_iff_eq.mpr c68
      clear c68
      obtain ⟨y749, hy749⟩ : ∃ y_ : List Int, y_ = (([(-1), 12000, 12001] : List Int)) := ⟨_, rfl⟩
      replace H : ((spec_l1Rd_pick.f k1 t718 t740 3).bind fun bt752 => (if 0 ≤ bt752.1 then (if bt752.1 < (y749.length : Int) then ((spec_l5Say.f k1 t718 bt752.2).bind fun bt755 => (some (t721, x729000_1, rd y749 bt752.1, x729002_1, bt755.1, bt755.2.1))) else (none)) else (none))) = some (r1, r2, r3, r4, r5, r6) := by first | (rw [hy749]; with_reducible exact H) | (have H2_ := (Option.bind_some _ _).symm.trans H; rw [hy749]; with_reducible exact H2_) | (have H2_ := (Option.bind_some _ _).symm.trans H; with_reducible exact H2_) | with_reducible exact H | (rw [hy749]; exact H) | exact H
      have Ny749 := Aside0.mk hy749
      clear hy749
      replace H := Option.bind_eq_some_iff.mp H
      obtain ⟨⟨t752, t753⟩, A690, H⟩ := H
      replace H : (if 0 ≤ t752 then (if t752 < (y749.length : Int) then ((spec_l5Say.f k1 t718 t753).bind fun bt755 => (some (t721, x729000_1, rd y749 t752, x729002_1, bt755.1, bt755.2.1))) else (none)) else (none)) = some (r1, r2, r3, r4, r5, r6) := H
      have A69 := Aside0.mk A690
      clear A690
      by_cases c70 : 0 ≤ t752
      ·rw [if_pos c70] at H
       have c70b0 : decide (0 ≤ t752) = true := decide_eq_true c70
       clear c70
       by_cases c71 : t752 < (y749.length : Int)
       ·rw [if_pos c71] at H
        have c71b0 : decide (t752 < (y749.length : Int)) = true := decide_eq_true c71
        clear c71
        replace H := Option.bind_eq_some_iff.mp H
        obtain ⟨⟨t755, t756, t757⟩, A720, H⟩ := H
        replace H : (some (t721, x729000_1, rd y749 t752, x729002_1, t755, t756)) = some (r1, r2, r3, r4, r5, r6) := H
        have A72 := Aside0.mk A720
        clear A720
        simp only [Option.some.injEq, Prod.mk.injEq] at H
        obtain ⟨rfl, rfl, rfl, rfl, rfl, rfl⟩ := H
        try go_wp2_with (first | ((with_reducible refine gate_callee (f := 64) rfl ?_); refine goesL_ (some 34) rfl rfl Try.func64 (by kernel_rfl) rfl #[.pointer (some ⟨g720, 0, none⟩), .int .i64 16] rfl mxp ?_; (with_reducible refine (spec_l1Rd_pick.calls k1 g720 t718 x721001_1 16 t739 t740 w _ ?side1 ?side2 A47.out).mono ?_); (case side1 => exact ib HI720.out); (case side2 => exact bi HB.out); rintro e w73 ⟨rfl, hi, hb, hk⟩; refine ⟨_, rfl, ?_⟩; have n0_ := Aside0.mk (Kd.R_mono (Kd.R_keep (IsS107.apart (show IsS107 w _ g720 t718 x721001_1 from ib HI720.out) (rx HO_6.out) (by decide)) hk (fun _ h => h.2)) (fun _ h => h.1)); have n1_ := kp BK716 hk NB716_720; have n2_ := kp BK717 hk NB717_720; have n3_ := kp BK728 hk NB728_720; have n4_ := Aside0.mk (hb); have n5_ := Aside0.mk (hi); clear HO_6; clear BK716; clear BK717; clear BK728; clear HB; clear HI720; have HO_6 := n0_; have BK716 := n1_; have BK717 := n2_; have BK728 := n3_; have HB := n4_; have HI720 := n5_; clear n0_ n1_ n2_ n3_ n4_ n5_; (try clear hb); (try clear hb2); (try clear hk); (try clear hi)) | ((with_reducible refine gate_dst (N := 43) rfl ?_); refine Kd.R_lit (Kd.int .i64) _ 3 ?hg (N := 43) ?hd (xs := ([(-1), 12000, 12001] : List Int)) (inner := [.int .i64 (-1), .int .i64 12000, .int .i64 12001]) (ok := fun _ => True) (okp := fun _ => True) ?hr ?hp (fun _ hk => hk) trivial (Below.refl _ _) (Nat.le_refl _) (by simp) ?_; (case hd => rfl); (case hg => rfl); (case hr => first | (go_simp; done) | (go_simp; rfl)); (case hp => exact (Reps.one (show Kd.M (Kd.int .i64) _ _ _ (-1) [.int .i64 (-1)] from rfl) (Reps.one (show Kd.M (Kd.int .i64) _ _ _ 12000 [.int .i64 12000] from rfl) (Reps.one (show Kd.M (Kd.int .i64) _ _ _ 12001 [.int .i64 12001] from rfl) (Reps.none _ _))))); intro v750 w74 ho75 hb hg_ hnew_; clear hg_ hnew_; (first | rw [← Ny749.out] at ho75 | (simp only [Int.reduceToNat] at ho75; rw [← Ny749.out] at ho75)); have n0_ := Aside0.mk (Kd.R_below (rx HO_6.out) hb); have n1_ := Aside0.mk (Kd.R_lower ho75 (below_size (bi HB.out))); have n2_ := up BK716 hb; have n3_ := up BK717 hb; have n4_ := up BK728 hb; have n5_ := Aside0.mk (IsS107.below (ib HI720.out) hb); have n6_ := bsi HB hb; clear HO_6; clear BK716; clear BK717; clear BK728; clear HI720; clear HB; have HO_6 := n0_; have HO751 := n1_; have BK716 := n2_; have BK717 := n3_; have BK728 := n4_; have HI720 := n5_; have HB := n6_; clear n0_ n1_ n2_ n3_ n4_ n5_ n6_; clear hb ho75) | ((with_reducible refine gate_callee (f := 64) rfl ?_); refine goesL_ (some 45) rfl rfl Try.func64 (by kernel_rfl) rfl #[.pointer (some ⟨g720, 0, none⟩), .int .i64 3] rfl mxp ?_; (with_reducible refine (spec_l1Rd_pick.calls k1 g720 t718 t740 3 t752 t753 w _ ?side1 ?side2 A69.out).mono ?_); (case side1 => exact ib HI720.out); (case side2 => exact bi HB.out); rintro e w76 ⟨rfl, hi, hb, hk⟩; refine ⟨_, rfl, ?_⟩; have n0_ := Aside0.mk (Kd.R_mono (Kd.R_keep (IsS107.apart (show IsS107 w _ g720 t718 t740 from ib HI720.out) (rx HO_6.out) (by decide)) hk (fun _ h => h.2)) (fun _ h => h.1)); have n1_ := kp BK716 hk NB716_720; have n2_ := kp BK717 hk NB717_720; have n3_ := kp BK728 hk NB728_720; have n4_ := Aside0.mk (Kd.R_mono (Kd.R_keep (IsS107.apart (show IsS107 w _ g720 t718 t740 from ib HI720.out) (rx HO751.out) (by decide)) hk (fun _ h => h.2)) (fun _ h => h.1)); have n5_ := Aside0.mk (hb); have n6_ := Aside0.mk (hi); clear HO_6; clear BK716; clear BK717; clear BK728; clear HO751; clear HB; clear HI720; have HO_6 := n0_; have BK716 := n1_; have BK717 := n2_; have BK728 := n3_; have HO751 := n4_; have HB := n5_; have HI720 := n6_; clear n0_ n1_ n2_ n3_ n4_ n5_ n6_; (try clear hb); (try clear hb2); (try clear hk); (try clear hi); obtain ⟨Ao77, co77, eo77⟩ := Kd.R_slice HO751.out; subst eo77; have p754 : 0 ≤ (t752 : Int) := oda; have q754 : t752 < (y749.length : Int) := oda; obtain ⟨ad754, e754, hx754_0⟩ := Kd.at_int (Kd.R_reads' HO751.out).2.2 t752 p754 q754; cases e754; replace p754 := eq_true p754; replace q754 := eq_true q754; have hnb78 := NB728_716.out; have hnc78 := NB716_728.out; have hnb79 := NB728_717.out; have hnc79 := NB717_728.out; have hnb80 := NB728_720.out; have hnc80 := NB720_728.out; have hcz81_0 := b0 BK728; have hcz81_1 := b1 BK728; have hcz81_2 := b2 BK728; have hfz81_0 := fz BK728 0; have hfz81_1 := fz BK728 1; have hfz81_2 := fz BK728 2))
        have n0_ : Aside0 (Kd.R k39 39 (w76.setCell ⟨gb728, 1, none⟩ (.int .i64 (rd y749 t752))) w.heap.size (fun _ => True) (.slice Ao10 t721.length co10) t721) := ⟨by refine rx ?_; exact Kd.R_mono (Kd.R_far (p := ⟨gb728, 1, none⟩) (Kd.R_types HO_6.out BK728.out (by decide)) (fun _ hk => hk.2) (.int .i64 (rd y749 t752))) (fun _ hk => trivial)⟩
        have n1_ : Aside0 (Kd.R (Kd.int .i64) 3 (w76.setCell ⟨gb728, 1, none⟩ (.int .i64 (rd y749 t752))) w.heap.size (fun _ => True) (.slice (some ad754) y749.length co77) y749) := ⟨by refine rx ?_; exact Kd.R_mono (Kd.R_far (p := ⟨gb728, 1, none⟩) (Kd.R_types HO751.out BK728.out (by decide)) (fun _ hk => hk.2) (.int .i64 (rd y749 t752))) (fun _ hk => trivial)⟩
        have n2_ : Aside0 ((w76.setCell ⟨gb728, 1, none⟩ (.int .i64 (rd y749 t752))).heap[gb716]? = some (.cells #[.string (⟨#[]⟩ : ByteArray), .int .i64 0, .int .i64 0] 31 (0, 0))) := ⟨by refine bx ?_; refine blk_far ?_ NB716_728.out _; refine bx ?_; exact BK716.out⟩
        have n3_ : Aside0 ((w76.setCell ⟨gb728, 1, none⟩ (.int .i64 (rd y749 t752))).heap[gb717]? = some (.cells #[.int .i64 0, .bool false] 43 (0, 0))) := ⟨by refine bx ?_; refine blk_far ?_ NB717_728.out _; refine bx ?_; exact BK717.out⟩
        have n4_ : Aside0 ((w76.setCell ⟨gb728, 1, none⟩ (.int .i64 (rd y749 t752))).heap[gb728]? = some (.cells #[.string x729000_1, .int .i64 (rd y749 t752), .int .i64 x729002_1] 31 (0, 0))) := ⟨by refine bx ?_; refine blk_put (cs := #[.string x729000_1, .int .i64 x729001_1, .int .i64 x729002_1]) ?_ 1 _ rfl; refine bx ?_; exact BK728.out⟩
        have n5_ : Aside0 (IsS107 w (w76.setCell ⟨gb728, 1, none⟩ (.int .i64 (rd y749 t752))) g720 t718 t753) := ⟨ib HI720.out⟩
        have n6_ : Aside0 (Below w.heap.size w (w76.setCell ⟨gb728, 1, none⟩ (.int .i64 (rd y749 t752)))) := (hbi HB)
        (try clear HO_6)
        (try clear HO751)
        (try clear BK716)
        (try clear BK717)
        (try clear BK728)
        (try clear HI720)
        (try clear HB)
        generalize (w76.setCell ⟨gb728, 1, none⟩ (.int .i64 (rd y749 t752))) = w82 at n0_ n1_ n2_ n3_ n4_ n5_ n6_ ⊢
        have HO_6 := n0_
        have HO751 := n1_
        have BK716 := n2_
        have BK717 := n3_
        have BK728 := n4_
        have HI720 := n5_
        have HB := n6_
        clear n0_ n1_ n2_ n3_ n4_ n5_ n6_
        have n0_ := Aside0.mk (Kd.R_drew HO_6.out)
        have n1_ := Aside0.mk (Kd.R_drew HO751.out)
        have n2_ := Aside0.mk (blk_drew BK716.out)
        have n3_ := Aside0.mk (blk_drew BK717.out)
        have n4_ := Aside0.mk (blk_drew BK728.out)
        have n5_ := Aside0.mk (IsS107.drew HI720.out)
        have n6_ := Aside0.mk (below_drew1 HB.out)
        clear HO_6
        clear HO751
        clear BK716
        clear BK717
        clear BK728
        clear HI720
        clear HB
        have HO_6 := n0_
        have HO751 := n1_
        have BK716 := n2_
        have BK717 := n3_
        have BK728 := n4_
        have HI720 := n5_
        have HB := n6_
        clear n0_ n1_ n2_ n3_ n4_ n5_ n6_
        refine start_ (n := 7) (S := fun w' => w'.cell? ⟨gb728, 0, none⟩ = some (.string x729000_1) ∧ w'.cell? ⟨gb728, 1, none⟩ = some (.int .i64 (rd y749 t752)) ∧ w'.cell? ⟨gb728, 2, none⟩ = some (.int .i64 x729002_1)) (ds := []) #[false, false, false, false, false, false, false] (by kernel_rfl) rfl rfl ⟨(blk_cell BK728.out 0).trans rfl, (blk_cell BK728.out 1).trans rfl, (blk_cell BK728.out 2).trans rfl⟩ (fun hHeld => ?_)
        generalize w82.drew = w83 at HO_6 HO751 BK716 BK717 BK728 HI720 HB hHeld ⊢
        refine pure_ (i := 0) (N := some 49) (v := ?_) (a' := ?_) #[true, false, false, false, false, false, false] rfl rfl (by kernel_rfl) (fun _ _ _ h => h) (Or.inl ⟨by rfl, ?_⟩) ?_ ?_
        rotate_left
        ·intro w'
         go_simp
         with_reducible rfl
        rotate_left
        ·simp only [Act.put, List.setIfInBounds_toArray, List.set_cons_zero, List.set_cons_succ, i64_w, i32_w]
         rfl
        refine pure_ (i := 2) (N := some 51) (v := ?_) (a' := ?_) #[true, false, true, false, false, false, false] rfl rfl (by kernel_rfl) (fun _ _ _ h => h) (Or.inl ⟨by rfl, ?_⟩) ?_ ?_
        rotate_left
        ·intro w'
         go_simp
         with_reducible rfl
        rotate_left
        ·simp only [Act.put, List.setIfInBounds_toArray, List.set_cons_zero, List.set_cons_succ, i64_w, i32_w]
         rfl
        refine take_ (i := 1) (N := some 50) (v := ?_) (a' := ?_) #[true, true, true, false, false, false, false] rfl rfl (by kernel_rfl) (fun _ _ _ h => h) (Or.inl ⟨by rfl, ?_⟩) hHeld ?_ ?_
        rotate_left
        ·rintro w' ⟨s0, s1, s2⟩
         go_simp
         with_reducible rfl
        rotate_left
        ·simp only [Act.put, List.setIfInBounds_toArray, List.set_cons_zero, List.set_cons_succ, i64_w, i32_w]
         rfl
        refine one_ (i := 3) (N := some 52) #[true, true, true, true, false, false, false] rfl rfl (by kernel_rfl) (by decide) (fun K hK => ?_)
        refine goes_ Try.func65 (by kernel_rfl) rfl #[.pointer (some ⟨g720, 0, none⟩)] (by rfl) rfl rfl mxp ?_
        with_reducible refine (spec_l5Say.calls k1 g720 t718 t753 t755 t756 t757 w _ ?side1 ?side2 A72.out).mono ?_
        (case side1 => exact ib HI720.out)
        (case side2 => exact bi HB.out)
        rintro e w84 ⟨rfl, hi, hb, hk⟩
        refine ⟨_, rfl, ?_⟩
        have n0_ := Aside0.mk (Kd.R_mono (Kd.R_keep (IsS107.apart (show IsS107 w _ g720 t718 t753 from ib HI720.out) (rx HO_6.out) (by decide)) hk (fun _ h => h.2)) (fun _ h => h.1))
        have n1_ := kp BK716 hk NB716_720
        have n2_ := kp BK717 hk NB717_720
        have n3_ := kp BK728 hk NB728_720
        have n4_ := Aside0.mk (Kd.R_mono (Kd.R_keep (IsS107.apart (show IsS107 w _ g720 t718 t753 from ib HI720.out) (rx HO751.out) (by decide)) hk (fun _ h => h.2)) (fun _ h => h.1))
        have n5_ := Aside0.mk (hb)
        have n6_ := Aside0.mk (hi)
        clear HO_6
        clear BK716
        clear BK717
        clear BK728
        clear HO751
        clear HB
        clear HI720
        have HO_6 := n0_
        have BK716 := n1_
        have BK717 := n2_
        have BK728 := n3_
        have HO751 := n4_
        have HB := n5_
        have HI720 := n6_
        clear n0_ n1_ n2_ n3_ n4_ n5_ n6_
        (try clear hb)
        (try clear hb2)
        (try clear hk)
        (try clear hi)
        refine hK.out _ _ ⟨(blk_cell BK728.out 0).trans rfl, (blk_cell BK728.out 1).trans rfl, (blk_cell BK728.out 2).trans rfl⟩ (fun hHeld => ?_)
        clear hK K
        refine norm_ (a' := ?_) ?_ ?_
        rotate_left
        ·show Act.put _ (some 52) _ = _
         simp only [Act.put, List.setIfInBounds_toArray, List.set_cons_zero, List.set_cons_succ, i64_w, i32_w]
         rfl
        refine pure_ (i := 4) (N := some 2) (v := ?_) (a' := ?_) #[true, true, true, true, true, false, false] rfl rfl (by kernel_rfl) (fun _ _ _ h => h) (Or.inl ⟨by rfl, ?_⟩) ?_ ?_
        rotate_left
        ·intro w'
         go_simp
         with_reducible rfl
        rotate_left
        ·simp only [Act.put, List.setIfInBounds_toArray, List.set_cons_zero, List.set_cons_succ, i64_w, i32_w]
         rfl
        refine one_ (i := 5) (N := none) #[true, true, true, true, true, true, false] rfl rfl (by kernel_rfl) (by decide) (fun K hK => ?_)
        have hs85 : w84.cell? ⟨gb716, 0, none⟩ = some (.string (⟨#[]⟩ : ByteArray)) := (blk_cell BK716.out 0).trans rfl
        have hfs85 := blk_frozen BK716.out 0
        have hns85_1 := NB717_716.out
        have hns85_2 := NB728_716.out
        have hms85_1 := NB716_717.out
        have hms85_2 := NB716_728.out
        have hs86 : w84.cell? ⟨gb716, 1, none⟩ = some (.int .i64 0) := (blk_cell BK716.out 1).trans rfl
        have hfs86 := blk_frozen BK716.out 1
        have hns86_1 := NB717_716.out
        have hns86_2 := NB728_716.out
        have hms86_1 := NB716_717.out
        have hms86_2 := NB716_728.out
        have hs87 : w84.cell? ⟨gb716, 2, none⟩ = some (.int .i64 0) := (blk_cell BK716.out 2).trans rfl
        have hfs87 := blk_frozen BK716.out 2
        have hns87_1 := NB717_716.out
        have hns87_2 := NB728_716.out
        have hms87_1 := NB716_717.out
        have hms87_2 := NB716_728.out
        refine skip_ (w1 := ?_) (by rfl) rfl ?_ ?_
        rotate_left
        ·go_simp
         rfl
        refine hK.out _ _ ⟨((cell_far (p := ⟨gb716, _, none⟩) NB728_716.out _).trans (((cell_far (p := ⟨gb716, _, none⟩) NB728_716.out _).trans (((cell_far (p := ⟨gb716, _, none⟩) NB728_716.out _).trans (hHeld.1)))))), ((cell_far (p := ⟨gb716, _, none⟩) NB728_716.out _).trans (((cell_far (p := ⟨gb716, _, none⟩) NB728_716.out _).trans (((cell_far (p := ⟨gb716, _, none⟩) NB728_716.out _).trans (hHeld.2.1)))))), ((cell_far (p := ⟨gb716, _, none⟩) NB728_716.out _).trans (((cell_far (p := ⟨gb716, _, none⟩) NB728_716.out _).trans (((cell_far (p := ⟨gb716, _, none⟩) NB728_716.out _).trans (hHeld.2.2))))))⟩ (fun hHeld => ?_)
        clear hK K
        refine one_ (i := 6) (N := none) #[true, true, true, true, true, true, true] rfl rfl (by kernel_rfl) (by decide) (fun K hK => ?_)
        have hs88 : w84.cell? ⟨gb717, 0, none⟩ = some (.int .i64 0) := (blk_cell BK717.out 0).trans rfl
        have hfs88 := blk_frozen BK717.out 0
        have hns88_0 := NB716_717.out
        have hns88_2 := NB728_717.out
        have hms88_0 := NB717_716.out
        have hms88_2 := NB717_728.out
        have hs89 : w84.cell? ⟨gb717, 1, none⟩ = some (.bool false) := (blk_cell BK717.out 1).trans rfl
        have hfs89 := blk_frozen BK717.out 1
        have hns89_0 := NB716_717.out
        have hns89_2 := NB728_717.out
        have hms89_0 := NB717_716.out
        have hms89_2 := NB717_728.out
        refine skip_ (w1 := ?_) (by rfl) rfl ?_ ?_
        rotate_left
        ·go_simp
         rfl
        refine hK.out _ _ ⟨((cell_far (p := ⟨gb717, _, none⟩) NB728_717.out _).trans (((cell_far (p := ⟨gb717, _, none⟩) NB728_717.out _).trans (hHeld.1)))), ((cell_far (p := ⟨gb717, _, none⟩) NB728_717.out _).trans (((cell_far (p := ⟨gb717, _, none⟩) NB728_717.out _).trans (hHeld.2.1)))), ((cell_far (p := ⟨gb717, _, none⟩) NB728_717.out _).trans (((cell_far (p := ⟨gb717, _, none⟩) NB728_717.out _).trans (hHeld.2.2))))⟩ (fun hHeld => ?_)
        clear hK K
        refine done_ (by kernel_rfl) ?_
        try go_wp2
        refine bodyPost_ret (results_list (rs := [.tmp 2, .cell 3 31, .cell 4 43]) rfl (by simp) (.tmp (.cell gb716 31 #[.string x729000_1, .int .i64 (rd y749 t752), .int .i64 x729002_1] (0, 0) _ rfl (by refine bx ?_; refine blk_far ?_ NB716_717.out _; refine bx ?_; refine blk_far ?_ NB716_717.out _; refine bx ?_; refine blk_put (cs := #[.string x729000_1, .int .i64 (rd y749 t752), .int .i64 0]) ?_ 2 _ rfl; refine bx ?_; refine blk_put (cs := #[.string x729000_1, .int .i64 0, .int .i64 0]) ?_ 1 _ rfl; refine bx ?_; refine blk_put (cs := #[.string (⟨#[]⟩ : ByteArray), .int .i64 0, .int .i64 0]) ?_ 0 _ rfl; refine bx ?_; exact BK716.out) Try.underlying31 rfl (by kernel_rfl) (.cell gb717 43 #[.int .i64 t755, .bool t756] (0, 0) _ rfl (by refine bx ?_; refine blk_put (cs := #[.int .i64 t755, .bool false]) ?_ 1 _ rfl; refine bx ?_; refine blk_put (cs := #[.int .i64 0, .bool false]) ?_ 0 _ rfl; refine bx ?_; refine blk_far ?_ NB717_716.out _; refine bx ?_; refine blk_far ?_ NB717_716.out _; refine bx ?_; refine blk_far ?_ NB717_716.out _; refine bx ?_; exact BK717.out) Try.underlying43 rfl (by kernel_rfl) .nil)))) rfl ?_
        exact ⟨_, exq, by refine rx ?_; exact Kd.R_mono (Kd.R_far (p := ⟨gb717, 1, none⟩) (Kd.R_far (p := ⟨gb717, 0, none⟩) (Kd.R_far (p := ⟨gb716, 2, none⟩) (Kd.R_far (p := ⟨gb716, 1, none⟩) (Kd.R_far (p := ⟨gb716, 0, none⟩) (Kd.R_types (Kd.R_types HO_6.out BK716.out (by decide)) BK717.out (by decide)) (fun _ hk => hk.1.2) (.string x729000_1)) (fun _ hk => hk.1.2) (.int .i64 (rd y749 t752))) (fun _ hk => hk.1.2) (.int .i64 x729002_1)) (fun _ hk => hk.2) (.int .i64 t755)) (fun _ hk => hk.2) (.bool t756)) (fun _ hk => trivial), bi HB.out⟩
       ·rw [if_neg c71] at H
        exact absurd H (by simp)
      ·rw [if_neg c70] at H
       exact absurd H (by simp)
     ·rw [if_neg c68] at H
      have c68b0 : (t739 == 1) = false := beq_eq_false_iff_ne.mpr c68
      have c68b1 : (t739 != 1) = true := bne_iff_ne.mpr c68
      replace H := Option.bind_eq_some_iff.mp H
      obtain ⟨⟨t758, t759, t760⟩, A900, H⟩ := H
      replace H : (some (t721, x729000_1, x729001_1, x729002_1, t758, t759)) = some (r1, r2, r3, r4, r5, r6) := H
      have A90 := Aside0.mk A900
      clear A900
      simp only [Option.some.injEq, Prod.mk.injEq] at H
      obtain ⟨rfl, rfl, rfl, rfl, rfl, rfl⟩ := H
      try go_wp2_with (first | ((with_reducible refine gate_callee (f := 64) rfl ?_); refine goesL_ (some 34) rfl rfl Try.func64 (by kernel_rfl) rfl #[.pointer (some ⟨g720, 0, none⟩), .int .i64 16] rfl mxp ?_; (with_reducible refine (spec_l1Rd_pick.calls k1 g720 t718 x721001_1 16 t739 t740 w _ ?side1 ?side2 A47.out).mono ?_); (case side1 => exact ib HI720.out); (case side2 => exact bi HB.out); rintro e w91 ⟨rfl, hi, hb, hk⟩; refine ⟨_, rfl, ?_⟩; have n0_ := Aside0.mk (Kd.R_mono (Kd.R_keep (IsS107.apart (show IsS107 w _ g720 t718 x721001_1 from ib HI720.out) (rx HO_6.out) (by decide)) hk (fun _ h => h.2)) (fun _ h => h.1)); have n1_ := kp BK716 hk NB716_720; have n2_ := kp BK717 hk NB717_720; have n3_ := kp BK728 hk NB728_720; have n4_ := Aside0.mk (hb); have n5_ := Aside0.mk (hi); clear HO_6; clear BK716; clear BK717; clear BK728; clear HB; clear HI720; have HO_6 := n0_; have BK716 := n1_; have BK717 := n2_; have BK728 := n3_; have HB := n4_; have HI720 := n5_; clear n0_ n1_ n2_ n3_ n4_ n5_; (try clear hb); (try clear hb2); (try clear hk); (try clear hi)))
      have n0_ := Aside0.mk (Kd.R_drew HO_6.out)
      have n1_ := Aside0.mk (blk_drew BK716.out)
      have n2_ := Aside0.mk (blk_drew BK717.out)
      have n3_ := Aside0.mk (blk_drew BK728.out)
      have n4_ := Aside0.mk (IsS107.drew HI720.out)
      have n5_ := Aside0.mk (below_drew1 HB.out)
      clear HO_6
      clear BK716
      clear BK717
      clear BK728
      clear HI720
      clear HB
      have HO_6 := n0_
      have BK716 := n1_
      have BK717 := n2_
      have BK728 := n3_
      have HI720 := n4_
      have HB := n5_
      clear n0_ n1_ n2_ n3_ n4_ n5_
      refine start_ (n := 7) (S := fun w' => w'.cell? ⟨gb728, 0, none⟩ = some (.string x729000_1) ∧ w'.cell? ⟨gb728, 1, none⟩ = some (.int .i64 x729001_1) ∧ w'.cell? ⟨gb728, 2, none⟩ = some (.int .i64 x729002_1)) (ds := []) #[false, false, false, false, false, false, false] (by kernel_rfl) rfl rfl ⟨(blk_cell BK728.out 0).trans rfl, (blk_cell BK728.out 1).trans rfl, (blk_cell BK728.out 2).trans rfl⟩ (fun hHeld => ?_)
      generalize w91.drew = w92 at HO_6 BK716 BK717 BK728 HI720 HB hHeld ⊢
      refine pure_ (i := 0) (N := some 49) (v := ?_) (a' := ?_) #[true, false, false, false, false, false, false] rfl rfl (by kernel_rfl) (fun _ _ _ h => h) (Or.inl ⟨by rfl, ?_⟩) ?_ ?_
      rotate_left
      ·intro w'
       go_simp
       with_reducible rfl
      rotate_left
      ·simp only [Act.put, List.setIfInBounds_toArray, List.set_cons_zero, List.set_cons_succ, i64_w, i32_w]
       rfl
      refine pure_ (i := 2) (N := some 51) (v := ?_) (a' := ?_) #[true, false, true, false, false, false, false] rfl rfl (by kernel_rfl) (fun _ _ _ h => h) (Or.inl ⟨by rfl, ?_⟩) ?_ ?_
      rotate_left
      ·intro w'
       go_simp
       with_reducible rfl
      rotate_left
      ·simp only [Act.put, List.setIfInBounds_toArray, List.set_cons_zero, List.set_cons_succ, i64_w, i32_w]
       rfl
      refine take_ (i := 1) (N := some 50) (v := ?_) (a' := ?_) #[true, true, true, false, false, false, false] rfl rfl (by kernel_rfl) (fun _ _ _ h => h) (Or.inl ⟨by rfl, ?_⟩) hHeld ?_ ?_
      rotate_left
      ·rintro w' ⟨s0, s1, s2⟩
       go_simp
       with_reducible rfl
      rotate_left
      ·simp only [Act.put, List.setIfInBounds_toArray, List.set_cons_zero, List.set_cons_succ, i64_w, i32_w]
       rfl
      refine one_ (i := 3) (N := some 52) #[true, true, true, true, false, false, false] rfl rfl (by kernel_rfl) (by decide) (fun K hK => ?_)
      refine goes_ Try.func65 (by kernel_rfl) rfl #[.pointer (some ⟨g720, 0, none⟩)] (by rfl) rfl rfl mxp ?_
      with_reducible refine (spec_l5Say.calls k1 g720 t718 t740 t758 t759 t760 w _ ?side1 ?side2 A90.out).mono ?_
      (case side1 => exact ib HI720.out)
      (case side2 => exact bi HB.out)
      rintro e w93 ⟨rfl, hi, hb, hk⟩
      refine ⟨_, rfl, ?_⟩
      have n0_ := Aside0.mk (Kd.R_mono (Kd.R_keep (IsS107.apart (show IsS107 w _ g720 t718 t740 from ib HI720.out) (rx HO_6.out) (by decide)) hk (fun _ h => h.2)) (fun _ h => h.1))
      have n1_ := kp BK716 hk NB716_720
      have n2_ := kp BK717 hk NB717_720
      have n3_ := kp BK728 hk NB728_720
      have n4_ := Aside0.mk (hb)
      have n5_ := Aside0.mk (hi)
      clear HO_6
      clear BK716
      clear BK717
      clear BK728
      clear HB
      clear HI720
      have HO_6 := n0_
      have BK716 := n1_
      have BK717 := n2_
      have BK728 := n3_
      have HB := n4_
      have HI720 := n5_
      clear n0_ n1_ n2_ n3_ n4_ n5_
      (try clear hb)
      (try clear hb2)
      (try clear hk)
      (try clear hi)
      refine hK.out _ _ ⟨(blk_cell BK728.out 0).trans rfl, (blk_cell BK728.out 1).trans rfl, (blk_cell BK728.out 2).trans rfl⟩ (fun hHeld => ?_)
      clear hK K
      refine norm_ (a' := ?_) ?_ ?_
      rotate_left
      ·show Act.put _ (some 52) _ = _
       simp only [Act.put, List.setIfInBounds_toArray, List.set_cons_zero, List.set_cons_succ, i64_w, i32_w]
       rfl
      refine pure_ (i := 4) (N := some 2) (v := ?_) (a' := ?_) #[true, true, true, true, true, false, false] rfl rfl (by kernel_rfl) (fun _ _ _ h => h) (Or.inl ⟨by rfl, ?_⟩) ?_ ?_
      rotate_left
      ·intro w'
       go_simp
       with_reducible rfl
      rotate_left
      ·simp only [Act.put, List.setIfInBounds_toArray, List.set_cons_zero, List.set_cons_succ, i64_w, i32_w]
       rfl
      refine one_ (i := 5) (N := none) #[true, true, true, true, true, true, false] rfl rfl (by kernel_rfl) (by decide) (fun K hK => ?_)
      have hs94 : w93.cell? ⟨gb716, 0, none⟩ = some (.string (⟨#[]⟩ : ByteArray)) := (blk_cell BK716.out 0).trans rfl
      have hfs94 := blk_frozen BK716.out 0
      have hns94_1 := NB717_716.out
      have hns94_2 := NB728_716.out
      have hms94_1 := NB716_717.out
      have hms94_2 := NB716_728.out
      have hs95 : w93.cell? ⟨gb716, 1, none⟩ = some (.int .i64 0) := (blk_cell BK716.out 1).trans rfl
      have hfs95 := blk_frozen BK716.out 1
      have hns95_1 := NB717_716.out
      have hns95_2 := NB728_716.out
      have hms95_1 := NB716_717.out
      have hms95_2 := NB716_728.out
      have hs96 : w93.cell? ⟨gb716, 2, none⟩ = some (.int .i64 0) := (blk_cell BK716.out 2).trans rfl
      have hfs96 := blk_frozen BK716.out 2
      have hns96_1 := NB717_716.out
      have hns96_2 := NB728_716.out
      have hms96_1 := NB716_717.out
      have hms96_2 := NB716_728.out
      refine skip_ (w1 := ?_) (by rfl) rfl ?_ ?_
      rotate_left
      ·go_simp
       rfl
      refine hK.out _ _ ⟨((cell_far (p := ⟨gb716, _, none⟩) NB728_716.out _).trans (((cell_far (p := ⟨gb716, _, none⟩) NB728_716.out _).trans (((cell_far (p := ⟨gb716, _, none⟩) NB728_716.out _).trans (hHeld.1)))))), ((cell_far (p := ⟨gb716, _, none⟩) NB728_716.out _).trans (((cell_far (p := ⟨gb716, _, none⟩) NB728_716.out _).trans (((cell_far (p := ⟨gb716, _, none⟩) NB728_716.out _).trans (hHeld.2.1)))))), ((cell_far (p := ⟨gb716, _, none⟩) NB728_716.out _).trans (((cell_far (p := ⟨gb716, _, none⟩) NB728_716.out _).trans (((cell_far (p := ⟨gb716, _, none⟩) NB728_716.out _).trans (hHeld.2.2))))))⟩ (fun hHeld => ?_)
      clear hK K
      refine one_ (i := 6) (N := none) #[true, true, true, true, true, true, true] rfl rfl (by kernel_rfl) (by decide) (fun K hK => ?_)
      have hs97 : w93.cell? ⟨gb717, 0, none⟩ = some (.int .i64 0) := (blk_cell BK717.out 0).trans rfl
      have hfs97 := blk_frozen BK717.out 0
      have hns97_0 := NB716_717.out
      have hns97_2 := NB728_717.out
      have hms97_0 := NB717_716.out
      have hms97_2 := NB717_728.out
      have hs98 : w93.cell? ⟨gb717, 1, none⟩ = some (.bool false) := (blk_cell BK717.out 1).trans rfl
      have hfs98 := blk_frozen BK717.out 1
      have hns98_0 := NB716_717.out
      have hns98_2 := NB728_717.out
      have hms98_0 := NB717_716.out
      have hms98_2 := NB717_728.out
      refine skip_ (w1 := ?_) (by rfl) rfl ?_ ?_
      rotate_left
      ·go_simp
       rfl
      refine hK.out _ _ ⟨((cell_far (p := ⟨gb717, _, none⟩) NB728_717.out _).trans (((cell_far (p := ⟨gb717, _, none⟩) NB728_717.out _).trans (hHeld.1)))), ((cell_far (p := ⟨gb717, _, none⟩) NB728_717.out _).trans (((cell_far (p := ⟨gb717, _, none⟩) NB728_717.out _).trans (hHeld.2.1)))), ((cell_far (p := ⟨gb717, _, none⟩) NB728_717.out _).trans (((cell_far (p := ⟨gb717, _, none⟩) NB728_717.out _).trans (hHeld.2.2))))⟩ (fun hHeld => ?_)
      clear hK K
      refine done_ (by kernel_rfl) ?_
      try go_wp2
      refine bodyPost_ret (results_list (rs := [.tmp 2, .cell 3 31, .cell 4 43]) rfl (by simp) (.tmp (.cell gb716 31 #[.string x729000_1, .int .i64 x729001_1, .int .i64 x729002_1] (0, 0) _ rfl (by refine bx ?_; refine blk_far ?_ NB716_717.out _; refine bx ?_; refine blk_far ?_ NB716_717.out _; refine bx ?_; refine blk_put (cs := #[.string x729000_1, .int .i64 x729001_1, .int .i64 0]) ?_ 2 _ rfl; refine bx ?_; refine blk_put (cs := #[.string x729000_1, .int .i64 0, .int .i64 0]) ?_ 1 _ rfl; refine bx ?_; refine blk_put (cs := #[.string (⟨#[]⟩ : ByteArray), .int .i64 0, .int .i64 0]) ?_ 0 _ rfl; refine bx ?_; exact BK716.out) Try.underlying31 rfl (by kernel_rfl) (.cell gb717 43 #[.int .i64 t758, .bool t759] (0, 0) _ rfl (by refine bx ?_; refine blk_put (cs := #[.int .i64 t758, .bool false]) ?_ 1 _ rfl; refine bx ?_; refine blk_put (cs := #[.int .i64 0, .bool false]) ?_ 0 _ rfl; refine bx ?_; refine blk_far ?_ NB717_716.out _; refine bx ?_; refine blk_far ?_ NB717_716.out _; refine bx ?_; refine blk_far ?_ NB717_716.out _; refine bx ?_; exact BK717.out) Try.underlying43 rfl (by kernel_rfl) .nil)))) rfl ?_
      exact ⟨_, exq, by refine rx ?_; exact Kd.R_mono (Kd.R_far (p := ⟨gb717, 1, none⟩) (Kd.R_far (p := ⟨gb717, 0, none⟩) (Kd.R_far (p := ⟨gb716, 2, none⟩) (Kd.R_far (p := ⟨gb716, 1, none⟩) (Kd.R_far (p := ⟨gb716, 0, none⟩) (Kd.R_types (Kd.R_types HO_6.out BK716.out (by decide)) BK717.out (by decide)) (fun _ hk => hk.1.2) (.string x729000_1)) (fun _ hk => hk.1.2) (.int .i64 x729001_1)) (fun _ hk => hk.1.2) (.int .i64 x729002_1)) (fun _ hk => hk.2) (.int .i64 t758)) (fun _ hk => hk.2) (.bool t759)) (fun _ hk => trivial), bi HB.out⟩


attribute [local go_sem high] eqA31
/-! ### laws_FnGo: function 14 -/
mutual
def laws_FnGo.j0 : Nat → List (S39) → Bool → Bool → ByteArray → Int → Int → Int → Bool → ByteArray → Int → Int → Option (Bool)
 | 0, _, _, _, _, _, _, _, _, _, _, _ => none
 | k + 1, x3, x7, x43, x770000, x770001, x770002, x771000, x771001, x776000, x776001, x776002 => if x43 = true then (some false) else (if x7 = true then (laws_FnGo.l0 k x3 0 x770000 x770001 x770002 x771000 x771001 x776000 x776001 x776002) else (some (x776000.toList == x770000.toList && (x776001 == x770001 && (x776002 == x770002)))))
def laws_FnGo.l0 : Nat → List (S39) → Int → ByteArray → Int → Int → Int → Bool → ByteArray → Int → Int → Option (Bool)
 | 0, _, _, _, _, _, _, _, _, _, _ => none
 | k + 1, x3, x10, x770000, x770001, x770002, x771000, x771001, x776000, x776001, x776002 => if x10 < (x3.length : Int) then (if 0 ≤ x10 then (if ((rd_T39 x3 x10).f0).toList = x770000.toList then (if (wrap64 (x776001 - x770001)) < 0 then (some false) else (if (wrap64 (x776001 - x770001)) > ((rd_T39 x3 x10).f5) then (some false) else (if x776000.toList = ((rd_T39 x3 x10).f6).toList then (if x771000 > ((rd_T39 x3 x10).f5) then (if x776000.toList = ((rd_T39 x3 x10).f7).toList then (if x771001 = true then (if ((rd_T39 x3 x10).f1) = 3 then (if (x771000 ≤ ((rd_T39 x3 x10).f5)) then (some (decide ((wrap64 (x776001 - x770001)) ≥ ((rd_T39 x3 x10).f4)))) else (some true)) else (some true)) else (if ((rd_T39 x3 x10).f1) = 3 then (some true) else (some true))) else (some false)) else (if x771001 = true then (if ((rd_T39 x3 x10).f1) = 3 then (if (x771000 ≤ ((rd_T39 x3 x10).f5)) then (some (decide ((wrap64 (x776001 - x770001)) ≥ ((rd_T39 x3 x10).f4)))) else (some true)) else (some true)) else (if x776000.toList = ((rd_T39 x3 x10).f7).toList then (if ((rd_T39 x3 x10).f1) = 3 then (some true) else (some true)) else (some false)))) else (if x776000.toList = ((rd_T39 x3 x10).f7).toList then (if x771000 > ((rd_T39 x3 x10).f5) then (if x771001 = true then (if ((rd_T39 x3 x10).f1) = 3 then (if (x771000 ≤ ((rd_T39 x3 x10).f5)) then (some false) else (some true)) else (some true)) else (if ((rd_T39 x3 x10).f1) = 3 then (some true) else (some true))) else (if x771001 = true then (if ((rd_T39 x3 x10).f1) = 3 then (if (x771000 ≤ ((rd_T39 x3 x10).f5)) then (some false) else (some true)) else (some true)) else (if ((rd_T39 x3 x10).f1) = 3 then (some true) else (some true)))) else (some false))))) else (laws_FnGo.l0 k x3 (wrap64 (x10 + 1)) x770000 x770001 x770002 x771000 x771001 x776000 x776001 x776002)) else (none)) else (some false)
end
def laws_FnGo.f (k : Nat) (l0 : List Int) : Option (Bool) := if (l0.length : Int) > 1048576 then (some true) else ((spec_DrawRecGo.f k l0).bind fun bt761 => ((impl_RecGo.f k bt761.1 bt761.2.1 bt761.2.2.1 bt761.2.2.2.1 bt761.2.2.2.2.1 bt761.2.2.2.2.2).bind fun bt771 => ((spec_RecGo.f k bt761.1 bt761.2.1 bt761.2.2.1 bt761.2.2.2.1 bt761.2.2.2.2.1 bt761.2.2.2.2.2).bind fun bt776 => (if (bt771.2.2.2 != bt776.2.2.2) = true then (laws_FnGo.j0 k bt761.1 bt771.2.2.2 true bt761.2.1 bt761.2.2.1 bt761.2.2.2.1 bt761.2.2.2.2.1 bt761.2.2.2.2.2 bt771.1 bt771.2.1 bt771.2.2.1) else (laws_FnGo.j0 k bt761.1 bt771.2.2.2 (!(bt771.1.toList == bt776.1.toList) || (!(bt771.2.1 == bt776.2.1) || (!(bt771.2.2.1 == bt776.2.2.1)))) bt761.2.1 bt761.2.2.1 bt761.2.2.2.1 bt761.2.2.2.2.1 bt761.2.2.2.2.2 bt771.1 bt771.2.1 bt771.2.2.1)))))
theorem laws_FnGo.mono_l : ∀ k, (∀ y0 y1 y2 y3 y4 y5 y6 y7 y8 y9 y10, LeO (laws_FnGo.j0 k y0 y1 y2 y3 y4 y5 y6 y7 y8 y9 y10) (laws_FnGo.j0 (k + 1) y0 y1 y2 y3 y4 y5 y6 y7 y8 y9 y10)) ∧ (∀ y0 y1 y2 y3 y4 y5 y6 y7 y8 y9, LeO (laws_FnGo.l0 k y0 y1 y2 y3 y4 y5 y6 y7 y8 y9) (laws_FnGo.l0 (k + 1) y0 y1 y2 y3 y4 y5 y6 y7 y8 y9))
 | 0 => ⟨fun _ _ _ _ _ _ _ _ _ _ _ r h => by simp [laws_FnGo.j0] at h, fun _ _ _ _ _ _ _ _ _ _ r h => by simp [laws_FnGo.l0] at h⟩
 | k + 1 => by
  obtain ⟨ih0, ih1⟩ := laws_FnGo.mono_l k
  refine ⟨?_, ?_⟩
  ·intro y0 y1 y2 y3 y4 y5 y6 y7 y8 y9 y10
   unfold laws_FnGo.j0
   repeat' first
   | (with_reducible exact ih0 _ _ _ _ _ _ _ _ _ _ _)
   | (with_reducible exact ih1 _ _ _ _ _ _ _ _ _ _)
   | (with_reducible exact impl_RecGo.mono _ _ _ _ _ _ _)
   | (with_reducible exact spec_DrawRecGo.mono _ _)
   | (with_reducible exact spec_RecGo.mono _ _ _ _ _ _ _)
   | (with_reducible exact LeO.refl _)
   | (with_reducible exact LeO.none _)
   | (with_reducible refine LeO.ite ?_ ?_)
   | (with_reducible refine LeO.bind ?_ (fun _ => ?_))
   | exact ih0 _ _ _ _ _ _ _ _ _ _ _
   | exact ih1 _ _ _ _ _ _ _ _ _ _
   | exact impl_RecGo.mono _ _ _ _ _ _ _
   | exact spec_DrawRecGo.mono _ _
   | exact spec_RecGo.mono _ _ _ _ _ _ _
   | exact LeO.none _
   | refine LeO.ite ?_ ?_
   | refine LeO.bind ?_ (fun _ => ?_)
  ·intro y0 y1 y2 y3 y4 y5 y6 y7 y8 y9
   unfold laws_FnGo.l0
   repeat' first
   | (with_reducible exact ih0 _ _ _ _ _ _ _ _ _ _ _)
   | (with_reducible exact ih1 _ _ _ _ _ _ _ _ _ _)
   | (with_reducible exact impl_RecGo.mono _ _ _ _ _ _ _)
   | (with_reducible exact spec_DrawRecGo.mono _ _)
   | (with_reducible exact spec_RecGo.mono _ _ _ _ _ _ _)
   | (with_reducible exact LeO.refl _)
   | (with_reducible exact LeO.none _)
   | (with_reducible refine LeO.ite ?_ ?_)
   | (with_reducible refine LeO.bind ?_ (fun _ => ?_))
   | exact ih0 _ _ _ _ _ _ _ _ _ _ _
   | exact ih1 _ _ _ _ _ _ _ _ _ _
   | exact impl_RecGo.mono _ _ _ _ _ _ _
   | exact spec_DrawRecGo.mono _ _
   | exact spec_RecGo.mono _ _ _ _ _ _ _
   | exact LeO.none _
   | refine LeO.ite ?_ ?_
   | refine LeO.bind ?_ (fun _ => ?_)
theorem laws_FnGo.mono : ∀ a0 k, LeO (laws_FnGo.f k a0) (laws_FnGo.f (k + 1) a0) := by
 intro a0 k
 obtain ⟨ih0, ih1⟩ := laws_FnGo.mono_l k
 unfold laws_FnGo.f
 repeat' first
   | (with_reducible exact ih0 _ _ _ _ _ _ _ _ _ _ _)
   | (with_reducible exact ih1 _ _ _ _ _ _ _ _ _ _)
   | (with_reducible exact impl_RecGo.mono _ _ _ _ _ _ _)
   | (with_reducible exact spec_DrawRecGo.mono _ _)
   | (with_reducible exact spec_RecGo.mono _ _ _ _ _ _ _)
   | (with_reducible exact LeO.refl _)
   | (with_reducible exact LeO.none _)
   | (with_reducible refine LeO.ite ?_ ?_)
   | (with_reducible refine LeO.bind ?_ (fun _ => ?_))
   | exact ih0 _ _ _ _ _ _ _ _ _ _ _
   | exact ih1 _ _ _ _ _ _ _ _ _ _
   | exact impl_RecGo.mono _ _ _ _ _ _ _
   | exact spec_DrawRecGo.mono _ _
   | exact spec_RecGo.mono _ _ _ _ _ _ _
   | exact LeO.none _
   | refine LeO.ite ?_ ?_
   | refine LeO.bind ?_ (fun _ => ?_)
set_option maxHeartbeats 8000000 in
set_option maxRecDepth 100000 in
theorem laws_FnGo.calls (k : Nat) (A0 : Option Addr) (c0 : Nat) (l0 : List Int) (r : Bool) (w : World) (hr0 : Kd.C (Kd.int .u8) w A0 l0.length l0) (hc0 : l0.length ≤ c0) (h : laws_FnGo.f k l0 = some r) :
  Calls Try.prog 14 #[.slice A0 l0.length c0] w fun e w' => e = .returned (.bool r) ∧ Below w.heap.size w w' := by
 have hu31 := Try.underlying31
 have hu43 := Try.underlying43
 have hu39 := Try.underlying39
 have HR0 := Aside0.mk hr0
 have HC0 := Aside0.mk hc0
 clear hr0 hc0
 have HB := Aside0.mk (Below.refl w.heap.size w)
 have H : (if (l0.length : Int) > 1048576 then (some true) else ((spec_DrawRecGo.f k l0).bind fun bt761 => ((impl_RecGo.f k bt761.1 bt761.2.1 bt761.2.2.1 bt761.2.2.2.1 bt761.2.2.2.2.1 bt761.2.2.2.2.2).bind fun bt771 => ((spec_RecGo.f k bt761.1 bt761.2.1 bt761.2.2.1 bt761.2.2.2.1 bt761.2.2.2.2.1 bt761.2.2.2.2.2).bind fun bt776 => (if (bt771.2.2.2 != bt776.2.2.2) = true then (laws_FnGo.j0 k bt761.1 bt771.2.2.2 true bt761.2.1 bt761.2.2.1 bt761.2.2.2.1 bt761.2.2.2.2.1 bt761.2.2.2.2.2 bt771.1 bt771.2.1 bt771.2.2.1) else (laws_FnGo.j0 k bt761.1 bt771.2.2.2 (!(bt771.1.toList == bt776.1.toList) || (!(bt771.2.1 == bt776.2.1) || (!(bt771.2.2.1 == bt776.2.2.1)))) bt761.2.1 bt761.2.2.1 bt761.2.2.2.1 bt761.2.2.2.2.1 bt761.2.2.2.2.2 bt771.1 bt771.2.1 bt771.2.2.1)))))) = some r := h
 clear h
 by_cases c2 : (l0.length : Int) > 1048576
 ·rw [if_pos c2] at H
  have c2b0 : decide (1048576 < (l0.length : Int)) = true := decide_eq_true c2
  have c2b1 : decide (1048576 < l0.length) = true := decide_eq_true (by omega)
  clear c2
  obtain rfl := Option.some.inj H
  go_enter Try.func14, Try.ntmps14
  go_wp2
  go_ret
  exact ⟨exq, bw HB.out⟩
 ·rw [if_neg c2] at H
  have c2b0 : decide (1048576 < (l0.length : Int)) = false := decide_eq_false c2
  have c2b1 : decide (1048576 < l0.length) = false := decide_eq_false (by omega)
  clear c2
  replace H := Option.bind_eq_some_iff.mp H
  obtain ⟨⟨t761, t764, t765, t766, t767, t768⟩, A30, H⟩ := H
  replace H : ((impl_RecGo.f k t761 t764 t765 t766 t767 t768).bind fun bt771 => ((spec_RecGo.f k t761 t764 t765 t766 t767 t768).bind fun bt776 => (if (bt771.2.2.2 != bt776.2.2.2) = true then (laws_FnGo.j0 k t761 bt771.2.2.2 true t764 t765 t766 t767 t768 bt771.1 bt771.2.1 bt771.2.2.1) else (laws_FnGo.j0 k t761 bt771.2.2.2 (!(bt771.1.toList == bt776.1.toList) || (!(bt771.2.1 == bt776.2.1) || (!(bt771.2.2.1 == bt776.2.2.1)))) t764 t765 t766 t767 t768 bt771.1 bt771.2.1 bt771.2.2.1)))) = some r := H
  have A3 := Aside0.mk A30
  clear A30
  replace H := Option.bind_eq_some_iff.mp H
  obtain ⟨⟨t771, t772, t773, t774⟩, A40, H⟩ := H
  replace H : ((spec_RecGo.f k t761 t764 t765 t766 t767 t768).bind fun bt776 => (if (t774 != bt776.2.2.2) = true then (laws_FnGo.j0 k t761 t774 true t764 t765 t766 t767 t768 t771 t772 t773) else (laws_FnGo.j0 k t761 t774 (!(t771.toList == bt776.1.toList) || (!(t772 == bt776.2.1) || (!(t773 == bt776.2.2.1)))) t764 t765 t766 t767 t768 t771 t772 t773))) = some r := H
  have A4 := Aside0.mk A40
  clear A40
  replace H := Option.bind_eq_some_iff.mp H
  obtain ⟨⟨t776, t777, t778, t779⟩, A50, H⟩ := H
  replace H : (if (t774 != t779) = true then (laws_FnGo.j0 k t761 t774 true t764 t765 t766 t767 t768 t771 t772 t773) else (laws_FnGo.j0 k t761 t774 (!(t771.toList == t776.toList) || (!(t772 == t777) || (!(t773 == t778)))) t764 t765 t766 t767 t768 t771 t772 t773)) = some r := H
  have A5 := Aside0.mk A50
  clear A50
  have HC6 := Aside0.mk H
  clear H
  go_enter Try.func14, Try.ntmps14
  go_upto_region 6 with (first | ((with_reducible refine gate_callee (f := 50) rfl ?_); refine goesL_ (some 18) rfl rfl Try.func50 (by kernel_rfl) rfl #[.slice A0 l0.length c0] rfl mxp ?_; (with_reducible refine (spec_DrawRecGo.calls k _ _ l0 t761 t764 t765 t766 t767 t768 _ ?side1 ?side2 A3.out).mono ?_); (case side1 => exact cx HR0.out); (case side2 => exact HC0.out); rintro e w7 ⟨v762, rfl, ho0, hb⟩; refine ⟨_, rfl, ?_⟩; have n0_ := Aside0.mk (Kd.R_lower ho0 (below_size (bw HB.out))); have n1_ := bs HB hb; clear HB; have HO763 := n0_; have HB := n1_; clear n0_ n1_; (try clear hb); (try clear hb2); (try clear hk); (try clear hi); (try clear ho0)) | ((with_reducible refine gate_dst (N := 4) rfl ?_); refine box_event ?hg (N := 4) ?hd (cs := #[.string (⟨#[]⟩ : ByteArray), .int .i64 0, .int .i64 0]) (t := 31) ?hr ?_; (case hd => rfl); (case hg => rfl); (case hr => first | (go_simp; done) | (go_simp; rfl)); intro gb769 hg w8 hbox hb; have n0_ := Aside0.mk (Kd.R_below (rx HO763.out) hb); have n1_ := bs HB hb; have n2_ := Aside0.mk (hbox); have n3_ := gh hg HB; have n4_ := gh hg HB; clear HO763; clear HB; have HO763 := n0_; have HB := n1_; have BK769 := n2_; have GW769 := n3_; have GE769 := n4_; clear n0_ n1_ n2_ n3_ n4_; clear hb hbox hg) | ((with_reducible refine gate_dst (N := 5) rfl ?_); refine box_event ?hg (N := 5) ?hd (cs := #[.int .i64 0, .bool false]) (t := 43) ?hr ?_; (case hd => rfl); (case hg => rfl); (case hr => first | (go_simp; done) | (go_simp; rfl)); intro gb770 hg w9 hbox hb; have n0_ := Aside0.mk (Kd.R_below (rx HO763.out) hb); have n1_ := up BK769 hb; have n2_ := bs HB hb; have n3_ := Aside0.mk (hbox); have n4_ := gh hg HB; have n5_ := gh hg HB; have n6_ := nlt' hg BK769; have n7_ := ngt' hg BK769; clear HO763; clear BK769; clear HB; have HO763 := n0_; have BK769 := n1_; have HB := n2_; have BK770 := n3_; have GW770 := n4_; have GE770 := n5_; have NB769_770 := n6_; have NB770_769 := n7_; clear n0_ n1_ n2_ n3_ n4_ n5_ n6_ n7_; clear hb hbox hg; have hnb10 := NB769_770.out; have hnc10 := NB770_769.out; have hcz11_0 := b0 BK769; have hcz11_1 := b1 BK769; have hcz11_2 := b2 BK769; have hfz11_0 := fz BK769 0; have hfz11_1 := fz BK769 1; have hfz11_2 := fz BK769 2; have hcz12_0 := b0 BK770; have hcz12_1 := b1 BK770; have hfz12_0 := fz BK770 0; have hfz12_1 := fz BK770 1; obtain ⟨Ao13, co13, eo13⟩ := Kd.R_slice HO763.out; subst eo13) | ((with_reducible refine gate_callee (f := 28) rfl ?_); refine goesL_ (some 26) rfl rfl Try.func28 (by kernel_rfl) rfl #[.slice Ao13 t761.length co13, .agg #[.string t764, .int .i64 t765, .int .i64 t766], .agg #[.int .i64 t767, .bool t768]] rfl mxp ?_; (with_reducible refine (impl_RecGo.calls k _ _ t761 t764 t765 t766 t767 t768 t771 t772 t773 t774 _ ?side1 ?side2 A4.out).mono ?_); (case side1 => refine (Kd.R_reads' (e := 39) (base := w.heap.size) (ok := fun k_ => True) (n := t761.length) (c := co13) ?_).2.2; exact (by refine rx ?_; exact (Kd.R_mono (Kd.R_mono (Kd.R_far (p := ⟨gb770, 1, none⟩) (Kd.R_far (p := ⟨gb770, 0, none⟩) (Kd.R_far (p := ⟨gb769, 2, none⟩) (Kd.R_far (p := ⟨gb769, 1, none⟩) (Kd.R_far (p := ⟨gb769, 0, none⟩) (Kd.R_types (Kd.R_types HO763.out BK769.out (by decide)) BK770.out (by decide)) (fun _ hk => hk.1.2) (.string t764)) (fun _ hk => hk.1.2) (.int .i64 t765)) (fun _ hk => hk.1.2) (.int .i64 t766)) (fun _ hk => hk.2) (.int .i64 t767)) (fun _ hk => hk.2) (.bool t768)) (fun _ h_ => h_.1)) (fun _ h_ => h_.1)))); (case side2 => exact (Kd.R_reads' HO763.out).2.1); rintro e w14 ⟨rfl, hb⟩; refine ⟨_, rfl, ?_⟩; have n0_ := Aside0.mk (Kd.R_below (by refine rx ?_; exact (Kd.R_mono (Kd.R_mono (Kd.R_far (p := ⟨gb770, 1, none⟩) (Kd.R_far (p := ⟨gb770, 0, none⟩) (Kd.R_far (p := ⟨gb769, 2, none⟩) (Kd.R_far (p := ⟨gb769, 1, none⟩) (Kd.R_far (p := ⟨gb769, 0, none⟩) (Kd.R_types (Kd.R_types HO763.out BK769.out (by decide)) BK770.out (by decide)) (fun _ hk => hk.1.2) (.string t764)) (fun _ hk => hk.1.2) (.int .i64 t765)) (fun _ hk => hk.1.2) (.int .i64 t766)) (fun _ hk => hk.2) (.int .i64 t767)) (fun _ hk => hk.2) (.bool t768)) (fun _ h_ => h_.1)) (fun _ h_ => h_.1))) hb); have n1_ := Aside0.mk (blk_below (g := gb769) (o := .cells #[.string t764, .int .i64 t765, .int .i64 t766] 31 (0, 0)) (by refine bx ?_; refine blk_far ?_ NB769_770.out _; refine bx ?_; refine blk_far ?_ NB769_770.out _; refine bx ?_; refine blk_put (cs := #[.string t764, .int .i64 t765, .int .i64 0]) ?_ 2 _ rfl; refine bx ?_; refine blk_put (cs := #[.string t764, .int .i64 0, .int .i64 0]) ?_ 1 _ rfl; refine bx ?_; refine blk_put (cs := #[.string (⟨#[]⟩ : ByteArray), .int .i64 0, .int .i64 0]) ?_ 0 _ rfl; refine bx ?_; exact BK769.out) hb); have n2_ := Aside0.mk (blk_below (g := gb770) (o := .cells #[.int .i64 t767, .bool t768] 43 (0, 0)) (by refine bx ?_; refine blk_put (cs := #[.int .i64 t767, .bool false]) ?_ 1 _ rfl; refine bx ?_; refine blk_put (cs := #[.int .i64 0, .bool false]) ?_ 0 _ rfl; refine bx ?_; refine blk_far ?_ NB770_769.out _; refine bx ?_; refine blk_far ?_ NB770_769.out _; refine bx ?_; refine blk_far ?_ NB770_769.out _; refine bx ?_; exact BK770.out) hb); have n3_ := bs HB hb; clear HO763; clear BK769; clear BK770; clear HB; have HO763 := n0_; have BK769 := n1_; have BK770 := n2_; have HB := n3_; clear n0_ n1_ n2_ n3_; (try clear hb); (try clear hb2); (try clear hk); (try clear hi)) | ((with_reducible refine gate_dst (N := 6) rfl ?_); refine box_event ?hg (N := 6) ?hd (cs := #[.string (⟨#[]⟩ : ByteArray), .int .i64 0, .int .i64 0]) (t := 31) ?hr ?_; (case hd => rfl); (case hg => rfl); (case hr => first | (go_simp; done) | (go_simp; rfl)); intro gb775 hg w15 hbox hb; have n0_ := Aside0.mk (Kd.R_below (rx HO763.out) hb); have n1_ := up BK769 hb; have n2_ := up BK770 hb; have n3_ := bs HB hb; have n4_ := Aside0.mk (hbox); have n5_ := gh hg HB; have n6_ := gh hg HB; have n7_ := nlt' hg BK769; have n8_ := ngt' hg BK769; have n9_ := nlt' hg BK770; have n10_ := ngt' hg BK770; clear HO763; clear BK769; clear BK770; clear HB; have HO763 := n0_; have BK769 := n1_; have BK770 := n2_; have HB := n3_; have BK775 := n4_; have GW775 := n5_; have GE775 := n6_; have NB769_775 := n7_; have NB775_769 := n8_; have NB770_775 := n9_; have NB775_770 := n10_; clear n0_ n1_ n2_ n3_ n4_ n5_ n6_ n7_ n8_ n9_ n10_; clear hb hbox hg; have hnb16 := NB775_769.out; have hnc16 := NB769_775.out; have hnb17 := NB775_770.out; have hnc17 := NB770_775.out; have hcz18_0 := b0 BK775; have hcz18_1 := b1 BK775; have hcz18_2 := b2 BK775; have hfz18_0 := fz BK775 0; have hfz18_1 := fz BK775 1; have hfz18_2 := fz BK775 2; have hcz19_0 := b0 BK769; have hcz19_1 := b1 BK769; have hcz19_2 := b2 BK769; have hfz19_0 := fz BK769 0; have hfz19_1 := fz BK769 1; have hfz19_2 := fz BK769 2; have hcz20_0 := b0 BK770; have hcz20_1 := b1 BK770; have hfz20_0 := fz BK770 0; have hfz20_1 := fz BK770 1) | ((with_reducible refine gate_callee (f := 47) rfl ?_); refine goesL_ (some 33) rfl rfl Try.func47 (by kernel_rfl) rfl #[.slice Ao13 t761.length co13, .agg #[.string t764, .int .i64 t765, .int .i64 t766], .agg #[.int .i64 t767, .bool t768]] rfl mxp ?_; (with_reducible refine (spec_RecGo.calls k _ _ t761 t764 t765 t766 t767 t768 t776 t777 t778 t779 _ ?side1 ?side2 A5.out).mono ?_); (case side1 => refine (Kd.R_reads' (e := 39) (base := w.heap.size) (ok := fun k_ => True) (n := t761.length) (c := co13) ?_).2.2; exact (by refine rx ?_; exact (Kd.R_mono (Kd.R_far (p := ⟨gb775, 2, none⟩) (Kd.R_far (p := ⟨gb775, 1, none⟩) (Kd.R_far (p := ⟨gb775, 0, none⟩) (Kd.R_types HO763.out BK775.out (by decide)) (fun _ hk => hk.2) (.string t771)) (fun _ hk => hk.2) (.int .i64 t772)) (fun _ hk => hk.2) (.int .i64 t773)) (fun _ h_ => h_.1)))); (case side2 => exact (Kd.R_reads' HO763.out).2.1); rintro e w21 ⟨rfl, hb⟩; refine ⟨_, rfl, ?_⟩; have n0_ := Aside0.mk (Kd.R_below (by refine rx ?_; exact (Kd.R_mono (Kd.R_far (p := ⟨gb775, 2, none⟩) (Kd.R_far (p := ⟨gb775, 1, none⟩) (Kd.R_far (p := ⟨gb775, 0, none⟩) (Kd.R_types HO763.out BK775.out (by decide)) (fun _ hk => hk.2) (.string t771)) (fun _ hk => hk.2) (.int .i64 t772)) (fun _ hk => hk.2) (.int .i64 t773)) (fun _ h_ => h_.1))) hb); have n1_ := Aside0.mk (blk_below (g := gb769) (o := .cells #[.string t764, .int .i64 t765, .int .i64 t766] 31 (0, 0)) (by refine bx ?_; refine blk_far ?_ NB769_775.out _; refine bx ?_; refine blk_far ?_ NB769_775.out _; refine bx ?_; refine blk_far ?_ NB769_775.out _; refine bx ?_; exact BK769.out) hb); have n2_ := Aside0.mk (blk_below (g := gb770) (o := .cells #[.int .i64 t767, .bool t768] 43 (0, 0)) (by refine bx ?_; refine blk_far ?_ NB770_775.out _; refine bx ?_; refine blk_far ?_ NB770_775.out _; refine bx ?_; refine blk_far ?_ NB770_775.out _; refine bx ?_; exact BK770.out) hb); have n3_ := Aside0.mk (blk_below (g := gb775) (o := .cells #[.string t771, .int .i64 t772, .int .i64 t773] 31 (0, 0)) (by refine bx ?_; refine blk_put (cs := #[.string t771, .int .i64 t772, .int .i64 0]) ?_ 2 _ rfl; refine bx ?_; refine blk_put (cs := #[.string t771, .int .i64 0, .int .i64 0]) ?_ 1 _ rfl; refine bx ?_; refine blk_put (cs := #[.string (⟨#[]⟩ : ByteArray), .int .i64 0, .int .i64 0]) ?_ 0 _ rfl; refine bx ?_; exact BK775.out) hb); have n4_ := bs HB hb; clear HO763; clear BK769; clear BK770; clear BK775; clear HB; have HO763 := n0_; have BK769 := n1_; have BK770 := n2_; have BK775 := n3_; have HB := n4_; clear n0_ n1_ n2_ n3_ n4_; (try clear hb); (try clear hb2); (try clear hk); (try clear hi)) | ((with_reducible refine gate_dst (N := 8) rfl ?_); refine box_event ?hg (N := 8) ?hd (cs := #[.string (⟨#[]⟩ : ByteArray), .int .i64 0, .int .i64 0]) (t := 31) ?hr ?_; (case hd => rfl); (case hg => rfl); (case hr => first | (go_simp; done) | (go_simp; rfl)); intro gb780 hg w22 hbox hb; have n0_ := Aside0.mk (Kd.R_below (rx HO763.out) hb); have n1_ := up BK769 hb; have n2_ := up BK770 hb; have n3_ := up BK775 hb; have n4_ := bs HB hb; have n5_ := Aside0.mk (hbox); have n6_ := gh hg HB; have n7_ := gh hg HB; have n8_ := nlt' hg BK769; have n9_ := ngt' hg BK769; have n10_ := nlt' hg BK770; have n11_ := ngt' hg BK770; have n12_ := nlt' hg BK775; have n13_ := ngt' hg BK775; clear HO763; clear BK769; clear BK770; clear BK775; clear HB; have HO763 := n0_; have BK769 := n1_; have BK770 := n2_; have BK775 := n3_; have HB := n4_; have BK780 := n5_; have GW780 := n6_; have GE780 := n7_; have NB769_780 := n8_; have NB780_769 := n9_; have NB770_780 := n10_; have NB780_770 := n11_; have NB775_780 := n12_; have NB780_775 := n13_; clear n0_ n1_ n2_ n3_ n4_ n5_ n6_ n7_ n8_ n9_ n10_ n11_ n12_ n13_; clear hb hbox hg; have hnb23 := NB780_769.out; have hnc23 := NB769_780.out; have hnb24 := NB780_770.out; have hnc24 := NB770_780.out; have hnb25 := NB780_775.out; have hnc25 := NB775_780.out; have hcz26_0 := b0 BK780; have hcz26_1 := b1 BK780; have hcz26_2 := b2 BK780; have hfz26_0 := fz BK780 0; have hfz26_1 := fz BK780 1; have hfz26_2 := fz BK780 2))
  (try simp only [Act.put, List.setIfInBounds_toArray, List.set_cons_zero, List.set_cons_succ])
  go_cut [43] (fun v43 wc => ∃ (kq : Nat) (x43_5 : Bool), v43 = .bool x43_5 ∧ Aside0 (laws_FnGo.j0 kq t761 t774 x43_5 t764 t765 t766 t767 t768 t771 t772 t773 = some r) ∧ Aside0 (kq ≤ k) ∧ Aside0 (Kd.R k39 39 wc w.heap.size (fun _ => True) (.slice Ao13 t761.length co13) t761) ∧ Aside0 (wc.heap[gb769]? = some (.cells #[.string t764, .int .i64 t765, .int .i64 t766] 31 (0, 0))) ∧ Aside0 (wc.heap[gb770]? = some (.cells #[.int .i64 t767, .bool t768] 43 (0, 0))) ∧ Aside0 (wc.heap[gb775]? = some (.cells #[.string t771, .int .i64 t772, .int .i64 t773] 31 (0, 0))) ∧ Aside0 (wc.heap[gb780]? = some (.cells #[.string t776, .int .i64 t777, .int .i64 t778] 31 (0, 0))) ∧ Aside0 (Below w.heap.size w wc))
  case first =>
   have H := HC6.out
   clear HC6
   by_cases c27 : (t774 != t779) = true
   ·rw [if_pos c27] at H
    have c27b0 : (t774 != t779) = true := c27
    (try (have c27b1 : decide (t774 = t779) = false := by simpa using c27))
    (try (have c27b2 : (t774 == t779) = false := by simpa using c27))
    (try (have c27b3 : ¬ (t774 = t779) := by simpa using c27))
    clear c27
    (first | rw [c27b0] | (simp only [i64_w, i32_w]; rw [c27b0]) | skip)
    have H' := Aside0.mk H
    clear H
    go_wp2
    go_meet
    case rel => exact ⟨_, (true), (by first | rfl | (simp; done) | (simp [*]; done)), H', ⟨by first | omega | exact Nat.le_refl _⟩, ⟨by refine rx ?_; exact Kd.R_mono (Kd.R_far (p := ⟨gb780, 2, none⟩) (Kd.R_far (p := ⟨gb780, 1, none⟩) (Kd.R_far (p := ⟨gb780, 0, none⟩) (Kd.R_types HO763.out BK780.out (by decide)) (fun _ hk => hk.2) (.string t776)) (fun _ hk => hk.2) (.int .i64 t777)) (fun _ hk => hk.2) (.int .i64 t778)) (fun _ hk => trivial)⟩, ⟨by refine bx ?_; refine blk_far ?_ NB769_780.out _; refine bx ?_; refine blk_far ?_ NB769_780.out _; refine bx ?_; refine blk_far ?_ NB769_780.out _; refine bx ?_; exact BK769.out⟩, ⟨by refine bx ?_; refine blk_far ?_ NB770_780.out _; refine bx ?_; refine blk_far ?_ NB770_780.out _; refine bx ?_; refine blk_far ?_ NB770_780.out _; refine bx ?_; exact BK770.out⟩, ⟨by refine bx ?_; refine blk_far ?_ NB775_780.out _; refine bx ?_; refine blk_far ?_ NB775_780.out _; refine bx ?_; refine blk_far ?_ NB775_780.out _; refine bx ?_; exact BK775.out⟩, ⟨by refine bx ?_; refine blk_put (cs := #[.string t776, .int .i64 t777, .int .i64 0]) ?_ 2 _ rfl; refine bx ?_; refine blk_put (cs := #[.string t776, .int .i64 0, .int .i64 0]) ?_ 1 _ rfl; refine bx ?_; refine blk_put (cs := #[.string (⟨#[]⟩ : ByteArray), .int .i64 0, .int .i64 0]) ?_ 0 _ rfl; refine bx ?_; exact BK780.out⟩, (hbw HB)⟩
   ·rw [if_neg c27] at H
    have c27b0 : (t774 != t779) = false := by simpa using c27
    (try (have c27b1 : decide (t774 = t779) = true := by simpa using c27))
    (try (have c27b2 : (t774 == t779) = true := by simpa using c27))
    clear c27
    (first | rw [c27b0] | (simp only [i64_w, i32_w]; rw [c27b0]) | skip)
    have H' := Aside0.mk H
    clear H
    have hnb28 := NB775_769.out
    have hnc28 := NB769_775.out
    have hnb29 := NB775_770.out
    have hnc29 := NB770_775.out
    have hnb30 := NB775_780.out
    have hnc30 := NB780_775.out
    have hcz31_0 := b0 BK775
    have hcz31_1 := b1 BK775
    have hcz31_2 := b2 BK775
    have hfz31_0 := fz BK775 0
    have hfz31_1 := fz BK775 1
    have hfz31_2 := fz BK775 2
    have hnb32 := NB780_769.out
    have hnc32 := NB769_780.out
    have hnb33 := NB780_770.out
    have hnc33 := NB770_780.out
    have hcz34_0 := b0 BK780
    have hcz34_1 := b1 BK780
    have hcz34_2 := b2 BK780
    have hfz34_0 := fz BK780 0
    have hfz34_1 := fz BK780 1
    have hfz34_2 := fz BK780 2
    go_wp2
    go_meet
    case rel => exact ⟨_, ((!(t771.toList == t776.toList) || (!(t772 == t777) || (!(t773 == t778))))), (by first | rfl | (simp; done) | (simp [*]; done)), H', ⟨by first | omega | exact Nat.le_refl _⟩, ⟨by refine rx ?_; exact Kd.R_mono (Kd.R_far (p := ⟨gb780, 2, none⟩) (Kd.R_far (p := ⟨gb780, 1, none⟩) (Kd.R_far (p := ⟨gb780, 0, none⟩) (Kd.R_types HO763.out BK780.out (by decide)) (fun _ hk => hk.2) (.string t776)) (fun _ hk => hk.2) (.int .i64 t777)) (fun _ hk => hk.2) (.int .i64 t778)) (fun _ hk => trivial)⟩, ⟨by refine bx ?_; refine blk_far ?_ NB769_780.out _; refine bx ?_; refine blk_far ?_ NB769_780.out _; refine bx ?_; refine blk_far ?_ NB769_780.out _; refine bx ?_; exact BK769.out⟩, ⟨by refine bx ?_; refine blk_far ?_ NB770_780.out _; refine bx ?_; refine blk_far ?_ NB770_780.out _; refine bx ?_; refine blk_far ?_ NB770_780.out _; refine bx ?_; exact BK770.out⟩, ⟨by refine bx ?_; refine blk_far ?_ NB775_780.out _; refine bx ?_; refine blk_far ?_ NB775_780.out _; refine bx ?_; refine blk_far ?_ NB775_780.out _; refine bx ?_; exact BK775.out⟩, ⟨by refine bx ?_; refine blk_put (cs := #[.string t776, .int .i64 t777, .int .i64 0]) ?_ 2 _ rfl; refine bx ?_; refine blk_put (cs := #[.string t776, .int .i64 0, .int .i64 0]) ?_ 1 _ rfl; refine bx ?_; refine blk_put (cs := #[.string (⟨#[]⟩ : ByteArray), .int .i64 0, .int .i64 0]) ?_ 0 _ rfl; refine bx ?_; exact BK780.out⟩, (hbw HB)⟩
  case rest =>
   clear HC6
   try clear c1
   try clear c2
   try clear c2b0
   try clear c2b1
   try clear p2
   try clear c3
   try clear c4
   try clear c5
   try clear c10
   try clear c14
   try clear c16
   try clear c17
   try clear c23
   try clear c24
   try clear c25
   try clear c27
   try clear c27b0
   try clear c27b1
   try clear c27b2
   try clear c28
   try clear c29
   try clear c30
   try clear c32
   try clear c33
   try clear hcz11_0
   try clear hcz11_1
   try clear hcz11_2
   try clear hcz12_0
   try clear hcz12_1
   try clear hcz18_0
   try clear hcz18_1
   try clear hcz18_2
   try clear hcz19_0
   try clear hcz19_1
   try clear hcz19_2
   try clear hcz20_0
   try clear hcz20_1
   try clear hcz26_0
   try clear hcz26_1
   try clear hcz26_2
   try clear hcz31_0
   try clear hcz31_1
   try clear hcz31_2
   try clear hcz34_0
   try clear hcz34_1
   try clear hcz34_2
   try clear hfz11_0
   try clear hfz11_1
   try clear hfz11_2
   try clear hfz12_0
   try clear hfz12_1
   try clear hfz18_0
   try clear hfz18_1
   try clear hfz18_2
   try clear hfz19_0
   try clear hfz19_1
   try clear hfz19_2
   try clear hfz20_0
   try clear hfz20_1
   try clear hfz26_0
   try clear hfz26_1
   try clear hfz26_2
   try clear hfz31_0
   try clear hfz31_1
   try clear hfz31_2
   try clear hfz34_0
   try clear hfz34_1
   try clear hfz34_2
   obtain ⟨kq, x43_5, rfl, HA, HJ5, HO_3, BK769, BK770, BK775, BK780, HB⟩ := hcut
   cases kq with
   | zero => exact absurd HA.out (by simp [laws_FnGo.j0])
   | succ kj5 =>
    have H := HA.out
    clear HA
    simp only [laws_FnGo.j0] at H
    by_cases c35 : x43_5 = true
    ·subst c35
     have H1 : (some false) = some r := by rw [if_pos rfl] at H; exact H
     clear H
     have H := H1
     clear H1
     obtain rfl := Option.some.inj H
     go_wp2
     go_ret
     exact ⟨exq, bw HB.out⟩
    ·replace c35 := Bool.eq_false_iff.mpr c35
     subst c35
     have H1 : (if t774 = true then (laws_FnGo.l0 kj5 t761 0 t764 t765 t766 t767 t768 t771 t772 t773) else (some (t771.toList == t764.toList && (t772 == t765 && (t773 == t766))))) = some r := by rw [if_neg (show ¬ (false = true) by decide)] at H; exact H
     clear H
     have H := H1
     clear H1
     by_cases c36 : t774 = true
     ·subst c36
      have H1 : (laws_FnGo.l0 kj5 t761 0 t764 t765 t766 t767 t768 t771 t772 t773) = some r := by rw [if_pos rfl] at H; exact H
      clear H
      have H := H1
      clear H1
      have H' := Aside0.mk H
      clear H
      go_wp2
      go_loopg [10] kj5 (fun kq v10 w' => ∃ (x10_2 : Int), v10 = .int .i64 x10_2 ∧ Aside0 (laws_FnGo.l0 kq t761 x10_2 t764 t765 t766 t767 t768 t771 t772 t773 = some r) ∧ Aside0 (kq ≤ kj5) ∧ Aside0 (Kd.R k39 39 w' w.heap.size (fun _ => True) (.slice Ao13 t761.length co13) t761) ∧ Aside0 (w'.heap[gb769]? = some (.cells #[.string t764, .int .i64 t765, .int .i64 t766] 31 (0, 0))) ∧ Aside0 (w'.heap[gb770]? = some (.cells #[.int .i64 t767, .bool t768] 43 (0, 0))) ∧ Aside0 (w'.heap[gb775]? = some (.cells #[.string t771, .int .i64 t772, .int .i64 t773] 31 (0, 0))) ∧ Aside0 (w'.heap[gb780]? = some (.cells #[.string t776, .int .i64 t777, .int .i64 t778] 31 (0, 0))) ∧ Aside0 (Below w.heap.size w w'))
      case atStart => exact ⟨(0), (by first | rfl | (simp; done) | (simp [*]; done)), H', ⟨Nat.le_refl _⟩, ⟨by refine rx ?_; exact HO_3.out⟩, (bk BK769), (bk BK770), (bk BK775), (bk BK780), (hbw HB)⟩
      case round =>
       clear H'
       try clear c1
       try clear c2
       try clear c2b0
       try clear c2b1
       try clear p2
       try clear c3
       try clear c4
       try clear c5
       try clear c10
       try clear c14
       try clear c16
       try clear c17
       try clear c23
       try clear c24
       try clear c25
       try clear c27
       try clear c27b0
       try clear c27b1
       try clear c27b2
       try clear c28
       try clear c29
       try clear c30
       try clear c32
       try clear c33
       try clear c35
       try clear c36
       try clear hcz11_0
       try clear hcz11_1
       try clear hcz11_2
       try clear hcz12_0
       try clear hcz12_1
       try clear hcz18_0
       try clear hcz18_1
       try clear hcz18_2
       try clear hcz19_0
       try clear hcz19_1
       try clear hcz19_2
       try clear hcz20_0
       try clear hcz20_1
       try clear hcz26_0
       try clear hcz26_1
       try clear hcz26_2
       try clear hcz31_0
       try clear hcz31_1
       try clear hcz31_2
       try clear hcz34_0
       try clear hcz34_1
       try clear hcz34_2
       try clear hfz11_0
       try clear hfz11_1
       try clear hfz11_2
       try clear hfz12_0
       try clear hfz12_1
       try clear hfz18_0
       try clear hfz18_1
       try clear hfz18_2
       try clear hfz19_0
       try clear hfz19_1
       try clear hfz19_2
       try clear hfz20_0
       try clear hfz20_1
       try clear hfz26_0
       try clear hfz26_1
       try clear hfz26_2
       try clear hfz31_0
       try clear hfz31_1
       try clear hfz31_2
       try clear hfz34_0
       try clear hfz34_1
       try clear hfz34_2
       try clear p2
       obtain ⟨x10_2, rfl, HA, HK2, HO_3, BK769, BK770, BK775, BK780, HB⟩ := hrel
       cases gk with
       | zero => exact absurd HA.out (by simp [laws_FnGo.l0])
       | succ k2 =>
        have H := HA.out
        clear HA
        simp only [laws_FnGo.l0] at H
        by_cases c37 : x10_2 < (t761.length : Int)
        ·rw [if_pos c37] at H
         have c37b0 : decide (x10_2 < (t761.length : Int)) = true := decide_eq_true c37
         clear c37
         by_cases c38 : 0 ≤ x10_2
         ·rw [if_pos c38] at H
          have c38b0 : decide (0 ≤ x10_2) = true := decide_eq_true c38
          clear c38
          by_cases c39 : ((rd_T39 t761 x10_2).f0).toList = t764.toList
          ·rw [if_pos c39] at H
           have c39b0 : (((rd_T39 t761 x10_2).f0).toList == t764.toList) = true := beq_iff_eq.mpr c39
           have c39b1 : (((rd_T39 t761 x10_2).f0).toList != t764.toList) = false := bne_eq_false_iff_eq.mpr c39
           clear c39
           have p781 : 0 ≤ (x10_2 : Int) := oda
           have q781 : x10_2 < (t761.length : Int) := oda
           obtain ⟨ad781, e781, hx781_0, hx781_1, hx781_2, hx781_3, hx781_4, hx781_5, hx781_6, hx781_7⟩ := at_T39 (Kd.R_reads' HO_3.out).2.2 x10_2 p781 q781
           cases e781
           replace p781 := eq_true p781
           replace q781 := eq_true q781
           have H' := Aside0.mk H
           clear H
           go_upto_region 15 with (first | ((with_reducible refine gate_dst (N := 11) rfl ?_); refine box_event ?hg (N := 11) ?hd (cs := #[.string (⟨#[]⟩ : ByteArray), .int .i64 0, .string (⟨#[]⟩ : ByteArray), .string (⟨#[]⟩ : ByteArray), .int .i64 0, .int .i64 0, .string (⟨#[]⟩ : ByteArray), .string (⟨#[]⟩ : ByteArray)]) (t := 39) ?hr ?_; (case hd => rfl); (case hg => rfl); (case hr => first | (go_simp; done) | (go_simp; rfl)); intro gb782 hg w74 hbox hb; have n0_ := Aside0.mk (Kd.R_below (Kd.R_elderB (rx HO_3.out) gb782 (Nat.le_of_eq hg.symm)) hb); have n1_ := up BK769 hb; have n2_ := up BK770 hb; have n3_ := up BK775 hb; have n4_ := up BK780 hb; have n5_ := bs HB hb; have n6_ := Aside0.mk (hbox); have n7_ := gh hg HB; have n8_ := gh hg HB; have n9_ := nlt' hg BK769; have n10_ := ngt' hg BK769; have n11_ := nlt' hg BK770; have n12_ := ngt' hg BK770; have n13_ := nlt' hg BK775; have n14_ := ngt' hg BK775; have n15_ := nlt' hg BK780; have n16_ := ngt' hg BK780; clear HO_3; clear BK769; clear BK770; clear BK775; clear BK780; clear HB; have HO_3 := n0_; have BK769 := n1_; have BK770 := n2_; have BK775 := n3_; have BK780 := n4_; have HB := n5_; have BK782 := n6_; have GW782 := n7_; have GE782 := n8_; have NB769_782 := n9_; have NB782_769 := n10_; have NB770_782 := n11_; have NB782_770 := n12_; have NB775_782 := n13_; have NB782_775 := n14_; have NB780_782 := n15_; have NB782_780 := n16_; clear n0_ n1_ n2_ n3_ n4_ n5_ n6_ n7_ n8_ n9_ n10_ n11_ n12_ n13_ n14_ n15_ n16_; clear hb hbox hg; have hnb75 := NB782_769.out; have hnc75 := NB769_782.out; have hnb76 := NB782_770.out; have hnc76 := NB770_782.out; have hnb77 := NB782_775.out; have hnc77 := NB775_782.out; have hnb78 := NB782_780.out; have hnc78 := NB780_782.out; have hcz79_0 := b0 BK782; have hcz79_1 := b1 BK782; have hcz79_2 := b2 BK782; have hcz79_3 := b3 BK782; have hcz79_4 := b4 BK782; have hcz79_5 := b5 BK782; have hcz79_6 := b6 BK782; have hcz79_7 := b7 BK782; have hfz79_0 := fz BK782 0; have hfz79_1 := fz BK782 1; have hfz79_2 := fz BK782 2; have hfz79_3 := fz BK782 3; have hfz79_4 := fz BK782 4; have hfz79_5 := fz BK782 5; have hfz79_6 := fz BK782 6; have hfz79_7 := fz BK782 7; have hnb80 := NB769_770.out; have hnc80 := NB770_769.out; have hnb81 := NB769_775.out; have hnc81 := NB775_769.out; have hnb82 := NB769_780.out; have hnc82 := NB780_769.out; have hcz83_0 := b0 BK769; have hcz83_1 := b1 BK769; have hcz83_2 := b2 BK769; have hfz83_0 := fz BK769 0; have hfz83_1 := fz BK769 1; have hfz83_2 := fz BK769 2; have hnb84 := NB775_770.out; have hnc84 := NB770_775.out; have hnb85 := NB775_780.out; have hnc85 := NB780_775.out; have hcz86_0 := b0 BK775; have hcz86_1 := b1 BK775; have hcz86_2 := b2 BK775; have hfz86_0 := fz BK775 0; have hfz86_1 := fz BK775 1; have hfz86_2 := fz BK775 2; have hnb87 := NB770_780.out; have hnc87 := NB780_770.out; have hcz88_0 := b0 BK770; have hcz88_1 := b1 BK770; have hfz88_0 := fz BK770 0; have hfz88_1 := fz BK770 1))
           have H := H'.out
           clear H'
           (try simp only [Act.put, List.setIfInBounds_toArray, List.set_cons_zero, List.set_cons_succ])
           by_cases c40 : (wrap64 (t772 - t765)) < 0
           ·rw [if_pos c40] at H
            have c40b0 : decide ((wrap64 (t772 - t765)) < 0) = true := decide_eq_true c40
            clear c40
            obtain rfl := Option.some.inj H
            go_wp2
            go_ret
            exact ⟨exq, bw HB.out⟩
           ·rw [if_neg c40] at H
            have c40b0 : decide ((wrap64 (t772 - t765)) < 0) = false := decide_eq_false c40
            clear c40
            by_cases c54 : (wrap64 (t772 - t765)) > ((rd_T39 t761 x10_2).f5)
            ·rw [if_pos c54] at H
             have c54b0 : decide (((rd_T39 t761 x10_2).f5) < (wrap64 (t772 - t765))) = true := decide_eq_true c54
             clear c54
             obtain rfl := Option.some.inj H
             go_wp2
             go_ret
             exact ⟨exq, bw HB.out⟩
            ·rw [if_neg c54] at H
             have c54b0 : decide (((rd_T39 t761 x10_2).f5) < (wrap64 (t772 - t765))) = false := decide_eq_false c54
             clear c54
             by_cases c68 : t771.toList = ((rd_T39 t761 x10_2).f6).toList
             ·rw [if_pos c68] at H
              have c68b0 : (t771.toList == ((rd_T39 t761 x10_2).f6).toList) = true := beq_iff_eq.mpr c68
              have c68b1 : (t771.toList != ((rd_T39 t761 x10_2).f6).toList) = false := bne_eq_false_iff_eq.mpr c68
              clear c68
              by_cases c69 : t767 > ((rd_T39 t761 x10_2).f5)
              ·rw [if_pos c69] at H
               have c69b0 : decide (((rd_T39 t761 x10_2).f5) < t767) = true := decide_eq_true c69
               clear c69
               by_cases c70 : t771.toList = ((rd_T39 t761 x10_2).f7).toList
               ·rw [if_pos c70] at H
                have c70b0 : (t771.toList == ((rd_T39 t761 x10_2).f7).toList) = true := beq_iff_eq.mpr c70
                have c70b1 : (t771.toList != ((rd_T39 t761 x10_2).f7).toList) = false := bne_eq_false_iff_eq.mpr c70
                clear c70
                by_cases c71 : t768 = true
                ·subst c71
                 have H1 : (if ((rd_T39 t761 x10_2).f1) = 3 then (if (t767 ≤ ((rd_T39 t761 x10_2).f5)) then (some (decide ((wrap64 (t772 - t765)) ≥ ((rd_T39 t761 x10_2).f4)))) else (some true)) else (some true)) = some r := by rw [if_pos rfl] at H; exact H
                 clear H
                 have H := H1
                 clear H1
                 by_cases c72 : ((rd_T39 t761 x10_2).f1) = 3
                 ·rw [if_pos c72] at H
                  have c72b0 : (((rd_T39 t761 x10_2).f1) == 3) = true := beq_iff_eq.mpr c72
                  have c72b1 : (((rd_T39 t761 x10_2).f1) != 3) = false := bne_eq_false_iff_eq.mpr c72
                  clear c72
                  by_cases c73 : (t767 ≤ ((rd_T39 t761 x10_2).f5))
                  ·rw [if_pos c73] at H
                   have c73b0 : decide (t767 ≤ ((rd_T39 t761 x10_2).f5)) = true := decide_eq_true c73
                   clear c73
                   obtain rfl := Option.some.inj H
                   go_wp2
                   go_ret
                   exact ⟨exq, bw HB.out⟩
                  ·rw [if_neg c73] at H
                   have c73b0 : decide (t767 ≤ ((rd_T39 t761 x10_2).f5)) = false := decide_eq_false c73
                   clear c73
                   obtain rfl := Option.some.inj H
                   go_wp2
                   go_ret
                   exact ⟨exq, bw HB.out⟩
                 ·rw [if_neg c72] at H
                  have c72b0 : (((rd_T39 t761 x10_2).f1) == 3) = false := beq_eq_false_iff_ne.mpr c72
                  have c72b1 : (((rd_T39 t761 x10_2).f1) != 3) = true := bne_iff_ne.mpr c72
                  obtain rfl := Option.some.inj H
                  go_wp2
                  go_ret
                  exact ⟨exq, bw HB.out⟩
                ·replace c71 := Bool.eq_false_iff.mpr c71
                 subst c71
                 have H1 : (if ((rd_T39 t761 x10_2).f1) = 3 then (some true) else (some true)) = some r := by rw [if_neg (show ¬ (false = true) by decide)] at H; exact H
                 clear H
                 have H := H1
                 clear H1
                 by_cases c119 : ((rd_T39 t761 x10_2).f1) = 3
                 ·rw [if_pos c119] at H
                  have c119b0 : (((rd_T39 t761 x10_2).f1) == 3) = true := beq_iff_eq.mpr c119
                  have c119b1 : (((rd_T39 t761 x10_2).f1) != 3) = false := bne_eq_false_iff_eq.mpr c119
                  clear c119
                  obtain rfl := Option.some.inj H
                  go_wp2
                  go_ret
                  exact ⟨exq, bw HB.out⟩
                 ·rw [if_neg c119] at H
                  have c119b0 : (((rd_T39 t761 x10_2).f1) == 3) = false := beq_eq_false_iff_ne.mpr c119
                  have c119b1 : (((rd_T39 t761 x10_2).f1) != 3) = true := bne_iff_ne.mpr c119
                  obtain rfl := Option.some.inj H
                  go_wp2
                  go_ret
                  exact ⟨exq, bw HB.out⟩
               ·rw [if_neg c70] at H
                have c70b0 : (t771.toList == ((rd_T39 t761 x10_2).f7).toList) = false := beq_eq_false_iff_ne.mpr c70
                have c70b1 : (t771.toList != ((rd_T39 t761 x10_2).f7).toList) = true := bne_iff_ne.mpr c70
                obtain rfl := Option.some.inj H
                go_wp2
                go_ret
                exact ⟨exq, bw HB.out⟩
              ·rw [if_neg c69] at H
               have c69b0 : decide (((rd_T39 t761 x10_2).f5) < t767) = false := decide_eq_false c69
               clear c69
               by_cases c165 : t768 = true
               ·subst c165
                have H1 : (if ((rd_T39 t761 x10_2).f1) = 3 then (if (t767 ≤ ((rd_T39 t761 x10_2).f5)) then (some (decide ((wrap64 (t772 - t765)) ≥ ((rd_T39 t761 x10_2).f4)))) else (some true)) else (some true)) = some r := by rw [if_pos rfl] at H; exact H
                clear H
                have H := H1
                clear H1
                by_cases c166 : ((rd_T39 t761 x10_2).f1) = 3
                ·rw [if_pos c166] at H
                 have c166b0 : (((rd_T39 t761 x10_2).f1) == 3) = true := beq_iff_eq.mpr c166
                 have c166b1 : (((rd_T39 t761 x10_2).f1) != 3) = false := bne_eq_false_iff_eq.mpr c166
                 clear c166
                 by_cases c167 : (t767 ≤ ((rd_T39 t761 x10_2).f5))
                 ·rw [if_pos c167] at H
                  have c167b0 : decide (t767 ≤ ((rd_T39 t761 x10_2).f5)) = true := decide_eq_true c167
                  clear c167
                  obtain rfl := Option.some.inj H
                  go_wp2
                  go_ret
                  exact ⟨exq, bw HB.out⟩
                 ·rw [if_neg c167] at H
                  have c167b0 : decide (t767 ≤ ((rd_T39 t761 x10_2).f5)) = false := decide_eq_false c167
                  clear c167
                  obtain rfl := Option.some.inj H
                  go_wp2
                  go_ret
                  exact ⟨exq, bw HB.out⟩
                ·rw [if_neg c166] at H
                 have c166b0 : (((rd_T39 t761 x10_2).f1) == 3) = false := beq_eq_false_iff_ne.mpr c166
                 have c166b1 : (((rd_T39 t761 x10_2).f1) != 3) = true := bne_iff_ne.mpr c166
                 obtain rfl := Option.some.inj H
                 go_wp2
                 go_ret
                 exact ⟨exq, bw HB.out⟩
               ·replace c165 := Bool.eq_false_iff.mpr c165
                subst c165
                have H1 : (if t771.toList = ((rd_T39 t761 x10_2).f7).toList then (if ((rd_T39 t761 x10_2).f1) = 3 then (some true) else (some true)) else (some false)) = some r := by rw [if_neg (show ¬ (false = true) by decide)] at H; exact H
                clear H
                have H := H1
                clear H1
                by_cases c213 : t771.toList = ((rd_T39 t761 x10_2).f7).toList
                ·rw [if_pos c213] at H
                 have c213b0 : (t771.toList == ((rd_T39 t761 x10_2).f7).toList) = true := beq_iff_eq.mpr c213
                 have c213b1 : (t771.toList != ((rd_T39 t761 x10_2).f7).toList) = false := bne_eq_false_iff_eq.mpr c213
                 clear c213
                 by_cases c214 : ((rd_T39 t761 x10_2).f1) = 3
                 ·rw [if_pos c214] at H
                  have c214b0 : (((rd_T39 t761 x10_2).f1) == 3) = true := beq_iff_eq.mpr c214
                  have c214b1 : (((rd_T39 t761 x10_2).f1) != 3) = false := bne_eq_false_iff_eq.mpr c214
                  clear c214
                  obtain rfl := Option.some.inj H
                  go_wp2
                  go_ret
                  exact ⟨exq, bw HB.out⟩
                 ·rw [if_neg c214] at H
                  have c214b0 : (((rd_T39 t761 x10_2).f1) == 3) = false := beq_eq_false_iff_ne.mpr c214
                  have c214b1 : (((rd_T39 t761 x10_2).f1) != 3) = true := bne_iff_ne.mpr c214
                  obtain rfl := Option.some.inj H
                  go_wp2
                  go_ret
                  exact ⟨exq, bw HB.out⟩
                ·rw [if_neg c213] at H
                 have c213b0 : (t771.toList == ((rd_T39 t761 x10_2).f7).toList) = false := beq_eq_false_iff_ne.mpr c213
                 have c213b1 : (t771.toList != ((rd_T39 t761 x10_2).f7).toList) = true := bne_iff_ne.mpr c213
                 obtain rfl := Option.some.inj H
                 go_wp2
                 go_ret
                 exact ⟨exq, bw HB.out⟩
             ·rw [if_neg c68] at H
              have c68b0 : (t771.toList == ((rd_T39 t761 x10_2).f6).toList) = false := beq_eq_false_iff_ne.mpr c68
              have c68b1 : (t771.toList != ((rd_T39 t761 x10_2).f6).toList) = true := bne_iff_ne.mpr c68
              by_cases c260 : t771.toList = ((rd_T39 t761 x10_2).f7).toList
              ·rw [if_pos c260] at H
               have c260b0 : (t771.toList == ((rd_T39 t761 x10_2).f7).toList) = true := beq_iff_eq.mpr c260
               have c260b1 : (t771.toList != ((rd_T39 t761 x10_2).f7).toList) = false := bne_eq_false_iff_eq.mpr c260
               clear c260
               by_cases c261 : t767 > ((rd_T39 t761 x10_2).f5)
               ·rw [if_pos c261] at H
                have c261b0 : decide (((rd_T39 t761 x10_2).f5) < t767) = true := decide_eq_true c261
                clear c261
                by_cases c262 : t768 = true
                ·subst c262
                 have H1 : (if ((rd_T39 t761 x10_2).f1) = 3 then (if (t767 ≤ ((rd_T39 t761 x10_2).f5)) then (some false) else (some true)) else (some true)) = some r := by rw [if_pos rfl] at H; exact H
                 clear H
                 have H := H1
                 clear H1
                 by_cases c263 : ((rd_T39 t761 x10_2).f1) = 3
                 ·rw [if_pos c263] at H
                  have c263b0 : (((rd_T39 t761 x10_2).f1) == 3) = true := beq_iff_eq.mpr c263
                  have c263b1 : (((rd_T39 t761 x10_2).f1) != 3) = false := bne_eq_false_iff_eq.mpr c263
                  clear c263
                  by_cases c264 : (t767 ≤ ((rd_T39 t761 x10_2).f5))
                  ·rw [if_pos c264] at H
                   have c264b0 : decide (t767 ≤ ((rd_T39 t761 x10_2).f5)) = true := decide_eq_true c264
                   clear c264
                   obtain rfl := Option.some.inj H
                   go_wp2
                   go_ret
                   exact ⟨exq, bw HB.out⟩
                  ·rw [if_neg c264] at H
                   have c264b0 : decide (t767 ≤ ((rd_T39 t761 x10_2).f5)) = false := decide_eq_false c264
                   clear c264
                   obtain rfl := Option.some.inj H
                   go_wp2
                   go_ret
                   exact ⟨exq, bw HB.out⟩
                 ·rw [if_neg c263] at H
                  have c263b0 : (((rd_T39 t761 x10_2).f1) == 3) = false := beq_eq_false_iff_ne.mpr c263
                  have c263b1 : (((rd_T39 t761 x10_2).f1) != 3) = true := bne_iff_ne.mpr c263
                  obtain rfl := Option.some.inj H
                  go_wp2
                  go_ret
                  exact ⟨exq, bw HB.out⟩
                ·replace c262 := Bool.eq_false_iff.mpr c262
                 subst c262
                 have H1 : (if ((rd_T39 t761 x10_2).f1) = 3 then (some true) else (some true)) = some r := by rw [if_neg (show ¬ (false = true) by decide)] at H; exact H
                 clear H
                 have H := H1
                 clear H1
                 by_cases c310 : ((rd_T39 t761 x10_2).f1) = 3
                 ·rw [if_pos c310] at H
                  have c310b0 : (((rd_T39 t761 x10_2).f1) == 3) = true := beq_iff_eq.mpr c310
                  have c310b1 : (((rd_T39 t761 x10_2).f1) != 3) = false := bne_eq_false_iff_eq.mpr c310
                  clear c310
                  obtain rfl := Option.some.inj H
                  go_wp2
                  go_ret
                  exact ⟨exq, bw HB.out⟩
                 ·rw [if_neg c310] at H
                  have c310b0 : (((rd_T39 t761 x10_2).f1) == 3) = false := beq_eq_false_iff_ne.mpr c310
                  have c310b1 : (((rd_T39 t761 x10_2).f1) != 3) = true := bne_iff_ne.mpr c310
                  obtain rfl := Option.some.inj H
                  go_wp2
                  go_ret
                  exact ⟨exq, bw HB.out⟩
               ·rw [if_neg c261] at H
                have c261b0 : decide (((rd_T39 t761 x10_2).f5) < t767) = false := decide_eq_false c261
                clear c261
                by_cases c341 : t768 = true
                ·subst c341
                 have H1 : (if ((rd_T39 t761 x10_2).f1) = 3 then (if (t767 ≤ ((rd_T39 t761 x10_2).f5)) then (some false) else (some true)) else (some true)) = some r := by rw [if_pos rfl] at H; exact H
                 clear H
                 have H := H1
                 clear H1
                 by_cases c342 : ((rd_T39 t761 x10_2).f1) = 3
                 ·rw [if_pos c342] at H
                  have c342b0 : (((rd_T39 t761 x10_2).f1) == 3) = true := beq_iff_eq.mpr c342
                  have c342b1 : (((rd_T39 t761 x10_2).f1) != 3) = false := bne_eq_false_iff_eq.mpr c342
                  clear c342
                  by_cases c343 : (t767 ≤ ((rd_T39 t761 x10_2).f5))
                  ·rw [if_pos c343] at H
                   have c343b0 : decide (t767 ≤ ((rd_T39 t761 x10_2).f5)) = true := decide_eq_true c343
                   clear c343
                   obtain rfl := Option.some.inj H
                   go_wp2
                   go_ret
                   exact ⟨exq, bw HB.out⟩
                  ·rw [if_neg c343] at H
                   have c343b0 : decide (t767 ≤ ((rd_T39 t761 x10_2).f5)) = false := decide_eq_false c343
                   clear c343
                   obtain rfl := Option.some.inj H
                   go_wp2
                   go_ret
                   exact ⟨exq, bw HB.out⟩
                 ·rw [if_neg c342] at H
                  have c342b0 : (((rd_T39 t761 x10_2).f1) == 3) = false := beq_eq_false_iff_ne.mpr c342
                  have c342b1 : (((rd_T39 t761 x10_2).f1) != 3) = true := bne_iff_ne.mpr c342
                  obtain rfl := Option.some.inj H
                  go_wp2
                  go_ret
                  exact ⟨exq, bw HB.out⟩
                ·replace c341 := Bool.eq_false_iff.mpr c341
                 subst c341
                 have H1 : (if ((rd_T39 t761 x10_2).f1) = 3 then (some true) else (some true)) = some r := by rw [if_neg (show ¬ (false = true) by decide)] at H; exact H
                 clear H
                 have H := H1
                 clear H1
                 by_cases c389 : ((rd_T39 t761 x10_2).f1) = 3
                 ·rw [if_pos c389] at H
                  have c389b0 : (((rd_T39 t761 x10_2).f1) == 3) = true := beq_iff_eq.mpr c389
                  have c389b1 : (((rd_T39 t761 x10_2).f1) != 3) = false := bne_eq_false_iff_eq.mpr c389
                  clear c389
                  obtain rfl := Option.some.inj H
                  go_wp2
                  go_ret
                  exact ⟨exq, bw HB.out⟩
                 ·rw [if_neg c389] at H
                  have c389b0 : (((rd_T39 t761 x10_2).f1) == 3) = false := beq_eq_false_iff_ne.mpr c389
                  have c389b1 : (((rd_T39 t761 x10_2).f1) != 3) = true := bne_iff_ne.mpr c389
                  obtain rfl := Option.some.inj H
                  go_wp2
                  go_ret
                  exact ⟨exq, bw HB.out⟩
              ·rw [if_neg c260] at H
               have c260b0 : (t771.toList == ((rd_T39 t761 x10_2).f7).toList) = false := beq_eq_false_iff_ne.mpr c260
               have c260b1 : (t771.toList != ((rd_T39 t761 x10_2).f7).toList) = true := bne_iff_ne.mpr c260
               obtain rfl := Option.some.inj H
               go_wp2
               go_ret
               exact ⟨exq, bw HB.out⟩
          ·rw [if_neg c39] at H
           have c39b0 : (((rd_T39 t761 x10_2).f0).toList == t764.toList) = false := beq_eq_false_iff_ne.mpr c39
           have c39b1 : (((rd_T39 t761 x10_2).f0).toList != t764.toList) = true := bne_iff_ne.mpr c39
           have H' := Aside0.mk H
           clear H
           have p781 : 0 ≤ (x10_2 : Int) := oda
           have q781 : x10_2 < (t761.length : Int) := oda
           obtain ⟨ad781, e781, hx781_0, hx781_1, hx781_2, hx781_3, hx781_4, hx781_5, hx781_6, hx781_7⟩ := at_T39 (Kd.R_reads' HO_3.out).2.2 x10_2 p781 q781
           cases e781
           replace p781 := eq_true p781
           replace q781 := eq_true q781
           go_wp2_with (first | ((with_reducible refine gate_dst (N := 11) rfl ?_); refine box_event ?hg (N := 11) ?hd (cs := #[.string (⟨#[]⟩ : ByteArray), .int .i64 0, .string (⟨#[]⟩ : ByteArray), .string (⟨#[]⟩ : ByteArray), .int .i64 0, .int .i64 0, .string (⟨#[]⟩ : ByteArray), .string (⟨#[]⟩ : ByteArray)]) (t := 39) ?hr ?_; (case hd => rfl); (case hg => rfl); (case hr => first | (go_simp; done) | (go_simp; rfl)); intro gb782 hg w433 hbox hb; have n0_ := Aside0.mk (Kd.R_below (Kd.R_elderB (rx HO_3.out) gb782 (Nat.le_of_eq hg.symm)) hb); have n1_ := up BK769 hb; have n2_ := up BK770 hb; have n3_ := up BK775 hb; have n4_ := up BK780 hb; have n5_ := bs HB hb; have n6_ := Aside0.mk (hbox); have n7_ := gh hg HB; have n8_ := gh hg HB; have n9_ := nlt' hg BK769; have n10_ := ngt' hg BK769; have n11_ := nlt' hg BK770; have n12_ := ngt' hg BK770; have n13_ := nlt' hg BK775; have n14_ := ngt' hg BK775; have n15_ := nlt' hg BK780; have n16_ := ngt' hg BK780; clear HO_3; clear BK769; clear BK770; clear BK775; clear BK780; clear HB; have HO_3 := n0_; have BK769 := n1_; have BK770 := n2_; have BK775 := n3_; have BK780 := n4_; have HB := n5_; have BK782 := n6_; have GW782 := n7_; have GE782 := n8_; have NB769_782 := n9_; have NB782_769 := n10_; have NB770_782 := n11_; have NB782_770 := n12_; have NB775_782 := n13_; have NB782_775 := n14_; have NB780_782 := n15_; have NB782_780 := n16_; clear n0_ n1_ n2_ n3_ n4_ n5_ n6_ n7_ n8_ n9_ n10_ n11_ n12_ n13_ n14_ n15_ n16_; clear hb hbox hg; have hnb434 := NB782_769.out; have hnc434 := NB769_782.out; have hnb435 := NB782_770.out; have hnc435 := NB770_782.out; have hnb436 := NB782_775.out; have hnc436 := NB775_782.out; have hnb437 := NB782_780.out; have hnc437 := NB780_782.out; have hcz438_0 := b0 BK782; have hcz438_1 := b1 BK782; have hcz438_2 := b2 BK782; have hcz438_3 := b3 BK782; have hcz438_4 := b4 BK782; have hcz438_5 := b5 BK782; have hcz438_6 := b6 BK782; have hcz438_7 := b7 BK782; have hfz438_0 := fz BK782 0; have hfz438_1 := fz BK782 1; have hfz438_2 := fz BK782 2; have hfz438_3 := fz BK782 3; have hfz438_4 := fz BK782 4; have hfz438_5 := fz BK782 5; have hfz438_6 := fz BK782 6; have hfz438_7 := fz BK782 7; have hnb439 := NB769_770.out; have hnc439 := NB770_769.out; have hnb440 := NB769_775.out; have hnc440 := NB775_769.out; have hnb441 := NB769_780.out; have hnc441 := NB780_769.out; have hcz442_0 := b0 BK769; have hcz442_1 := b1 BK769; have hcz442_2 := b2 BK769; have hfz442_0 := fz BK769 0; have hfz442_1 := fz BK769 1; have hfz442_2 := fz BK769 2))
           go_roundg k2
           case measure => have := HJ5.out; have := HK2.out; omega
           case rel => exact ⟨(wrap64 (x10_2 + 1)), (by first | rfl | (simp; done) | (simp [*]; done)), H', ⟨by have := HJ5.out; have := HK2.out; omega⟩, ⟨by refine rx ?_; exact Kd.R_mono (Kd.R_far (p := ⟨gb782, 7, none⟩) (Kd.R_far (p := ⟨gb782, 6, none⟩) (Kd.R_far (p := ⟨gb782, 5, none⟩) (Kd.R_far (p := ⟨gb782, 4, none⟩) (Kd.R_far (p := ⟨gb782, 3, none⟩) (Kd.R_far (p := ⟨gb782, 2, none⟩) (Kd.R_far (p := ⟨gb782, 1, none⟩) (Kd.R_far (p := ⟨gb782, 0, none⟩) (Kd.R_mono HO_3.out (fun k_ hk => (⟨hk, hk.2⟩ : _ ∧ k_ ≠ gb782))) (fun _ hk => hk.2) (.string ((rd_T39 t761 x10_2).f0))) (fun _ hk => hk.2) (.int .i64 ((rd_T39 t761 x10_2).f1))) (fun _ hk => hk.2) (.string ((rd_T39 t761 x10_2).f2))) (fun _ hk => hk.2) (.string ((rd_T39 t761 x10_2).f3))) (fun _ hk => hk.2) (.int .i64 ((rd_T39 t761 x10_2).f4))) (fun _ hk => hk.2) (.int .i64 ((rd_T39 t761 x10_2).f5))) (fun _ hk => hk.2) (.string ((rd_T39 t761 x10_2).f6))) (fun _ hk => hk.2) (.string ((rd_T39 t761 x10_2).f7))) (fun _ hk => trivial)⟩, ⟨by refine bx ?_; refine blk_far ?_ NB769_782.out _; refine bx ?_; refine blk_far ?_ NB769_782.out _; refine bx ?_; refine blk_far ?_ NB769_782.out _; refine bx ?_; refine blk_far ?_ NB769_782.out _; refine bx ?_; refine blk_far ?_ NB769_782.out _; refine bx ?_; refine blk_far ?_ NB769_782.out _; refine bx ?_; refine blk_far ?_ NB769_782.out _; refine bx ?_; refine blk_far ?_ NB769_782.out _; refine bx ?_; exact BK769.out⟩, ⟨by refine bx ?_; refine blk_far ?_ NB770_782.out _; refine bx ?_; refine blk_far ?_ NB770_782.out _; refine bx ?_; refine blk_far ?_ NB770_782.out _; refine bx ?_; refine blk_far ?_ NB770_782.out _; refine bx ?_; refine blk_far ?_ NB770_782.out _; refine bx ?_; refine blk_far ?_ NB770_782.out _; refine bx ?_; refine blk_far ?_ NB770_782.out _; refine bx ?_; refine blk_far ?_ NB770_782.out _; refine bx ?_; exact BK770.out⟩, ⟨by refine bx ?_; refine blk_far ?_ NB775_782.out _; refine bx ?_; refine blk_far ?_ NB775_782.out _; refine bx ?_; refine blk_far ?_ NB775_782.out _; refine bx ?_; refine blk_far ?_ NB775_782.out _; refine bx ?_; refine blk_far ?_ NB775_782.out _; refine bx ?_; refine blk_far ?_ NB775_782.out _; refine bx ?_; refine blk_far ?_ NB775_782.out _; refine bx ?_; refine blk_far ?_ NB775_782.out _; refine bx ?_; exact BK775.out⟩, ⟨by refine bx ?_; refine blk_far ?_ NB780_782.out _; refine bx ?_; refine blk_far ?_ NB780_782.out _; refine bx ?_; refine blk_far ?_ NB780_782.out _; refine bx ?_; refine blk_far ?_ NB780_782.out _; refine bx ?_; refine blk_far ?_ NB780_782.out _; refine bx ?_; refine blk_far ?_ NB780_782.out _; refine bx ?_; refine blk_far ?_ NB780_782.out _; refine bx ?_; refine blk_far ?_ NB780_782.out _; refine bx ?_; exact BK780.out⟩, (hbw HB)⟩
         ·rw [if_neg c38] at H
          exact absurd H (by simp)
        ·rw [if_neg c37] at H
         have c37b0 : decide (x10_2 < (t761.length : Int)) = false := decide_eq_false c37
         clear c37
         obtain rfl := Option.some.inj H
         go_wp2
         go_ret
         exact ⟨exq, bw HB.out⟩
     ·replace c36 := Bool.eq_false_iff.mpr c36
      subst c36
      have H1 : (some (t771.toList == t764.toList && (t772 == t765 && (t773 == t766)))) = some r := by rw [if_neg (show ¬ (false = true) by decide)] at H; exact H
      clear H
      have H := H1
      clear H1
      obtain rfl := Option.some.inj H
      have hnb443 := NB775_769.out
      have hnc443 := NB769_775.out
      have hnb444 := NB775_770.out
      have hnc444 := NB770_775.out
      have hnb445 := NB775_780.out
      have hnc445 := NB780_775.out
      have hcz446_0 := b0 BK775
      have hcz446_1 := b1 BK775
      have hcz446_2 := b2 BK775
      have hfz446_0 := fz BK775 0
      have hfz446_1 := fz BK775 1
      have hfz446_2 := fz BK775 2
      have hnb447 := NB769_770.out
      have hnc447 := NB770_769.out
      have hnb448 := NB769_780.out
      have hnc448 := NB780_769.out
      have hcz449_0 := b0 BK769
      have hcz449_1 := b1 BK769
      have hcz449_2 := b2 BK769
      have hfz449_0 := fz BK769 0
      have hfz449_1 := fz BK769 1
      have hfz449_2 := fz BK769 2
      go_wp2
      go_ret
      exact ⟨exq, bw HB.out⟩

/-- THE ONE PURE STATEMENT of laws_FnGo: yours. -/
def laws_FnGo.Pure : Prop := ∀ (l0 : List Int), l0.length ≤ maxLen → l0.length * 1 ≤ 140737488351232 → (∀ x ∈ l0, (Lit.int .u8 x).wf = true) → ∃ k, laws_FnGo.f k l0 = some true
theorem laws_FnGo.walk (P : laws_FnGo.Pure) (a0 : Option Addr) (len0 cap0 : Nat) (z0 : List Int) (w : World) (w0 : (a0 = none ∧ len0 = 0 ∧ cap0 = 0 ∧ z0 = []) ∨ ∃ x, a0 = some x ∧ len0 ≤ cap0 ∧ cap0 ≤ maxLen ∧ z0.length = cap0 ∧ (∀ i, i < z0.length → w.cell? (x.add i) = some (.int .u8 (z0.getD i 0))) ∧ ∀ n ∈ z0, (Lit.int .u8 n).wf = true) (y0 : len0 * 1 ≤ 140737488351232) :
  Calls Try.prog 14 #[.slice a0 len0 cap0] w fun e w' => e = .returned (.bool true) ∧ Below w.heap.size w w' := by
 obtain ⟨l0, rfl, hr0, hm0, hw0, hc0⟩ := ReadsInt.ofRowC w0
 obtain ⟨k, h⟩ := P l0 hm0 y0 hw0
 refine (laws_FnGo.calls k _ _ l0 true w (Kd.C_of_reads (d := (0 : Int)) (h1 := fun _ => rfl) hr0) hc0 h).mono ?_
 rintro e w' ⟨rfl, hd⟩
 exact ⟨rfl, hd⟩

end Go.Proofs.Ytdkologncoofdaa.P
-- Q7
namespace Go.Proofs.Ytdkologncoofdaa.P
open Go.RowKit Go.Proofs.YtdkologncoofdaaW.PrintWords Go.Proofs.YtdkologncoofdaaW.PrintLast
set_option linter.unusedVariables false
set_option linter.unusedSimpArgs false

theorem xor64 (a b : Int) (h1 : 0 ≤ a) (h2 : a < 4611686018427387904) (h3 : 0 ≤ b) (h4 : b < 4611686018427387904) : 0 ≤ Go.bits .xor .i64 a b ∧ Go.bits .xor .i64 a b < 4611686018427387904 := by
  obtain ⟨A, rfl⟩ := Int.eq_ofNat_of_zero_le h1
  obtain ⟨B, rfl⟩ := Int.eq_ofNat_of_zero_le h3
  have hx : A ^^^ B < 2 ^ 62 := Nat.xor_lt_two_pow (by omega) (by omega)
  have e : Go.bits .xor .i64 (A : Int) (B : Int) = ((A ^^^ B : Nat) : Int) := by
    show IntKind.i64.wrap ((BitVec.ofInt 64 (A : Int) ^^^ BitVec.ofInt 64 (B : Int)).toNat : Int) = _
    rw [i64_w, BitVec.toNat_xor, show (BitVec.ofInt 64 (A : Int)).toNat = A from by simp [BitVec.toNat_ofInt]; omega, show (BitVec.ofInt 64 (B : Int)).toNat = B from by simp [BitVec.toNat_ofInt]; omega]
    exact wrap_id (by omega) (by omega)
  rw [e]
  omega

/-- A reader's bytes. -/
def Bytes (b : List Int) : Prop := b.length ≤ 2000 ∧ ∀ x ∈ b, 0 ≤ x ∧ x ≤ 255
theorem Bytes.rd_ok {b : List Int} (h : Bytes b) (i : Int) : 0 ≤ rd b i ∧ rd b i ≤ 255 := by
  unfold rd
  rw [List.getD_eq_getElem?_getD]
  cases e : b[i.toNat]? with
  | none => simp
  | some x => simpa using h.2 x (List.mem_of_getElem? e)
theorem tmod_pos {x n : Int} (h : 0 ≤ x) (hn : 1 ≤ n) : 0 ≤ Int.tmod x n ∧ Int.tmod x n < n := ⟨Int.tmod_nonneg _ h, Int.tmod_lt_of_pos _ (by omega)⟩

theorem pick_ok {b : List Int} (hb : Bytes b) {p : Int} (h0 : 0 ≤ p) (h1 : p ≤ 1000000000) (n : Int) (k : Nat) (hk : 1 ≤ k) :
    ∃ v, spec_l1Rd_pick.f k b p n = some (v, p + 1) ∧ 0 ≤ v ∧ (1 ≤ n → v < n) := by
  obtain ⟨k, rfl⟩ : ∃ m, k = m + 1 := ⟨k - 1, by omega⟩
  have hl := hb.1
  unfold spec_l1Rd_pick.f
  rw [wrap_id (x := p + 1) (by omega) (by omega)]
  by_cases c : n < 1
  · rw [if_pos c]
    simp only [spec_l1Rd_pick.j0]
    rw [if_pos trivial]
    exact ⟨0, rfl, by omega, fun z => by omega⟩
  · rw [if_neg c]
    simp only [spec_l1Rd_pick.j0]
    by_cases e : (b.length : Int) = 0
    · rw [if_pos (by simpa using e)]
      exact ⟨0, rfl, by omega, fun z => by omega⟩
    · rw [if_neg (by simpa using e), show wrap64 (p + 1 - 1) = p from by rw [wrap_id (by omega) (by omega)]; omega]
      by_cases hp : p < (b.length : Int)
      · rw [if_pos hp, if_pos h0, if_neg (by omega)]
        have hr := hb.rd_ok p
        rw [wrap_id (by omega) (by omega)]
        have := tmod_pos hr.1 (show 1 ≤ n by omega)
        exact ⟨_, rfl, this.1, fun _ => this.2⟩
      · have hL : 1 ≤ (b.length : Int) := by omega
        have m1 := tmod_pos h0 hL
        have w7 : wrap64 (p * 7) = p * 7 := wrap_id (by omega) (by omega)
        have w73 : wrap64 (p * 7 + 3) = p * 7 + 3 := wrap_id (by omega) (by omega)
        have m2 := tmod_pos (show 0 ≤ p * 7 + 3 by omega) hL
        rw [if_neg hp, if_neg e, w7, w73, if_pos m1.1, if_pos m1.2, if_pos m2.1, if_pos m2.2, if_neg (by omega)]
        have r1 := hb.rd_ok (Int.tmod p b.length)
        have r2 := hb.rd_ok (Int.tmod (p * 7 + 3) b.length)
        generalize rd b (Int.tmod p b.length) = x1 at r1 ⊢
        generalize rd b (Int.tmod (p * 7 + 3) b.length) = x2 at r2 ⊢
        have d1 : 0 ≤ Int.tdiv p b.length ∧ Int.tdiv p b.length ≤ p := ⟨Int.tdiv_nonneg h0 (by omega), by rw [Int.tdiv_eq_ediv_of_nonneg h0]; exact Int.ediv_le_self _ h0⟩
        generalize Int.tdiv p b.length = dd at d1 ⊢
        have e1 : wrap64 x1 = x1 := wrap_id (by omega) (by omega)
        have e2 : wrap64 x2 = x2 := wrap_id (by omega) (by omega)
        have e3 : wrap64 dd = dd := wrap_id (by omega) (by omega)
        have e4 : wrap64 (x1 * 131) = x1 * 131 := wrap_id (by omega) (by omega)
        have e5 : wrap64 (x2 * 1117) = x2 * 1117 := wrap_id (by omega) (by omega)
        have e6 : wrap64 (x1 * 131 + x2 * 1117) = x1 * 131 + x2 * 1117 := wrap_id (by omega) (by omega)
        have e7 : wrap64 (p * 29) = p * 29 := wrap_id (by omega) (by omega)
        have e8 : wrap64 (x1 * 131 + x2 * 1117 + p * 29) = x1 * 131 + x2 * 1117 + p * 29 := wrap_id (by omega) (by omega)
        have e9 : wrap64 (dd * 53) = dd * 53 := wrap_id (by omega) (by omega)
        have e10 : wrap64 (x1 * 131 + x2 * 1117 + p * 29 + dd * 53) = x1 * 131 + x2 * 1117 + p * 29 + dd * 53 := wrap_id (by omega) (by omega)
        rw [e1, e2, e3, e4, e5, e6, e7, e8, e9, e10]
        have hy : 0 ≤ x1 * 131 + x2 * 1117 + p * 29 + dd * 53 ∧ x1 * 131 + x2 * 1117 + p * 29 + dd * 53 < 4611686018427387904 := by omega
        generalize x1 * 131 + x2 * 1117 + p * 29 + dd * 53 = y at hy ⊢
        have hq : 0 ≤ Int.tdiv y 64 ∧ Int.tdiv y 64 ≤ y := ⟨Int.tdiv_nonneg hy.1 (by omega), by rw [Int.tdiv_eq_ediv_of_nonneg hy.1]; exact Int.ediv_le_self _ hy.1⟩
        rw [wrap_id (x := Int.tdiv y 64) (by omega) (by omega)]
        have hxor := xor64 y (Int.tdiv y 64) hy.1 hy.2 hq.1 (by omega)
        have := tmod_pos hxor.1 (show 1 ≤ n by omega)
        exact ⟨_, rfl, this.1, fun _ => this.2⟩
theorem of_ok {b : List Int} (hb : Bytes b) {p : Int} (h0 : 0 ≤ p) (h1 : p ≤ 1000000000) (l : List ByteArray) (hl : 1 ≤ l.length) (k : Nat) (hk : 1 ≤ k) :
    ∃ v, spec_l1Rd_of.f k b p l = some (v, p + 1) ∧ v ∈ l := by
  obtain ⟨v, hv, h2, h3⟩ := pick_ok hb h0 h1 (l.length : Int) k hk
  have h3 := h3 (by omega)
  unfold spec_l1Rd_of.f
  rw [hv, Option.bind_some, if_pos h2, if_pos h3]
  refine ⟨_, rfl, ?_⟩
  simp only [rdOf]
  rw [List.getD_eq_getElem?_getD, List.getElem?_eq_getElem (show v.toNat < l.length by omega)]
  exact List.getElem_mem _
theorem slot_ok {b : List Int} (hb : Bytes b) {p : Int} (h0 : 0 ≤ p) (h1 : p ≤ 1000000000) (k : Nat) (hk : 1 ≤ k) : ∃ v, spec_l5Slot.f k b p = some (v, p + 1) := by
  unfold spec_l5Slot.f
  obtain ⟨v, hv, _⟩ := of_ok hb h0 h1 ([(⟨#[115, 49]⟩ : ByteArray), (⟨#[115, 49]⟩ : ByteArray), (⟨#[115, 50]⟩ : ByteArray), (⟨#[115, 51]⟩ : ByteArray), (⟨#[107, 101, 103]⟩ : ByteArray)]) (by simp) k hk
  exact ⟨v, by rw [hv]; rfl⟩
/-- The eight cells of a phase beside where the reader then is. -/
def tup (x : S39) (p : Int) : ByteArray × Int × ByteArray × ByteArray × Int × Int × ByteArray × ByteArray × Int := (x.f0, x.f1, x.f2, x.f3, x.f4, x.f5, x.f6, x.f7, p)
theorem ph_j0 {b : List Int} (hb : Bytes b) {p : Int} (h0 : 0 ≤ p) (h1 : p ≤ 900000000) (l : List ByteArray) (hl : l.length ≤ 1000) (n : ByteArray) (kd : Int) (A B : ByteArray) (N W : Int) (T E : ByteArray) (k : Nat) (hk : 2 ≤ k) :
    ∃ (x : S39) (q : Int), spec_l5Phase.j0 k l b p n kd A B N W T E = some (tup x q) ∧ p ≤ q ∧ q ≤ p + 3 := by
  obtain ⟨k, rfl⟩ : ∃ m, k = m + 1 := ⟨k - 1, by omega⟩
  simp only [spec_l5Phase.j0, Option.bind_some]
  rw [if_pos (by simp; omega)]
  generalize hy : ([(⟨#[103, 111, 111, 100]⟩ : ByteArray), (⟨#[115, 97, 118, 101, 100]⟩ : ByteArray), (⟨#[115, 99, 114, 97, 112, 112, 101, 100]⟩ : ByteArray)] ++ l) = y
  have hyl : 1 ≤ y.length := by rw [← hy]; simp
  obtain ⟨v1, e1, _⟩ := of_ok hb h0 (show p ≤ 1000000000 by omega) y hyl k (by omega)
  obtain ⟨v2, e2, _⟩ := of_ok hb (show 0 ≤ p + 1 by omega) (by omega) y hyl k (by omega)
  rw [e1]
  simp only [Option.bind_some]
  rw [e2]
  simp only [Option.bind_some]
  by_cases c : (l.length : Int) > 0
  · rw [if_pos c]
    obtain ⟨v3, e3, _, _⟩ := pick_ok hb (show 0 ≤ p + 1 + 1 by omega) (by omega) 4 k (by omega)
    rw [e3]
    simp only [Option.bind_some]
    by_cases c2 : v3 > 0
    · rw [if_pos c2, if_pos c]
      exact ⟨⟨n, kd, A, B, N, W, _, v2⟩, _, rfl, by omega, by omega⟩
    · rw [if_neg c2]
      exact ⟨⟨n, kd, A, B, N, W, v1, v2⟩, _, rfl, by omega, by omega⟩
  · rw [if_neg c]
    exact ⟨⟨n, kd, A, B, N, W, v1, v2⟩, _, rfl, by omega, by omega⟩
theorem drawn_phase {b : List Int} (hb : Bytes b) {p : Int} (h0 : 0 ≤ p) (h1 : p ≤ 800000000) (n : ByteArray) (l : List ByteArray) (hl : l.length ≤ 1000) (k : Nat) (hk : 2 ≤ k) :
    ∃ (x : S39) (q : Int), spec_l5Phase.f k b p n l = some (tup x q) ∧ p ≤ q ∧ q ≤ p + 20 := by
  unfold spec_l5Phase.f
  obtain ⟨v1, e1, r1, s1⟩ := pick_ok hb h0 (show p ≤ 1000000000 by omega) 5 k (by omega)
  obtain ⟨v2, e2⟩ := slot_ok hb (show 0 ≤ p + 1 by omega) (by omega) k (by omega)
  obtain ⟨v3, e3, r3, s3⟩ := pick_ok hb (show 0 ≤ p + 1 + 1 by omega) (by omega) 20 k (by omega)
  rw [e1]; simp only [Option.bind_some]
  rw [e2]; simp only [Option.bind_some]
  rw [e3]; simp only [Option.bind_some]
  have hj := fun (q : Int) (hq : p ≤ q) (hq2 : q ≤ p + 17) n kd A B N W T E => ph_j0 hb (show 0 ≤ q by omega) (show q ≤ 900000000 by omega) l hl n kd A B N W T E k hk
  split
  · obtain ⟨v4, e4, _⟩ := of_ok hb (show 0 ≤ p + 1 + 1 + 1 by omega) (by omega) [(⟨#[97, 108, 101]⟩ : ByteArray), (⟨#[109, 97, 108, 116]⟩ : ByteArray)] (by simp) k (by omega)
    obtain ⟨v5, e5, _, _⟩ := pick_ok hb (show 0 ≤ p + 1 + 1 + 1 + 1 by omega) (by omega) 30 k (by omega)
    rw [e4]; simp only [Option.bind_some]
    rw [e5]; simp only [Option.bind_some]
    obtain ⟨x, q, hx, ha, hz⟩ := hj (p + 1 + 1 + 1 + 1 + 1) (by omega) (by omega) n (wrap64 (1 + v1)) v2 v4 (wrap64 (1 + v5)) (wrap64 (1 + v3)) ⟨#[]⟩ ⟨#[]⟩
    exact ⟨x, q, hx, by omega, by omega⟩
  · split
    · obtain ⟨v4, e4⟩ := slot_ok hb (show 0 ≤ p + 1 + 1 + 1 by omega) (by omega) k (by omega)
      obtain ⟨v5, e5, _, _⟩ := pick_ok hb (show 0 ≤ p + 1 + 1 + 1 + 1 by omega) (by omega) 30 k (by omega)
      rw [e4]; simp only [Option.bind_some]
      rw [e5]; simp only [Option.bind_some]
      split
      · obtain ⟨x, q, hx, ha, hz⟩ := hj (p + 1 + 1 + 1 + 1 + 1) (by omega) (by omega) n (wrap64 (1 + v1)) v2 ⟨#[118, 97, 116]⟩ (wrap64 (1 + v5)) (wrap64 (1 + v3)) ⟨#[]⟩ ⟨#[]⟩
        exact ⟨x, q, hx, by omega, by omega⟩
      · obtain ⟨x, q, hx, ha, hz⟩ := hj (p + 1 + 1 + 1 + 1 + 1) (by omega) (by omega) n (wrap64 (1 + v1)) v2 v4 (wrap64 (1 + v5)) (wrap64 (1 + v3)) ⟨#[]⟩ ⟨#[]⟩
        exact ⟨x, q, hx, by omega, by omega⟩
    · split
      · obtain ⟨v5, e5, _, _⟩ := pick_ok hb (show 0 ≤ p + 1 + 1 + 1 by omega) (by omega) (wrap64 (1 + v3)) k (by omega)
        rw [e5]; simp only [Option.bind_some]
        obtain ⟨x, q, hx, ha, hz⟩ := hj (p + 1 + 1 + 1 + 1) (by omega) (by omega) n (wrap64 (1 + v1)) v2 ⟨#[]⟩ (wrap64 (1 + v5)) (wrap64 (1 + v3)) ⟨#[]⟩ ⟨#[]⟩
        exact ⟨x, q, hx, by omega, by omega⟩
      · obtain ⟨x, q, hx, ha, hz⟩ := hj (p + 1 + 1 + 1) (by omega) (by omega) n (wrap64 (1 + v1)) v2 ⟨#[]⟩ 0 (wrap64 (1 + v3)) ⟨#[]⟩ ⟨#[]⟩
        exact ⟨x, q, hx, by omega, by omega⟩
theorem open_ok (l : List Int) (hb : ∀ x ∈ l, 0 ≤ x ∧ x ≤ 255) : ∃ b, spec_l1Open.f l = some (b, 0) ∧ Bytes b := by
  unfold spec_l1Open.f
  by_cases h : (l.length : Int) > 2000
  · rw [if_pos h, if_pos (by omega)]
    exact ⟨_, rfl, by rw [List.length_take]; omega, fun x hx => hb x (List.mem_of_mem_take hx)⟩
  · rw [if_neg h]
    exact ⟨_, rfl, by omega, hb⟩

end Go.Proofs.Ytdkologncoofdaa.P
-- Q8
namespace Go.Proofs.Ytdkologncoofdaa.P
open Go.RowKit Go.Proofs.YtdkologncoofdaaW.PrintWords Go.Proofs.YtdkologncoofdaaW.PrintLast
set_option linter.unusedVariables false
set_option linter.unusedSimpArgs false

theorem spoilt_phase {b : List Int} (hb : Bytes b) {p : Int} (h0 : 0 ≤ p) (h1 : p ≤ 800000000) (x : S39) (k : Nat) (hk : 2 ≤ k) :
    ∃ (y : S39) (q : Int), spec_l5SpoilPhase.f k b p x.f0 x.f1 x.f2 x.f3 x.f4 x.f5 x.f6 x.f7 = some (tup y q) ∧ p ≤ q ∧ q ≤ p + 5 := by
  unfold spec_l5SpoilPhase.f
  obtain ⟨v1, e1, r1, s1⟩ := pick_ok hb h0 (show p ≤ 1000000000 by omega) 8 k (by omega)
  rw [e1]; simp only [Option.bind_some]
  have ho := fun (l : List ByteArray) (hl : 1 ≤ l.length) => of_ok hb (show 0 ≤ p + 1 by omega) (by omega) l hl k (by omega)
  have hp := fun (n : Int) => pick_ok hb (show 0 ≤ p + 1 by omega) (by omega) n k (by omega)
  split
  · obtain ⟨v, e, _⟩ := ho ([(⟨#[]⟩ : ByteArray), (⟨#[65]⟩ : ByteArray), (⟨#[103, 111, 111, 100]⟩ : ByteArray), (⟨#[102, 49]⟩ : ByteArray), (⟨#[110, 105, 110, 101, 45, 98, 121, 116, 101, 115]⟩ : ByteArray)]) (by simp)
    rw [e]
    exact ⟨⟨v, x.f1, x.f2, x.f3, x.f4, x.f5, x.f6, x.f7⟩, _, rfl, by omega, by omega⟩
  · split
    · obtain ⟨v, e, _⟩ := hp 8
      rw [e]
      exact ⟨⟨x.f0, wrap64 (v - 1), x.f2, x.f3, x.f4, x.f5, x.f6, x.f7⟩, _, rfl, by omega, by omega⟩
    · split
      · obtain ⟨v, e, _⟩ := ho ([(⟨#[]⟩ : ByteArray), (⟨#[65]⟩ : ByteArray), x.f3, (⟨#[103, 111, 111, 100]⟩ : ByteArray)]) (by simp)
        rw [e]
        exact ⟨⟨x.f0, x.f1, v, x.f3, x.f4, x.f5, x.f6, x.f7⟩, _, rfl, by omega, by omega⟩
      · split
        · obtain ⟨v, e, _⟩ := ho ([(⟨#[]⟩ : ByteArray), (⟨#[65]⟩ : ByteArray), x.f2, (⟨#[103, 111, 111, 100]⟩ : ByteArray)]) (by simp)
          rw [e]
          exact ⟨⟨x.f0, x.f1, x.f2, v, x.f4, x.f5, x.f6, x.f7⟩, _, rfl, by omega, by omega⟩
        · split
          · obtain ⟨v, e, r, s⟩ := hp 7
            rw [e]; simp only [Option.bind_some]
            rw [if_pos r, if_pos (by simpa using s (by omega))]
            exact ⟨⟨x.f0, x.f1, x.f2, x.f3, rd [-1, 0, 1, x.f5, wrap64 (x.f5 + 1), 1000, 1001] v, x.f5, x.f6, x.f7⟩, p + 1 + 1, rfl, by omega, by omega⟩
          · split
            · obtain ⟨v, e, r, s⟩ := hp 5
              rw [e]; simp only [Option.bind_some]
              rw [if_pos r, if_pos (by simpa using s (by omega))]
              exact ⟨⟨x.f0, x.f1, x.f2, x.f3, x.f4, rd [-1, 0, 1, 1000, 1001] v, x.f6, x.f7⟩, p + 1 + 1, rfl, by omega, by omega⟩
            · split
              · obtain ⟨v, e, _⟩ := ho ([(⟨#[]⟩ : ByteArray), (⟨#[98, 114, 101, 119]⟩ : ByteArray), (⟨#[102, 49]⟩ : ByteArray), (⟨#[114, 101, 115, 116]⟩ : ByteArray), (⟨#[110, 111, 110, 101]⟩ : ByteArray)]) (by simp)
                rw [e]
                exact ⟨⟨x.f0, x.f1, x.f2, x.f3, x.f4, x.f5, v, x.f7⟩, _, rfl, by omega, by omega⟩
              · obtain ⟨v, e, _⟩ := ho ([(⟨#[]⟩ : ByteArray), (⟨#[98, 114, 101, 119]⟩ : ByteArray), (⟨#[102, 49]⟩ : ByteArray), (⟨#[114, 101, 115, 116]⟩ : ByteArray), (⟨#[110, 111, 110, 101]⟩ : ByteArray)]) (by simp)
                rw [e]
                exact ⟨⟨x.f0, x.f1, x.f2, x.f3, x.f4, x.f5, x.f6, v⟩, _, rfl, by omega, by omega⟩

end Go.Proofs.Ytdkologncoofdaa.P
-- Px54
namespace Go.Proofs.Ytdkologncoofdaa.P
open Go.RowKit Go.Proofs.YtdkologncoofdaaW.PrintWords Go.Proofs.YtdkologncoofdaaW.PrintLast Go.Proofs.YtdkologncoofdaaW.PrintMore
attribute [local go_sem] max2_int min2_int max_two min_two max_three min_three max_four min_four   -- for this text's walks alone
set_option linter.unusedVariables false
set_option linter.unusedSimpArgs false

/-! ### spec_l5From: function 87 -/
def spec_l5From.j0 : Nat → List (S39) → Bool → List Int → Int → Option (ByteArray × Int)
 | 0, _, _, _, _ => none
 | k + 1, x1, x12, x1000, x1001 => if x12 = true then ((spec_l1Rd_pick.f k x1000 x1001 (x1.length : Int)).bind fun bt578 => (if 0 ≤ bt578.1 then (if bt578.1 < (x1.length : Int) then (some ((rd_T39 x1 bt578.1).f0, bt578.2)) else (none)) else (none))) else ((spec_l1Rd_of.f k x1000 x1001 (([(⟨#[103, 111, 111, 100]⟩ : ByteArray), (⟨#[115, 99, 114, 97, 112, 112, 101, 100]⟩ : ByteArray), (⟨#[110, 111, 110, 101]⟩ : ByteArray), (⟨#[]⟩ : ByteArray)] : List ByteArray))).bind fun bt584 => (some (bt584.1, bt584.2)))
def spec_l5From.f (k : Nat) (s0_0 : List Int) (s0_1 : Int) (l1 : List (S39)) : Option (ByteArray × Int) := if (l1.length : Int) > 0 then ((spec_l1Rd_pick.f k s0_0 s0_1 8).bind fun bt576 => (spec_l5From.j0 k l1 (decide (bt576.1 > 0)) s0_0 bt576.2)) else (spec_l5From.j0 k l1 false s0_0 s0_1)
theorem spec_l5From.mono_l : ∀ k, (∀ y0 y1 y2 y3, LeO (spec_l5From.j0 k y0 y1 y2 y3) (spec_l5From.j0 (k + 1) y0 y1 y2 y3))
 | 0 => fun _ _ _ _ r h => by simp [spec_l5From.j0] at h
 | k + 1 => by
  have ih0 := spec_l5From.mono_l k
  ·intro y0 y1 y2 y3
   unfold spec_l5From.j0
   repeat' first
   | (with_reducible exact ih0 _ _ _ _)
   | (with_reducible exact spec_l1Rd_of.mono _ _ _ _)
   | (with_reducible exact spec_l1Rd_pick.mono _ _ _ _)
   | (with_reducible exact LeO.refl _)
   | (with_reducible exact LeO.none _)
   | (with_reducible refine LeO.ite ?_ ?_)
   | (with_reducible refine LeO.bind ?_ (fun _ => ?_))
   | exact ih0 _ _ _ _
   | exact spec_l1Rd_of.mono _ _ _ _
   | exact spec_l1Rd_pick.mono _ _ _ _
   | exact LeO.none _
   | refine LeO.ite ?_ ?_
   | refine LeO.bind ?_ (fun _ => ?_)
theorem spec_l5From.mono : ∀ a0 a1 a2 k, LeO (spec_l5From.f k a0 a1 a2) (spec_l5From.f (k + 1) a0 a1 a2) := by
 intro a0 a1 a2 k
 have ih0 := spec_l5From.mono_l k
 unfold spec_l5From.f
 repeat' first
   | (with_reducible exact ih0 _ _ _ _)
   | (with_reducible exact spec_l1Rd_of.mono _ _ _ _)
   | (with_reducible exact spec_l1Rd_pick.mono _ _ _ _)
   | (with_reducible exact LeO.refl _)
   | (with_reducible exact LeO.none _)
   | (with_reducible refine LeO.ite ?_ ?_)
   | (with_reducible refine LeO.bind ?_ (fun _ => ?_))
   | exact ih0 _ _ _ _
   | exact spec_l1Rd_of.mono _ _ _ _
   | exact spec_l1Rd_pick.mono _ _ _ _
   | exact LeO.none _
   | refine LeO.ite ?_ ?_
   | refine LeO.bind ?_ (fun _ => ?_)
set_option maxHeartbeats 8000000 in
set_option maxRecDepth 100000 in
theorem spec_l5From.calls (k : Nat) (g : Nat) (s0_0 : List Int) (s0_1 : Int) (A1 : Option Addr) (c1 : Nat) (l1 : List (S39)) (r1 : ByteArray) (r2 : Int) (w0 w : World) (hI : IsS107 w0 w g s0_0 s0_1) (hB : Below w0.heap.size w0 w) (hr1 : ∀ W_, KeepBut w W_ g none → Kd.C k39 W_ A1 l1.length l1) (hc1 : l1.length ≤ c1) (h : spec_l5From.f k s0_0 s0_1 l1 = some (r1, r2)) :
  Calls Try.prog 87 #[.pointer (some ⟨g, 0, none⟩), .slice A1 l1.length c1] w fun e w' => e = .returned (.string r1) ∧ IsS107 w0 w' g s0_0 r2 ∧ Below w0.heap.size w0 w' ∧ KeepBut w w' g none := by
 have HR1 := Aside0.mk hr1
 have HC1 := Aside0.mk hc1
 clear hr1 hc1
 have HI0 := Aside0.mk hI
 have HK := Aside0.mk (KeepBut.refl w g none)
 have HL := Aside0.mk hB.size
 clear hI
 have HW0 := Aside0.mk hB.size
 have HB := Aside0.mk hB
 clear hB
 have H : (if (l1.length : Int) > 0 then ((spec_l1Rd_pick.f k s0_0 s0_1 8).bind fun bt576 => (spec_l5From.j0 k l1 (decide (bt576.1 > 0)) s0_0 bt576.2)) else (spec_l5From.j0 k l1 false s0_0 s0_1)) = some (r1, r2) := h
 clear h
 have HC3 := Aside0.mk H
 clear H
 go_enter Try.func87, Try.ntmps87
 go_upto_region 1 with (fail)
 go_cut [12] (fun v12 wc => ∃ (kq : Nat) (x12_2 : Bool) (x1001_2 : Int), v12 = .bool x12_2 ∧ Aside0 (spec_l5From.j0 kq l1 x12_2 s0_0 x1001_2 = some (r1, r2)) ∧ Aside0 (kq ≤ k) ∧ Aside0 (IsS107 w0 wc g s0_0 x1001_2) ∧ Aside0 (KeepBut w wc g none) ∧ Aside0 (Below w0.heap.size w0 wc))
 case first =>
  have H := HC3.out
  clear HC3
  by_cases c4 : (l1.length : Int) > 0
  ·rw [if_pos c4] at H
   have c4b0 : decide (0 < (l1.length : Int)) = true := decide_eq_true c4
   have c4b1 : decide (0 < l1.length) = true := decide_eq_true (by omega)
   clear c4
   (first | rw [c4b0] | (simp only [i64_w, i32_w]; rw [c4b0]) | skip)
   replace H := Option.bind_eq_some_iff.mp H
   obtain ⟨⟨t576, t577⟩, A50, H⟩ := H
   replace H : (spec_l5From.j0 k l1 (decide (t576 > 0)) s0_0 t577) = some (r1, r2) := H
   have A5 := Aside0.mk A50
   clear A50
   have H' := Aside0.mk H
   clear H
   go_wp2_with (first | (go_at_call 64; (with_reducible refine (spec_l1Rd_pick.calls k g s0_0 s0_1 8 t576 t577 w0 _ ?side1 ?side2 A5.out).mono ?_); (case side1 => exact ib HI0.out); (case side2 => exact bi HB.out); rintro e w6 ⟨rfl, hi, hb, hk⟩; have n0_ := kt HK hk; have n1_ := Aside0.mk (hb); have n2_ := Aside0.mk (hi); clear HK; clear HB; clear HI0; have HK := n0_; have HB := n1_; have HI0 := n2_; clear n0_ n1_ n2_; (try clear hb); (try clear hb2); (try clear hk); (try clear hi)))
   go_meet
   case rel => exact ⟨_, (decide (t576 > 0)), (t577), (by first | rfl | (simp; done) | (simp [*]; done)), H', ⟨by first | omega | exact Nat.le_refl _⟩, ⟨ib HI0.out⟩, ⟨kb HK.out⟩, (hbi HB)⟩
  ·rw [if_neg c4] at H
   have c4b0 : decide (0 < (l1.length : Int)) = false := decide_eq_false c4
   have c4b1 : decide (0 < l1.length) = false := decide_eq_false (by omega)
   clear c4
   (first | rw [c4b0] | (simp only [i64_w, i32_w]; rw [c4b0]) | skip)
   have H' := Aside0.mk H
   clear H
   go_wp2
   go_meet
   case rel => exact ⟨_, (false), (s0_1), (by first | rfl | (simp; done) | (simp [*]; done)), H', ⟨by first | omega | exact Nat.le_refl _⟩, ⟨ib HI0.out⟩, ⟨kb HK.out⟩, (hbi HB)⟩
 case rest =>
  clear HC3
  try clear c1
  try clear p2
  try clear c4
  try clear c4b0
  try clear c4b1
  obtain ⟨kq, x12_2, x1001_2, rfl, HA, HJ2, HI0, HK, HB⟩ := hcut
  cases kq with
  | zero => exact absurd HA.out (by simp [spec_l5From.j0])
  | succ kj2 =>
   have H := HA.out
   clear HA
   simp only [spec_l5From.j0] at H
   by_cases c7 : x12_2 = true
   ·subst c7
    have H1 : ((spec_l1Rd_pick.f kj2 s0_0 x1001_2 (l1.length : Int)).bind fun bt578 => (if 0 ≤ bt578.1 then (if bt578.1 < (l1.length : Int) then (some ((rd_T39 l1 bt578.1).f0, bt578.2)) else (none)) else (none))) = some (r1, r2) := by rw [if_pos rfl] at H; exact H
    clear H
    have H := H1
    clear H1
    replace H := Option.bind_eq_some_iff.mp H
    obtain ⟨⟨t578, t579⟩, A80, H⟩ := H
    replace H : (if 0 ≤ t578 then (if t578 < (l1.length : Int) then (some ((rd_T39 l1 t578).f0, t579)) else (none)) else (none)) = some (r1, r2) := H
    have A8 := Aside0.mk A80
    clear A80
    by_cases c9 : 0 ≤ t578
    ·rw [if_pos c9] at H
     have c9b0 : decide (0 ≤ t578) = true := decide_eq_true c9
     clear c9
     by_cases c10 : t578 < (l1.length : Int)
     ·rw [if_pos c10] at H
      have c10b0 : decide (t578 < (l1.length : Int)) = true := decide_eq_true c10
      clear c10
      simp only [Option.some.injEq, Prod.mk.injEq] at H
      obtain ⟨rfl, rfl⟩ := H
      go_wp2_with (first | ((with_reducible refine gate_callee (f := 64) rfl ?_); refine goesL_ (some 17) rfl rfl Try.func64 (by kernel_rfl) rfl #[.pointer (some ⟨g, 0, none⟩), .int .i64 (l1.length : Int)] rfl mxp ?_; (with_reducible refine (spec_l1Rd_pick.calls kj2 g s0_0 x1001_2 (l1.length : Int) t578 t579 w0 _ ?side1 ?side2 A8.out).mono ?_); (case side1 => exact ib HI0.out); (case side2 => exact bi HB.out); rintro e w11 ⟨rfl, hi, hb, hk⟩; refine ⟨_, rfl, ?_⟩; have n0_ := kt HK hk; have n1_ := Aside0.mk (hb); have n2_ := Aside0.mk (hi); clear HK; clear HB; clear HI0; have HK := n0_; have HB := n1_; have HI0 := n2_; clear n0_ n1_ n2_; (try clear hb); (try clear hb2); (try clear hk); (try clear hi); have p580 : 0 ≤ (t578 : Int) := oda; have q580 : t578 < (l1.length : Int) := oda; obtain ⟨ad580, e580, hx580_0, hx580_1, hx580_2, hx580_3, hx580_4, hx580_5, hx580_6, hx580_7⟩ := at_T39 (Kd.C_foot_now HR1.out HK.out) t578 p580 q580; cases e580; replace p580 := eq_true p580; replace q580 := eq_true q580))
      go_ret
      exact ⟨exq, ib HI0.out, bi HB.out, kb HK.out⟩
     ·rw [if_neg c10] at H
      exact absurd H (by simp)
    ·rw [if_neg c9] at H
     exact absurd H (by simp)
   ·replace c7 := Bool.eq_false_iff.mpr c7
    subst c7
    have H1 : ((spec_l1Rd_of.f kj2 s0_0 x1001_2 (([(⟨#[103, 111, 111, 100]⟩ : ByteArray), (⟨#[115, 99, 114, 97, 112, 112, 101, 100]⟩ : ByteArray), (⟨#[110, 111, 110, 101]⟩ : ByteArray), (⟨#[]⟩ : ByteArray)] : List ByteArray))).bind fun bt584 => (some (bt584.1, bt584.2))) = some (r1, r2) := by rw [if_neg (show ¬ (false = true) by decide)] at H; exact H
    clear H
    have H := H1
    clear H1
    obtain ⟨y581, hy581⟩ : ∃ y_ : List ByteArray, y_ = (([(⟨#[103, 111, 111, 100]⟩ : ByteArray), (⟨#[115, 99, 114, 97, 112, 112, 101, 100]⟩ : ByteArray), (⟨#[110, 111, 110, 101]⟩ : ByteArray), (⟨#[]⟩ : ByteArray)] : List ByteArray)) := ⟨_, rfl⟩
    replace H : ((spec_l1Rd_of.f kj2 s0_0 x1001_2 y581).bind fun bt584 => (some (bt584.1, bt584.2))) = some (r1, r2) := by first | (rw [hy581]; with_reducible exact H) | (have H2_ := (Option.bind_some _ _).symm.trans H; rw [hy581]; with_reducible exact H2_) | (have H2_ := (Option.bind_some _ _).symm.trans H; with_reducible exact H2_) | with_reducible exact H | (rw [hy581]; exact H) | exact H
    have Ny581 := Aside0.mk hy581
    clear hy581
    replace H := Option.bind_eq_some_iff.mp H
    obtain ⟨⟨t584, t585⟩, A120, H⟩ := H
    replace H : (some (t584, t585)) = some (r1, r2) := H
    have A12 := Aside0.mk A120
    clear A120
    simp only [Option.some.injEq, Prod.mk.injEq] at H
    obtain ⟨rfl, rfl⟩ := H
    go_wp2_with (first | ((with_reducible refine gate_dst (N := 22) rfl ?_); refine Kd.R_lit Kd.string _ 9 ?hg (N := 22) ?hd (xs := ([(⟨#[103, 111, 111, 100]⟩ : ByteArray), (⟨#[115, 99, 114, 97, 112, 112, 101, 100]⟩ : ByteArray), (⟨#[110, 111, 110, 101]⟩ : ByteArray), (⟨#[]⟩ : ByteArray)] : List ByteArray)) (inner := [.string (⟨#[103, 111, 111, 100]⟩ : ByteArray), .string (⟨#[115, 99, 114, 97, 112, 112, 101, 100]⟩ : ByteArray), .string (⟨#[110, 111, 110, 101]⟩ : ByteArray), .string (⟨#[]⟩ : ByteArray)]) (ok := fun _ => True) (okp := fun _ => True) ?hr ?hp (fun _ hk => hk) trivial (Below.refl _ _) (Nat.le_refl _) (by simp) ?_; (case hd => rfl); (case hg => rfl); (case hr => first | (go_simp; done) | (go_simp; rfl)); (case hp => exact (Reps.one (show Kd.M Kd.string _ _ _ (⟨#[103, 111, 111, 100]⟩ : ByteArray) [.string (⟨#[103, 111, 111, 100]⟩ : ByteArray)] from rfl) (Reps.one (show Kd.M Kd.string _ _ _ (⟨#[115, 99, 114, 97, 112, 112, 101, 100]⟩ : ByteArray) [.string (⟨#[115, 99, 114, 97, 112, 112, 101, 100]⟩ : ByteArray)] from rfl) (Reps.one (show Kd.M Kd.string _ _ _ (⟨#[110, 111, 110, 101]⟩ : ByteArray) [.string (⟨#[110, 111, 110, 101]⟩ : ByteArray)] from rfl) (Reps.one (show Kd.M Kd.string _ _ _ (⟨#[]⟩ : ByteArray) [.string (⟨#[]⟩ : ByteArray)] from rfl) (Reps.none _ _)))))); intro v582 w13 ho14 hb hg_ hnew_; clear hg_ hnew_; (first | rw [← Ny581.out] at ho14 | (simp only [Int.reduceToNat] at ho14; rw [← Ny581.out] at ho14)); have n0_ := Aside0.mk (Kd.R_lower ho14 (keep_size (w := w) (g := g) (row := none) (kb HK.out))); have n1_ := Aside0.mk (IsS107.below (ib HI0.out) hb); have n2_ := kt HK (KeepBut.of_below hb g none); have n3_ := bsi HB hb; clear HI0; clear HK; clear HB; have HO583 := n0_; have HI0 := n1_; have HK := n2_; have HB := n3_; clear n0_ n1_ n2_ n3_; clear hb ho14; obtain ⟨Ao15, co15, eo15⟩ := Kd.R_slice HO583.out; subst eo15) | ((with_reducible refine gate_callee (f := 80) rfl ?_); refine goesL_ (some 23) rfl rfl Try.func80 (by kernel_rfl) rfl #[.pointer (some ⟨g, 0, none⟩), .slice Ao15 y581.length co15] rfl mxp ?_; (with_reducible refine (spec_l1Rd_of.calls kj2 g s0_0 x1001_2 _ _ y581 t584 t585 w0 _ ?side1 ?side2 ?side3 ?side4 ?side5 A12.out).mono ?_); (case side1 => exact ib HI0.out); (case side2 => exact bi HB.out); (case side3 => exact cx (Kd.R_reads' HO583.out).2.2); (case side4 => exact (Kd.R_reads' HO583.out).2.1); (case side5 => exact far_slice (IsS107.own_ne HI0.out HO583.out (by decide))); rintro e w16 ⟨rfl, hi, hb, hk⟩; refine ⟨_, rfl, ?_⟩; have n0_ := Aside0.mk (Kd.R_mono (Kd.R_keep (IsS107.apart (show IsS107 w0 _ g s0_0 x1001_2 from ib HI0.out) (rx HO583.out) (by decide)) hk (fun _ h => h.2)) (fun _ h => h.1)); have n1_ := kt HK hk; have n2_ := Aside0.mk (hb); have n3_ := Aside0.mk (hi); clear HO583; clear HK; clear HB; clear HI0; have HO583 := n0_; have HK := n1_; have HB := n2_; have HI0 := n3_; clear n0_ n1_ n2_ n3_; (try clear hb); (try clear hb2); (try clear hk); (try clear hi)))
    go_ret
    exact ⟨exq, ib HI0.out, bi HB.out, kb HK.out⟩

end Go.Proofs.Ytdkologncoofdaa.P
-- Q14
namespace Go.Proofs.Ytdkologncoofdaa.P
open Go.RowKit Go.Proofs.YtdkologncoofdaaW.PrintWords Go.Proofs.YtdkologncoofdaaW.PrintLast
set_option linter.unusedVariables false
set_option linter.unusedSimpArgs false

theorem dec_ok (n : Int) (h0 : 0 ≤ n) (h : n ≤ 12) (k : Nat) (hk : 2 ≤ k) : ∃ t, spec_l3Dec.f k n = some t ∧ t.size ≤ 100 := by
  obtain ⟨k, rfl⟩ : ∃ m, k = m + 2 := ⟨k - 2, by omega⟩
  rw [spec_l3Dec.f]
  by_cases h10 : n < 10
  · rw [if_pos h10]
    exact ⟨_, rfl, by rw [strOfNums_size]; simp⟩
  · have ht : wrap64 (Int.tdiv n 10) = 1 := by
      rcases (show n = 10 ∨ n = 11 ∨ n = 12 by omega) with rfl | rfl | rfl
      · rw [show Int.tdiv 10 10 = 1 by decide]; exact wrap_id (by omega) (by omega)
      · rw [show Int.tdiv 11 10 = 1 by decide]; exact wrap_id (by omega) (by omega)
      · rw [show Int.tdiv 12 10 = 1 by decide]; exact wrap_id (by omega) (by omega)
    rw [if_neg h10, ht, spec_l3Dec.f, if_pos (by omega)]
    simp only [Option.bind_some]
    rw [if_pos (by rw [strOfNums_size, strOfNums_size]; simp)]
    exact ⟨_, rfl, by rw [ByteArray.size_append, strOfNums_size, strOfNums_size]; simp⟩

theorem rec_l1 {b : List Int} (hb : Bytes b) (d : Nat) : ∀ (x : List S39) (i p : Int) (k : Nat), 12 - x.length = d → x.length ≤ 12 → 0 ≤ i → i + d ≤ 12 → 0 ≤ p → p ≤ 700000000 - 20 * d → d + 3 ≤ k →
    ∃ y q, spec_l5Recipe.l1 k x i b p = some (y, q) ∧ x.length ≤ y.length ∧ y.length ≤ 12 ∧ p ≤ q ∧ q ≤ p + 20 * d := by
  induction d with
  | zero =>
    intro x i p k hd hx hi hi2 h0 h1 hk
    obtain ⟨k, rfl⟩ : ∃ m, k = m + 1 := ⟨k - 1, by omega⟩
    rw [spec_l5Recipe.l1, if_neg (by omega)]
    exact ⟨x, p, rfl, by omega, by omega, by omega, by omega⟩
  | succ d ih =>
    intro x i p k hd hx hi hi2 h0 h1 hk
    obtain ⟨k, rfl⟩ : ∃ m, k = m + 1 := ⟨k - 1, by omega⟩
    obtain ⟨t, et, ht⟩ := dec_ok i hi (by omega) k (by omega)
    obtain ⟨z, q, ez, h2, h3⟩ := drawn_phase hb h0 (show p ≤ 800000000 by omega) ((⟨#[121]⟩ : ByteArray) ++ t) [] (by simp) k (by omega)
    rw [spec_l5Recipe.l1, if_pos (by omega), et, Option.bind_some, if_pos (by omega), ez, Option.bind_some, if_pos (by omega), wrap_id (by omega) (by omega)]
    obtain ⟨y, q2, ey, a1, a2, a3, a4⟩ := ih (x ++ [z]) (i + 1) q k (by simp; omega) (by simp; omega) (by omega) (by omega) (by omega) (by omega) (by omega)
    simp only [List.length_append, List.length_singleton] at a1
    exact ⟨y, q2, ey, by omega, a2, by omega, by omega⟩

theorem rec_l0 {b : List Int} (hb : Bytes b) (ns : List ByteArray) (hns : ns.length ≤ 100) (n : Nat) (hn : n ≤ ns.length) (hn12 : n ≤ 12) (hn1 : 1 ≤ n) (d : Nat) : ∀ (x : List S39) (i : Nat) (p : Int) (k : Nat), n - i = d → i ≤ n → x.length = i → 0 ≤ p → p ≤ 600000000 - 20 * d → d + 40 ≤ k →
    ∃ y q, spec_l5Recipe.l0 k ns (n : Int) x (i : Int) b p = some (y, q) ∧ 1 ≤ y.length ∧ y.length ≤ 12 ∧ p ≤ q ∧ q ≤ p + 20 * d + 300 := by
  induction d with
  | zero =>
    intro x i p k hd hx hi h0 h1 hk
    obtain ⟨k, rfl⟩ : ∃ m, k = m + 1 := ⟨k - 1, by omega⟩
    rw [spec_l5Recipe.l0, if_neg (by omega)]
    obtain ⟨v, ev, _, _⟩ := pick_ok hb h0 (show p ≤ 1000000000 by omega) 20 k (by omega)
    rw [ev, Option.bind_some]
    by_cases hv : v = 0
    · rw [if_pos hv]
      obtain ⟨y, q, ey, a1, a2, a3, a4⟩ := rec_l1 hb (12 - x.length) x 0 (p + 1) k rfl (by omega) (by omega) (by omega) (by omega) (by omega) (by omega)
      exact ⟨y, q, ey, by omega, a2, by omega, by omega⟩
    · rw [if_neg hv]
      exact ⟨x, p + 1, rfl, by omega, by omega, by omega, by omega⟩
  | succ d ih =>
    intro x i p k hd hx hi h0 h1 hk
    obtain ⟨k, rfl⟩ : ∃ m, k = m + 1 := ⟨k - 1, by omega⟩
    obtain ⟨z, q, ez, h2, h3⟩ := drawn_phase hb h0 (show p ≤ 800000000 by omega) (rdOf ByteArray.empty ns (i : Int)) ((ns.take ((n : Nat) : Int).toNat).drop (((i : Int) + 1) : Int).toNat) (by simp; omega) k (by omega)
    have hw : wrap64 ((i : Int) + 1) = (i : Int) + 1 := wrap_id (by omega) (by omega)
    rw [spec_l5Recipe.l0, if_pos (by omega), if_pos (by omega), if_pos (by omega), hw, if_pos (by omega), if_pos (by omega), if_pos (by omega), ez, Option.bind_some, if_pos (by omega)]
    obtain ⟨y, q2, ey, a1, a2, a3, a4⟩ := ih (x ++ [z]) (i + 1) q k (by omega) (by omega) (by simp; omega) (by omega) (by omega) (by omega)
    refine ⟨y, q2, ?_, a1, a2, by omega, by omega⟩
    rw [← ey]
    simp [tup]

theorem recipe_ok {b : List Int} (hb : Bytes b) {p : Int} (h0 : 0 ≤ p) (h1 : p ≤ 500000000) (k : Nat) (hk : 60 ≤ k) :
    ∃ x q, spec_l5Recipe.f k b p = some (x, q) ∧ 1 ≤ x.length ∧ x.length ≤ 12 ∧ p ≤ q ∧ q ≤ p + 500 := by
  unfold spec_l5Recipe.f spec_l5Names.f
  simp only [Option.bind_some]
  generalize hns : ([(⟨#[98, 114, 101, 119]⟩ : ByteArray), (⟨#[102, 49]⟩ : ByteArray), (⟨#[102, 50]⟩ : ByteArray), (⟨#[103]⟩ : ByteArray), (⟨#[104]⟩ : ByteArray), (⟨#[109, 97, 115, 104]⟩ : ByteArray), (⟨#[114, 101, 115, 116]⟩ : ByteArray), (⟨#[120, 45, 57]⟩ : ByteArray)] : List ByteArray) = ns
  have hl : ns.length = 8 := by rw [← hns]; rfl
  clear hns
  obtain ⟨v, ev, v0, v1⟩ := pick_ok hb h0 (show p ≤ 1000000000 by omega) (ns.length : Int) k (by omega)
  rw [ev, Option.bind_some]
  have hv := v1 (by omega)
  obtain ⟨m, rfl⟩ := Int.eq_ofNat_of_zero_le v0
  have hw : wrap64 (1 + (m : Int)) = ((1 + m : Nat) : Int) := by rw [wrap_id (by omega) (by omega)]; omega
  simp only [hw]
  obtain ⟨y, q, ey, a1, a2, a3, a4⟩ := rec_l0 hb ns (by omega) (1 + m) (by omega) (by omega) (by omega) (1 + m) [] 0 (p + 1) k (by omega) (by omega) rfl (by omega) (by omega) (by omega)
  exact ⟨y, q, ey, a1, a2, by omega, by omega⟩

theorem spoil_l0 {b : List Int} (hb : Bytes b) (n : Nat) (hn : n ≤ 13) (d : Nat) : ∀ (x : List S39) (i p : Int) (k : Nat), n - x.length = d → x.length ≤ 13 → 0 ≤ i → i + d ≤ 12 → 0 ≤ p → p ≤ 700000000 - 20 * d → d + 3 ≤ k →
    ∃ y q, spec_l5Spoil.l0 k x (n : Int) i b p = some (y, q) ∧ y.length ≤ 13 ∧ p ≤ q ∧ q ≤ p + 20 * d := by
  induction d with
  | zero =>
    intro x i p k hd hx hi hi2 h0 h1 hk
    obtain ⟨k, rfl⟩ : ∃ m, k = m + 1 := ⟨k - 1, by omega⟩
    rw [spec_l5Spoil.l0, if_neg (by omega)]
    exact ⟨x, p, rfl, by omega, by omega, by omega⟩
  | succ d ih =>
    intro x i p k hd hx hi hi2 h0 h1 hk
    obtain ⟨k, rfl⟩ : ∃ m, k = m + 1 := ⟨k - 1, by omega⟩
    obtain ⟨t, et, ht⟩ := dec_ok i hi (by omega) k (by omega)
    obtain ⟨z, q, ez, h2, h3⟩ := drawn_phase hb h0 (show p ≤ 800000000 by omega) ((⟨#[122]⟩ : ByteArray) ++ t) [] (by simp) k (by omega)
    rw [spec_l5Spoil.l0, if_pos (by omega), et, Option.bind_some, if_pos (by omega), ez, Option.bind_some, if_pos (by omega), wrap_id (by omega) (by omega)]
    obtain ⟨y, q2, ey, a2, a3, a4⟩ := ih (x ++ [z]) (i + 1) q k (by simp; omega) (by simp; omega) (by omega) (by omega) (by omega) (by omega) (by omega)
    exact ⟨y, q2, ey, a2, by omega, by omega⟩

theorem spoil_ok {b : List Int} (hb : Bytes b) {p : Int} (h0 : 0 ≤ p) (h1 : p ≤ 500000000) (l : List S39) (hl1 : 1 ≤ l.length) (hl2 : l.length ≤ 12) (k : Nat) (hk : 60 ≤ k) :
    ∃ x q, spec_l5Spoil.f k b p l = some (x, q) ∧ x.length ≤ 13 ∧ p ≤ q ∧ q ≤ p + 500 := by
  unfold spec_l5Spoil.f
  simp only [Option.bind_some, List.nil_append]
  rw [if_pos (by simp; omega)]
  obtain ⟨v, ev, v0, v1⟩ := pick_ok hb h0 (show p ≤ 1000000000 by omega) (l.length : Int) k (by omega)
  obtain ⟨u, eu, u0, u1⟩ := pick_ok hb (show 0 ≤ p + 1 by omega) (show p + 1 ≤ 1000000000 by omega) 6 k (by omega)
  rw [ev, Option.bind_some, eu, Option.bind_some]
  have hv := v1 (by omega)
  split
  · simp only [v0, hv, if_true]
    rw [if_pos (by omega)]
    exact ⟨_, _, rfl, by simp; omega, by omega, by omega⟩
  · split
    · simp only [v0, hv, if_true]
      rw [if_pos (by omega)]
      exact ⟨_, _, rfl, by simp; omega, by omega, by omega⟩
    · split
      · obtain ⟨m, em, m0, m1⟩ := pick_ok hb (show 0 ≤ p + 1 + 1 by omega) (show p + 1 + 1 ≤ 1000000000 by omega) 2 k (by omega)
        rw [em, Option.bind_some]
        have hm := m1 (by omega)
        obtain ⟨j, rfl⟩ := Int.eq_ofNat_of_zero_le m0
        have hw : wrap64 (12 + (j : Int)) = ((12 + j : Nat) : Int) := by rw [wrap_id (by omega) (by omega)]; omega
        simp only [hw]
        obtain ⟨y, q, ey, a1, a2, a3⟩ := spoil_l0 hb (12 + j) (by omega) (12 + j - l.length) l 0 (p + 1 + 1 + 1) k rfl (by omega) (by omega) (by omega) (by omega) (by omega) (by omega)
        exact ⟨y, q, ey, by omega, by omega, by omega⟩
      · simp only [v0, hv, if_true]
        obtain ⟨y, q, ey, a1, a2⟩ := spoilt_phase hb (show 0 ≤ p + 1 + 1 by omega) (by omega) (rd_T39 l v) k (by omega)
        rw [ey]
        exact ⟨_, q, rfl, by simp; omega, by omega, by omega⟩

theorem any_ok {b : List Int} (hb : Bytes b) {p : Int} (h0 : 0 ≤ p) (h1 : p ≤ 400000000) (k : Nat) (hk : 60 ≤ k) :
    ∃ x q, spec_l5Any.f k b p = some (x, q) ∧ x.length ≤ 13 ∧ p ≤ q ∧ q ≤ p + 1100 := by
  unfold spec_l5Any.f
  obtain ⟨x, q, ex, x1, x2, x3, x4⟩ := recipe_ok hb h0 (by omega) k hk
  rw [ex, Option.bind_some]
  obtain ⟨v, ev, v0, v1⟩ := pick_ok hb (show 0 ≤ q by omega) (by omega) 24 k (by omega)
  simp only [ev, Option.bind_some]
  split
  · obtain ⟨y, q2, ey, y1, y2, y3⟩ := spoil_ok hb (show 0 ≤ q + 1 by omega) (by omega) x x1 x2 k hk
    rw [ey]
    exact ⟨y, q2, rfl, y1, by omega, by omega⟩
  · split
    · exact ⟨[], q + 1, rfl, by simp, by omega, by omega⟩
    · exact ⟨x, q + 1, rfl, by omega, by omega, by omega⟩
theorem from_ok {b : List Int} (hb : Bytes b) {p : Int} (h0 : 0 ≤ p) (h1 : p ≤ 500000000) (l : List S39) (hl : l.length ≤ 1000) (k : Nat) (hk : 60 ≤ k) :
    ∃ x q, spec_l5From.f k b p l = some (x, q) ∧ p ≤ q ∧ q ≤ p + 5 := by
  have hj : ∀ (c : Bool) (p : Int), 0 ≤ p → p ≤ 500000001 → (c = true → 1 ≤ l.length) → ∃ x q, spec_l5From.j0 k l c b p = some (x, q) ∧ p ≤ q ∧ q ≤ p + 1 := by
    intro c p h0 h1 hc
    obtain ⟨k, rfl⟩ : ∃ m, k = m + 1 := ⟨k - 1, by omega⟩
    rw [spec_l5From.j0]
    cases c with
    | true =>
      rw [if_pos rfl]
      obtain ⟨v, ev, v0, v1⟩ := pick_ok hb h0 (show p ≤ 1000000000 by omega) (l.length : Int) k (by omega)
      have := hc rfl
      rw [ev, Option.bind_some, if_pos v0, if_pos (v1 (by omega))]
      exact ⟨_, _, rfl, by omega, by omega⟩
    | false =>
      rw [if_neg (by decide)]
      obtain ⟨v, ev, _⟩ := of_ok hb h0 (show p ≤ 1000000000 by omega) ([(⟨#[103, 111, 111, 100]⟩ : ByteArray), (⟨#[115, 99, 114, 97, 112, 112, 101, 100]⟩ : ByteArray), (⟨#[110, 111, 110, 101]⟩ : ByteArray), (⟨#[]⟩ : ByteArray)] : List ByteArray) (by simp) k (by omega)
      rw [ev]
      exact ⟨_, _, rfl, by omega, by omega⟩
  unfold spec_l5From.f
  split
  · obtain ⟨v, ev, v0, v1⟩ := pick_ok hb h0 (show p ≤ 1000000000 by omega) 8 k (by omega)
    rw [ev, Option.bind_some]
    obtain ⟨x, q, e, a1, a2⟩ := hj (decide (v > 0)) (p + 1) (by omega) (by omega) (fun _ => by omega)
    exact ⟨x, q, e, by omega, by omega⟩
  · obtain ⟨x, q, e, a1, a2⟩ := hj false p (by omega) (by omega) (fun h => by cases h)
    exact ⟨x, q, e, by omega, by omega⟩
end Go.Proofs.Ytdkologncoofdaa.P
-- Q16
namespace Go.Proofs.Ytdkologncoofdaa.P
open Go.RowKit Go.Proofs.YtdkologncoofdaaW.PrintWords Go.Proofs.YtdkologncoofdaaW.PrintLast
set_option linter.unusedVariables false
set_option linter.unusedSimpArgs false
theorem say_ok {b : List Int} (hb : Bytes b) {p : Int} (h0 : 0 ≤ p) (h1 : p ≤ 500000000) (k : Nat) (hk : 1 ≤ k) :
    ∃ t w q, spec_l5Say.f k b p = some (t, w, q) ∧ p ≤ q ∧ q ≤ p + 5 := by
  unfold spec_l5Say.f
  obtain ⟨v1, e1, _, _⟩ := pick_ok hb h0 (show p ≤ 1000000000 by omega) 24 k hk
  obtain ⟨v2, e2, _, _⟩ := pick_ok hb (show 0 ≤ p + 1 by omega) (by omega) 3 k hk
  obtain ⟨v3, e3, _, _⟩ := pick_ok hb (show 0 ≤ p + 1 + 1 by omega) (by omega) 24 k hk
  obtain ⟨v4, e4, a4, b4⟩ := pick_ok hb (show 0 ≤ p + 1 + 1 + 1 by omega) (by omega) 4 k hk
  simp only [e1, e2, e3, e4, Option.bind_some]
  have := b4 (by omega)
  split
  · (try rw [if_pos a4]); rw [if_pos (by simpa using this)]
    exact ⟨_, _, _, rfl, by omega, by omega⟩
  · exact ⟨_, _, _, rfl, by omega, by omega⟩
end Go.Proofs.Ytdkologncoofdaa.P
-- Q3
namespace Go.Proofs.Ytdkologncoofdaa.P
open Go.RowKit Go.Proofs.YtdkologncoofdaaW.PrintWords Go.Proofs.YtdkologncoofdaaW.PrintLast
set_option linter.unusedVariables false
set_option linter.unusedSimpArgs false

/-! ### Places -/
/-- The first place from i on of a phase of this name. -/
theorem atOf_range (l : List S39) (a : ByteArray) : -1 ≤ atOf l a ∧ atOf l a < (l.length : Int) := by
  unfold atOf
  cases h : l.findIdx? (fun p => p.f0.toList == a.toList) with
  | none => simp only; omega
  | some i =>
    obtain ⟨hlt, _⟩ := List.findIdx?_eq_some_iff_getElem.1 h
    simp only
    omega
theorem atOf_name (l : List S39) (a : ByteArray) (h : 0 ≤ atOf l a) : (rd_T39 l (atOf l a)).f0.toList = a.toList := by
  unfold atOf at h ⊢
  cases e : l.findIdx? (fun p => p.f0.toList == a.toList) with
  | none => rw [e] at h; simp at h
  | some i =>
    obtain ⟨hlt, h1, _⟩ := List.findIdx?_eq_some_iff_getElem.1 e
    simp only [rd_T39, Int.toNat_natCast]
    rw [List.getD_eq_getElem?_getD, List.getElem?_eq_getElem hlt]
    simpa using h1
theorem atOf_not (l : List S39) (a : ByteArray) (h : atOf l a < 0) (j : Nat) (hj : j < l.length) : (l.getD j z39).f0.toList ≠ a.toList := by
  unfold atOf at h
  cases e : l.findIdx? (fun p => p.f0.toList == a.toList) with
  | some i => rw [e] at h; simp only at h; omega
  | none =>
    have h2 := List.findIdx?_eq_none_iff.1 e (l.getD j z39) (by rw [List.getD_eq_getElem?_getD, List.getElem?_eq_getElem hj]; exact List.getElem_mem hj)
    simpa using h2
theorem at_loop (l : List S39) (a : ByteArray) (hl : l.length ≤ 9223372036854775807) (d : Nat) : ∀ (i k : Nat), i ≤ l.length → l.length - i = d → d < k →
    (∀ j, j < i → ((l.getD j z39).f0.toList == a.toList) = false) → spec_l2At.l0 k l a (i : Int) = some (atOf l a) := by
  induction d with
  | zero =>
    intro i k hi hd hk hb
    obtain ⟨k, rfl⟩ : ∃ m, k = m + 1 := ⟨k - 1, by omega⟩
    simp only [spec_l2At.l0]
    rw [if_neg (by omega), atOf_miss l a (fun j hj => hb j (by omega))]
  | succ d ih =>
    intro i k hi hd hk hb
    obtain ⟨k, rfl⟩ : ∃ m, k = m + 1 := ⟨k - 1, by omega⟩
    simp only [spec_l2At.l0]
    have e : rd_T39 l (i : Int) = l.getD i z39 := by simp [rd_T39]
    rw [if_pos (by omega), if_pos (by omega), e]
    by_cases h : (l.getD i z39).f0.toList = a.toList
    · rw [if_pos h, atOf_hit l a i (by omega) (by simpa using h) hb]
    · rw [if_neg h, show wrap64 ((i : Int) + 1) = ((i + 1 : Nat) : Int) from by rw [wrap_id (by omega) (by omega)]; omega]
      refine ih (i + 1) k (by omega) (by omega) (by omega) (fun j hj => ?_)
      by_cases e2 : j = i
      · subst e2; simpa using h
      · exact hb j (by omega)
theorem spec_at (l : List S39) (a : ByteArray) (hl : l.length ≤ 9223372036854775807) (k : Nat) (hk : l.length < k) : spec_l2At.f k l a = some (atOf l a) :=
  at_loop l a hl l.length 0 k (by omega) (by omega) hk (fun j hj => absurd hj (Nat.not_lt_zero _))

/-! ### Recipes -/
def refOk (l : List S39) (i : Int) (n : ByteArray) : Bool := !(endOf n == 0) || decide (i < atOf l n)
def okAt (l : List S39) (i : Nat) : Bool := phOk (rd_T39 l i) && (atOf l (rd_T39 l i).f0 == (i : Int)) && refOk l i (rd_T39 l i).f6 && refOk l i (rd_T39 l i).f7
def restOk (l : List S39) (i : Nat) : Bool := (List.range (l.length - i)).all fun j => okAt l (i + j)
def recOk (l : List S39) : Bool := inB (l.length : Int) 1 12 && restOk l 0
theorem restOk_end (l : List S39) (i : Nat) (h : l.length ≤ i) : restOk l i = true := by
  unfold restOk; rw [show l.length - i = 0 from by omega]; rfl
theorem restOk_step (l : List S39) (i : Nat) (h : i < l.length) : restOk l i = (okAt l i && restOk l (i + 1)) := by
  unfold restOk
  rw [show l.length - i = (l.length - (i + 1)) + 1 from by omega, List.range_succ_eq_map, List.all_cons, List.all_map]
  congr 1
  apply congrArg
  funext j
  simp only [Function.comp_apply, Nat.succ_eq_add_one]
  rw [show i + (j + 1) = i + 1 + j from by omega]
theorem recOk_at (l : List S39) (h : recOk l = true) (i : Nat) (hi : i < l.length) : okAt l i = true := by
  unfold recOk restOk at h
  simp only [Bool.and_eq_true, List.all_eq_true] at h
  have := h.2 i (List.mem_range.2 (by omega))
  simpa using this
theorem recOk_len (l : List S39) (h : recOk l = true) : 1 ≤ l.length ∧ l.length ≤ 12 := by
  unfold recOk at h
  simp only [Bool.and_eq_true, inB_iff] at h
  omega

theorem spec_ok_loop (l : List S39) (hl : l.length ≤ 12) (d : Nat) : ∀ (i k : Nat), i ≤ l.length → l.length - i = d → 2 * d + 20 ≤ k → spec_RecOk.l0 k l (i : Int) = some (restOk l i) := by
  induction d with
  | zero =>
    intro i k hi hd hk
    obtain ⟨k, rfl⟩ : ∃ m, k = m + 1 := ⟨k - 1, by omega⟩
    simp only [spec_RecOk.l0]
    rw [if_neg (by omega), restOk_end l i (by omega)]
  | succ d ih =>
    intro i k hi hd hk
    obtain ⟨k, rfl⟩ : ∃ m, k = m + 2 := ⟨k - 2, by omega⟩
    have hi' := ih (i + 1) k (by omega) (by omega) (by omega)
    have hw : wrap64 ((i : Int) + 1) = ((i + 1 : Nat) : Int) := by rw [wrap_id (by omega) (by omega)]; omega
    have hph : spec_RecPhaseOk.f (k + 1) (rd_T39 l i).f0 (rd_T39 l i).f1 (rd_T39 l i).f2 (rd_T39 l i).f3 (rd_T39 l i).f4 (rd_T39 l i).f5 (rd_T39 l i).f6 (rd_T39 l i).f7 = some (phOk (rd_T39 l i)) := by
      obtain ⟨m, hm⟩ : ∃ m, k + 1 = m + 9 := ⟨k - 8, by omega⟩
      rw [hm]; exact spec_ph _ m
    have hat : ∀ n, spec_l2At.f (k + 1) l n = some (atOf l n) := fun n => spec_at l n (by omega) _ (by omega)
    have hat' : ∀ n, spec_l2At.f k l n = some (atOf l n) := fun n => spec_at l n (by omega) _ (by omega)
    simp only [spec_RecOk.l0]
    rw [if_pos (by omega), if_pos (by omega), hph, Option.bind_some, hat, Option.bind_some, restOk_step l i (by omega)]
    unfold okAt
    cases h1 : phOk (rd_T39 l i)
    · rw [if_neg (by decide)]
      simp [spec_RecOk.j1]
    · rw [if_pos rfl]
      simp only [spec_RecOk.j1]
      by_cases h2 : atOf l (rd_T39 l i).f0 = (i : Int)
      · rw [if_neg (by simp [h2]), if_pos (by omega), if_pos (by omega), spec_end, Option.bind_some, spec_end, Option.bind_some, hat', hat', Option.bind_some, Option.bind_some, hw, hi']
        unfold refOk
        rw [show (atOf l (rd_T39 l i).f0 == (i : Int)) = true from beq_iff_eq.2 h2]
        by_cases e6 : endOf (rd_T39 l i).f6 = 0 <;> by_cases e7 : endOf (rd_T39 l i).f7 = 0 <;> by_cases a6 : atOf l (rd_T39 l i).f6 ≤ (i : Int) <;> by_cases a7 : atOf l (rd_T39 l i).f7 ≤ (i : Int) <;>
          simp [e6, e7, a6, a7, show (decide ((i : Int) < atOf l (rd_T39 l i).f6)) = !(decide (atOf l (rd_T39 l i).f6 ≤ (i : Int))) from by simp [← decide_not, Int.not_le], show (decide ((i : Int) < atOf l (rd_T39 l i).f7)) = !(decide (atOf l (rd_T39 l i).f7 ≤ (i : Int))) from by simp [← decide_not, Int.not_le]]
      · rw [if_pos (by simpa using h2), show (atOf l (rd_T39 l i).f0 == (i : Int)) = false from beq_eq_false_iff_ne.2 h2]
        simp
theorem spec_ok (l : List S39) (k : Nat) (hk : 44 ≤ k) : spec_RecOk.f k l = some (recOk l) := by
  unfold spec_RecOk.f recOk
  rw [spec_in, Option.bind_some]
  by_cases h : inB (l.length : Int) 1 12 = true
  · rw [if_pos h, h]
    have := inB_iff.1 h
    exact spec_ok_loop l (by omega) l.length 0 k (by omega) (by omega) (by omega)
  · rw [if_neg h, Bool.eq_false_iff.2 h]; rfl

/-- What stands behind a pair of names. -/
theorem impl_pair (l : List S39) (i : Nat) (x12 : Int) (k : Nat) (hk : 10 ≤ k) (n6 n7 : ByteArray) (r : Bool) (h0 : impl_RecOk.l0 k l l x12 (wrap64 ((i : Int) + 1)) = some r) :
    impl_RecOk.l1 (k + 3) l i l x12 i [n6, n7] 2 0 = some (refOk l i n6 && (refOk l i n7 && r)) := by
  have he : ∀ n m, 4 ≤ m → impl_RecEnd.f m n = some (endOf n) := fun n m hm => by
    obtain ⟨q, rfl⟩ : ∃ q, m = q + 4 := ⟨m - 4, by omega⟩
    exact impl_end n q
  have w1 : wrap64 (0 + 1) = 1 := wrap_id (by omega) (by omega)
  have w2 : wrap64 (1 + 1) = 2 := wrap_id (by omega) (by omega)
  have e0 : rdOf ByteArray.empty [n6, n7] 0 = n6 := rfl
  have e1 : rdOf ByteArray.empty [n6, n7] 1 = n7 := rfl
  simp only [impl_RecOk.l1, impl_at.f, w1, w2, e0, e1, List.length_cons, List.length_nil, he n6 (k + 2) (by omega), he n7 (k + 1) (by omega), Option.bind_some, h0]
  unfold refOk
  by_cases e6 : endOf n6 = 0 <;> by_cases e7 : endOf n7 = 0 <;> by_cases a6 : atOf l n6 ≤ (i : Int) <;> by_cases a7 : atOf l n7 ≤ (i : Int) <;>
    simp [show (endOf n6 == 0) = decide (endOf n6 = 0) from rfl, show (endOf n7 == 0) = decide (endOf n7 = 0) from rfl, e6, e7, a6, a7, show (decide ((i : Int) < atOf l n6)) = !(decide (atOf l n6 ≤ (i : Int))) from by simp [← decide_not, Int.not_le], show (decide ((i : Int) < atOf l n7)) = !(decide (atOf l n7 ≤ (i : Int))) from by simp [← decide_not, Int.not_le]]
theorem impl_ok_loop (l : List S39) (hl : l.length ≤ 12) (d : Nat) : ∀ (i k : Nat), i ≤ l.length → l.length - i = d → 5 * d + 20 ≤ k → impl_RecOk.l0 k l l (l.length : Int) (i : Int) = some (restOk l i) := by
  induction d with
  | zero =>
    intro i k hi hd hk
    obtain ⟨k, rfl⟩ : ∃ m, k = m + 1 := ⟨k - 1, by omega⟩
    simp only [impl_RecOk.l0]
    rw [if_neg (by omega), restOk_end l i (by omega)]
  | succ d ih =>
    intro i k hi hd hk
    obtain ⟨k, rfl⟩ : ∃ m, k = m + 5 := ⟨k - 5, by omega⟩
    have hi' := ih (i + 1) k (by omega) (by omega) (by omega)
    have hw : wrap64 ((i : Int) + 1) = ((i + 1 : Nat) : Int) := by rw [wrap_id (by omega) (by omega)]; omega
    have hph : impl_RecPhaseOk.f (k + 4) (rd_T39 l i).f0 (rd_T39 l i).f1 (rd_T39 l i).f2 (rd_T39 l i).f3 (rd_T39 l i).f4 (rd_T39 l i).f5 (rd_T39 l i).f6 (rd_T39 l i).f7 = some (phOk (rd_T39 l i)) := by
      obtain ⟨m, hm⟩ : ∃ m, k + 4 = m + 11 := ⟨k - 7, by omega⟩
      rw [hm]; exact impl_ph _ m
    have hp := impl_pair l i (l.length : Int) k (by omega) (rd_T39 l i).f6 (rd_T39 l i).f7 (restOk l (i + 1)) (by rw [hw]; exact hi')
    simp only [impl_RecOk.l0]
    rw [if_pos (by omega), if_pos (by omega), if_pos (by omega), hph, Option.bind_some, restOk_step l i (by omega)]
    unfold okAt
    cases h1 : phOk (rd_T39 l i)
    · rw [if_neg (by decide)]
      simp [impl_RecOk.j1]
    · rw [if_pos rfl]
      simp only [impl_RecOk.j1, impl_at.f, Option.bind_some]
      by_cases h2 : atOf l (rd_T39 l i).f0 = (i : Int)
      · rw [if_neg (by simp [h2])]
        simp only [List.length_cons, List.length_nil]
        rw [show (((0 + 1 + 1 : Nat) : Int)) = 2 from rfl, hp, show (atOf l (rd_T39 l i).f0 == (i : Int)) = true from beq_iff_eq.2 h2]
        simp only [Bool.true_and, Bool.and_assoc]
      · rw [if_pos (by simpa using h2), show (atOf l (rd_T39 l i).f0 == (i : Int)) = false from beq_eq_false_iff_ne.2 h2]
        simp
theorem impl_ok (l : List S39) (k : Nat) (hk : 80 ≤ k) : impl_RecOk.f k l = some (recOk l) := by
  unfold impl_RecOk.f recOk
  rw [impl_in', Option.bind_some]
  by_cases h : inB (l.length : Int) 1 12 = true
  · rw [if_pos h, h]
    have := inB_iff.1 h
    exact impl_ok_loop l (by omega) l.length 0 k (by omega) (by omega) (by omega)
  · rw [if_neg h, Bool.eq_false_iff.2 h]; rfl

end Go.Proofs.Ytdkologncoofdaa.P
-- Px7
namespace Go.Proofs.Ytdkologncoofdaa.P
open Go.RowKit Go.Proofs.YtdkologncoofdaaW.PrintWords Go.Proofs.YtdkologncoofdaaW.PrintLast Go.Proofs.YtdkologncoofdaaW.PrintMore
attribute [local go_sem] max2_int min2_int max_two min_two max_three min_three max_four min_four   -- for this text's walks alone
set_option linter.unusedVariables false
set_option linter.unusedSimpArgs false

/-! ### laws_szRecPhase: function 31 -/
def laws_szRecPhase.f (a0_0 : ByteArray) (a0_1 : Int) (a0_2 : ByteArray) (a0_3 : ByteArray) (a0_4 : Int) (a0_5 : Int) (a0_6 : ByteArray) (a0_7 : ByteArray) (a1 : Int) : Option (Int) := if (wrap64 (a1 - (a0_0.size : Int))) < 0 then (some (-1)) else (if (wrap64 ((wrap64 (a1 - (a0_0.size : Int))) - (a0_2.size : Int))) < 0 then (some (-1)) else (if (wrap64 ((wrap64 ((wrap64 (a1 - (a0_0.size : Int))) - (a0_2.size : Int))) - (a0_3.size : Int))) < 0 then (some (-1)) else (if (wrap64 ((wrap64 ((wrap64 ((wrap64 (a1 - (a0_0.size : Int))) - (a0_2.size : Int))) - (a0_3.size : Int))) - (a0_6.size : Int))) < 0 then (some (-1)) else (if (wrap64 ((wrap64 ((wrap64 ((wrap64 ((wrap64 (a1 - (a0_0.size : Int))) - (a0_2.size : Int))) - (a0_3.size : Int))) - (a0_6.size : Int))) - (a0_7.size : Int))) < 0 then (some (-1)) else (some (wrap64 ((wrap64 ((wrap64 ((wrap64 ((wrap64 (a1 - (a0_0.size : Int))) - (a0_2.size : Int))) - (a0_3.size : Int))) - (a0_6.size : Int))) - (a0_7.size : Int))))))))
set_option maxHeartbeats 8000000 in
set_option maxRecDepth 100000 in
theorem laws_szRecPhase.calls (a0_0 : ByteArray) (a0_1 : Int) (a0_2 : ByteArray) (a0_3 : ByteArray) (a0_4 : Int) (a0_5 : Int) (a0_6 : ByteArray) (a0_7 : ByteArray) (a1 : Int) (r : Int) (w : World) (h : laws_szRecPhase.f a0_0 a0_1 a0_2 a0_3 a0_4 a0_5 a0_6 a0_7 a1 = some r) :
  Calls Try.prog 31 #[.agg #[.string a0_0, .int .i64 a0_1, .string a0_2, .string a0_3, .int .i64 a0_4, .int .i64 a0_5, .string a0_6, .string a0_7], .int .i64 a1] w fun e w' => e = .returned (.int .i64 r) ∧ Below w.heap.size w w' := by
 have H := Aside0.mk h
 clear h
 go_enter Try.func31, Try.ntmps31
 go_wp2
 all_goals
  go_ret
  refine ⟨?_, by repeat (first | exact Below.refl _ _ | apply below_alloc | apply pw_below_drewN | apply below_drew1)⟩
  have h := H.out
  simp_all [laws_szRecPhase.f, ← Int.not_le]


/-! ### laws_szRecPhaseS: function 37 -/
def laws_szRecPhaseS.l0 : Nat → List (S48) → Int → Int → Option (Int)
 | 0, _, _, _ => none
 | k + 1, x0, x1, x5 => if x5 < (x0.length : Int) then (if 0 ≤ x5 then ((laws_szRecPhase.f ((rd_T48 x0 x5).f0) ((rd_T48 x0 x5).f1) ((rd_T48 x0 x5).f2) ((rd_T48 x0 x5).f3) ((rd_T48 x0 x5).f4) ((rd_T48 x0 x5).f5) ((rd_T48 x0 x5).f6) ((rd_T48 x0 x5).f7) x1).bind fun t349 => (if t349 < 0 then (some (-1)) else (laws_szRecPhaseS.l0 k x0 t349 (wrap64 (x5 + 1))))) else (none)) else (some x1)
def laws_szRecPhaseS.f (k : Nat) (l0 : List (S48)) (a1 : Int) : Option (Int) := if (wrap64 (a1 - (l0.length : Int))) < 0 then (some (-1)) else (laws_szRecPhaseS.l0 k l0 (wrap64 (a1 - (l0.length : Int))) 0)
theorem laws_szRecPhaseS.mono_l : ∀ k, (∀ y0 y1 y2, LeO (laws_szRecPhaseS.l0 k y0 y1 y2) (laws_szRecPhaseS.l0 (k + 1) y0 y1 y2))
 | 0 => fun _ _ _ r h => by simp [laws_szRecPhaseS.l0] at h
 | k + 1 => by
  have ih0 := laws_szRecPhaseS.mono_l k
  ·intro y0 y1 y2
   unfold laws_szRecPhaseS.l0
   repeat' first
   | (with_reducible exact ih0 _ _ _)
   | (with_reducible exact LeO.refl _)
   | (with_reducible exact LeO.none _)
   | (with_reducible refine LeO.ite ?_ ?_)
   | (with_reducible refine LeO.bind ?_ (fun _ => ?_))
   | exact ih0 _ _ _
   | exact LeO.none _
   | refine LeO.ite ?_ ?_
   | refine LeO.bind ?_ (fun _ => ?_)
theorem laws_szRecPhaseS.mono : ∀ a0 a1 k, LeO (laws_szRecPhaseS.f k a0 a1) (laws_szRecPhaseS.f (k + 1) a0 a1) := by
 intro a0 a1 k
 have ih0 := laws_szRecPhaseS.mono_l k
 unfold laws_szRecPhaseS.f
 repeat' first
   | (with_reducible exact ih0 _ _ _)
   | (with_reducible exact LeO.refl _)
   | (with_reducible exact LeO.none _)
   | (with_reducible refine LeO.ite ?_ ?_)
   | (with_reducible refine LeO.bind ?_ (fun _ => ?_))
   | exact ih0 _ _ _
   | exact LeO.none _
   | refine LeO.ite ?_ ?_
   | refine LeO.bind ?_ (fun _ => ?_)
set_option maxHeartbeats 8000000 in
set_option maxRecDepth 100000 in
theorem laws_szRecPhaseS.calls (k : Nat) (A0 : Option Addr) (c0 : Nat) (l0 : List (S48)) (a1 : Int) (r : Int) (w : World) (hr0 : Kd.C k48 w A0 l0.length l0) (hc0 : l0.length ≤ c0) (h : laws_szRecPhaseS.f k l0 a1 = some r) :
  Calls Try.prog 37 #[.slice A0 l0.length c0, .int .i64 a1] w fun e w' => e = .returned (.int .i64 r) ∧ Below w.heap.size w w' := by
 have hu48 := Try.underlying48
 have HR0 := Aside0.mk hr0
 have HC0 := Aside0.mk hc0
 clear hr0 hc0
 have HB := Aside0.mk (Below.refl w.heap.size w)
 have H : (if (wrap64 (a1 - (l0.length : Int))) < 0 then (some (-1)) else (laws_szRecPhaseS.l0 k l0 (wrap64 (a1 - (l0.length : Int))) 0)) = some r := h
 clear h
 by_cases c3 : (wrap64 (a1 - (l0.length : Int))) < 0
 ·rw [if_pos c3] at H
  have c3b0 : decide ((wrap64 (a1 - (l0.length : Int))) < 0) = true := decide_eq_true c3
  clear c3
  obtain rfl := Option.some.inj H
  go_enter Try.func37, Try.ntmps37
  go_wp2
  go_ret
  exact ⟨exq, bw HB.out⟩
 ·rw [if_neg c3] at H
  have c3b0 : decide ((wrap64 (a1 - (l0.length : Int))) < 0) = false := decide_eq_false c3
  clear c3
  have H' := Aside0.mk H
  clear H
  go_enter Try.func37, Try.ntmps37
  go_wp2
  go_loopg [1, 5] k (fun kq v1 v5 w' => ∃ (x1_1 : Int) (x5_1 : Int), v1 = .int .i64 x1_1 ∧ v5 = .int .i64 x5_1 ∧ Aside0 (laws_szRecPhaseS.l0 kq l0 x1_1 x5_1 = some r) ∧ Aside0 (kq ≤ k) ∧ Aside0 (Below w.heap.size w w'))
  case atStart => exact ⟨(wrap64 (a1 - (l0.length : Int))), (0), (by first | rfl | (simp; done) | (simp [*]; done)), (by first | rfl | (simp; done) | (simp [*]; done)), H', ⟨Nat.le_refl _⟩, (hbw HB)⟩
  case round =>
   clear H'
   try clear p2
   try clear c3
   try clear c3b0
   obtain ⟨x1_1, x5_1, rfl, rfl, HA, HK1, HB⟩ := hrel
   cases gk with
   | zero => exact absurd HA.out (by simp [laws_szRecPhaseS.l0])
   | succ k1 =>
    have H := HA.out
    clear HA
    simp only [laws_szRecPhaseS.l0] at H
    by_cases c4 : x5_1 < (l0.length : Int)
    ·rw [if_pos c4] at H
     have c4b0 : decide (x5_1 < (l0.length : Int)) = true := decide_eq_true c4
     clear c4
     by_cases c5 : 0 ≤ x5_1
     ·rw [if_pos c5] at H
      have c5b0 : decide (0 ≤ x5_1) = true := decide_eq_true c5
      clear c5
      replace H := Option.bind_eq_some_iff.mp H
      obtain ⟨t349, A60, H⟩ := H
      replace H : (if t349 < 0 then (some (-1)) else (laws_szRecPhaseS.l0 k1 l0 t349 (wrap64 (x5_1 + 1)))) = some r := H
      have A6 := Aside0.mk A60
      clear A60
      by_cases c7 : t349 < 0
      ·rw [if_pos c7] at H
       have c7b0 : decide (t349 < 0) = true := decide_eq_true c7
       clear c7
       obtain rfl := Option.some.inj H
       have p348 : 0 ≤ (x5_1 : Int) := oda
       have q348 : x5_1 < (l0.length : Int) := oda
       obtain ⟨ad348, e348, hx348_0, hx348_1, hx348_2, hx348_3, hx348_4, hx348_5, hx348_6, hx348_7⟩ := at_T48 HR0.out x5_1 p348 q348
       cases e348
       replace hx348_0 := bcl HB hx348_0
       replace hx348_1 := bcl HB hx348_1
       replace hx348_2 := bcl HB hx348_2
       replace hx348_3 := bcl HB hx348_3
       replace hx348_4 := bcl HB hx348_4
       replace hx348_5 := bcl HB hx348_5
       replace hx348_6 := bcl HB hx348_6
       replace hx348_7 := bcl HB hx348_7
       replace p348 := eq_true p348
       replace q348 := eq_true q348
       go_wp2_with (first | ((with_reducible refine gate_callee (f := 31) rfl ?_); refine goesL_ (some 23) rfl rfl Try.func31 (by kernel_rfl) rfl #[.agg #[.string ((rd_T48 l0 x5_1).f0), .int .i64 ((rd_T48 l0 x5_1).f1), .string ((rd_T48 l0 x5_1).f2), .string ((rd_T48 l0 x5_1).f3), .int .i64 ((rd_T48 l0 x5_1).f4), .int .i64 ((rd_T48 l0 x5_1).f5), .string ((rd_T48 l0 x5_1).f6), .string ((rd_T48 l0 x5_1).f7)], .int .i64 x1_1] rfl mxp ?_; (with_reducible refine (laws_szRecPhase.calls ((rd_T48 l0 x5_1).f0) ((rd_T48 l0 x5_1).f1) ((rd_T48 l0 x5_1).f2) ((rd_T48 l0 x5_1).f3) ((rd_T48 l0 x5_1).f4) ((rd_T48 l0 x5_1).f5) ((rd_T48 l0 x5_1).f6) ((rd_T48 l0 x5_1).f7) x1_1 t349 _ A6.out).mono ?_); rintro e w8 ⟨rfl, hb⟩; refine ⟨_, rfl, ?_⟩; replace HB := bs HB hb; (try clear hb); (try clear hb2); (try clear hk); (try clear hi)))
       go_ret
       exact ⟨exq, bw HB.out⟩
      ·rw [if_neg c7] at H
       have c7b0 : decide (t349 < 0) = false := decide_eq_false c7
       clear c7
       have H' := Aside0.mk H
       clear H
       have p348 : 0 ≤ (x5_1 : Int) := oda
       have q348 : x5_1 < (l0.length : Int) := oda
       obtain ⟨ad348, e348, hx348_0, hx348_1, hx348_2, hx348_3, hx348_4, hx348_5, hx348_6, hx348_7⟩ := at_T48 HR0.out x5_1 p348 q348
       cases e348
       replace hx348_0 := bcl HB hx348_0
       replace hx348_1 := bcl HB hx348_1
       replace hx348_2 := bcl HB hx348_2
       replace hx348_3 := bcl HB hx348_3
       replace hx348_4 := bcl HB hx348_4
       replace hx348_5 := bcl HB hx348_5
       replace hx348_6 := bcl HB hx348_6
       replace hx348_7 := bcl HB hx348_7
       replace p348 := eq_true p348
       replace q348 := eq_true q348
       go_wp2_with (first | ((with_reducible refine gate_callee (f := 31) rfl ?_); refine goesL_ (some 23) rfl rfl Try.func31 (by kernel_rfl) rfl #[.agg #[.string ((rd_T48 l0 x5_1).f0), .int .i64 ((rd_T48 l0 x5_1).f1), .string ((rd_T48 l0 x5_1).f2), .string ((rd_T48 l0 x5_1).f3), .int .i64 ((rd_T48 l0 x5_1).f4), .int .i64 ((rd_T48 l0 x5_1).f5), .string ((rd_T48 l0 x5_1).f6), .string ((rd_T48 l0 x5_1).f7)], .int .i64 x1_1] rfl mxp ?_; (with_reducible refine (laws_szRecPhase.calls ((rd_T48 l0 x5_1).f0) ((rd_T48 l0 x5_1).f1) ((rd_T48 l0 x5_1).f2) ((rd_T48 l0 x5_1).f3) ((rd_T48 l0 x5_1).f4) ((rd_T48 l0 x5_1).f5) ((rd_T48 l0 x5_1).f6) ((rd_T48 l0 x5_1).f7) x1_1 t349 _ A6.out).mono ?_); rintro e w9 ⟨rfl, hb⟩; refine ⟨_, rfl, ?_⟩; replace HB := bs HB hb; (try clear hb); (try clear hb2); (try clear hk); (try clear hi)))
       go_roundg k1
       case measure => have := HK1.out; omega
       case rel => exact ⟨(t349), (wrap64 (x5_1 + 1)), (by first | rfl | (simp; done) | (simp [*]; done)), (by first | rfl | (simp; done) | (simp [*]; done)), H', ⟨by have := HK1.out; omega⟩, (hbw HB)⟩
     ·rw [if_neg c5] at H
      exact absurd H (by simp)
    ·rw [if_neg c4] at H
     have c4b0 : decide (x5_1 < (l0.length : Int)) = false := decide_eq_false c4
     clear c4
     obtain rfl := Option.some.inj H
     go_wp2
     go_ret
     exact ⟨exq, bw HB.out⟩


/-! ### laws_toRecPhase: function 33 -/
def laws_toRecPhase.f (a0_0 : ByteArray) (a0_1 : Int) (a0_2 : ByteArray) (a0_3 : ByteArray) (a0_4 : Int) (a0_5 : Int) (a0_6 : ByteArray) (a0_7 : ByteArray) : Option (ByteArray × Int × ByteArray × ByteArray × Int × Int × ByteArray × ByteArray) := some (a0_0, a0_1, a0_2, a0_3, a0_4, a0_5, a0_6, a0_7)
set_option maxHeartbeats 8000000 in
set_option maxRecDepth 100000 in
theorem laws_toRecPhase.calls (a0_0 : ByteArray) (a0_1 : Int) (a0_2 : ByteArray) (a0_3 : ByteArray) (a0_4 : Int) (a0_5 : Int) (a0_6 : ByteArray) (a0_7 : ByteArray) (r1 : ByteArray) (r2 : Int) (r3 : ByteArray) (r4 : ByteArray) (r5 : Int) (r6 : Int) (r7 : ByteArray) (r8 : ByteArray) (w : World) (h : laws_toRecPhase.f a0_0 a0_1 a0_2 a0_3 a0_4 a0_5 a0_6 a0_7 = some (r1, r2, r3, r4, r5, r6, r7, r8)) :
  Calls Try.prog 33 #[.agg #[.string a0_0, .int .i64 a0_1, .string a0_2, .string a0_3, .int .i64 a0_4, .int .i64 a0_5, .string a0_6, .string a0_7]] w fun e w' => e = .returned (.agg #[.string r1, .int .i64 r2, .string r3, .string r4, .int .i64 r5, .int .i64 r6, .string r7, .string r8]) ∧ Below w.heap.size w w' := by
 have hu48 := Try.underlying48
 have hu39 := Try.underlying39
 have HB := Aside0.mk (Below.refl w.heap.size w)
 have H : (some (a0_0, a0_1, a0_2, a0_3, a0_4, a0_5, a0_6, a0_7)) = some (r1, r2, r3, r4, r5, r6, r7, r8) := h
 clear h
 simp only [Option.some.injEq, Prod.mk.injEq] at H
 obtain ⟨rfl, rfl, rfl, rfl, rfl, rfl, rfl, rfl⟩ := H
 go_enter Try.func33, Try.ntmps33
 go_wp2_with (first | ((with_reducible refine gate_dst (N := 1) rfl ?_); refine box_event ?hg (N := 1) ?hd (cs := #[.string a0_0, .int .i64 a0_1, .string a0_2, .string a0_3, .int .i64 a0_4, .int .i64 a0_5, .string a0_6, .string a0_7]) (t := 48) ?hr ?_; (case hd => rfl); (case hg => rfl); (case hr => first | (go_simp; done) | (go_simp; rfl)); intro gb133 hg w2 hbox hb; have n0_ := bs HB hb; have n1_ := Aside0.mk (hbox); have n2_ := gh hg HB; have n3_ := gh hg HB; clear HB; have HB := n0_; have BK133 := n1_; have GW133 := n2_; have GE133 := n3_; clear n0_ n1_ n2_ n3_; clear hb hbox hg) | ((with_reducible refine gate_dst (N := 2) rfl ?_); refine box_event ?hg (N := 2) ?hd (cs := #[.string (⟨#[]⟩ : ByteArray), .int .i64 0, .string (⟨#[]⟩ : ByteArray), .string (⟨#[]⟩ : ByteArray), .int .i64 0, .int .i64 0, .string (⟨#[]⟩ : ByteArray), .string (⟨#[]⟩ : ByteArray)]) (t := 39) ?hr ?_; (case hd => rfl); (case hg => rfl); (case hr => first | (go_simp; done) | (go_simp; rfl)); intro gb134 hg w3 hbox hb; have n0_ := up BK133 hb; have n1_ := bs HB hb; have n2_ := Aside0.mk (hbox); have n3_ := gh hg HB; have n4_ := gh hg HB; have n5_ := nlt' hg BK133; have n6_ := ngt' hg BK133; clear BK133; clear HB; have BK133 := n0_; have HB := n1_; have BK134 := n2_; have GW134 := n3_; have GE134 := n4_; have NB133_134 := n5_; have NB134_133 := n6_; clear n0_ n1_ n2_ n3_ n4_ n5_ n6_; clear hb hbox hg) | ((with_reducible refine gate_dst (N := 3) rfl ?_); refine box_event ?hg (N := 3) ?hd (cs := #[.string (⟨#[]⟩ : ByteArray), .int .i64 0, .string (⟨#[]⟩ : ByteArray), .string (⟨#[]⟩ : ByteArray), .int .i64 0, .int .i64 0, .string (⟨#[]⟩ : ByteArray), .string (⟨#[]⟩ : ByteArray)]) (t := 39) ?hr ?_; (case hd => rfl); (case hg => rfl); (case hr => first | (go_simp; done) | (go_simp; rfl)); intro gb135 hg w4 hbox hb; have n0_ := up BK133 hb; have n1_ := up BK134 hb; have n2_ := bs HB hb; have n3_ := Aside0.mk (hbox); have n4_ := gh hg HB; have n5_ := gh hg HB; have n6_ := nlt' hg BK133; have n7_ := ngt' hg BK133; have n8_ := nlt' hg BK134; have n9_ := ngt' hg BK134; clear BK133; clear BK134; clear HB; have BK133 := n0_; have BK134 := n1_; have HB := n2_; have BK135 := n3_; have GW135 := n4_; have GE135 := n5_; have NB133_135 := n6_; have NB135_133 := n7_; have NB134_135 := n8_; have NB135_134 := n9_; clear n0_ n1_ n2_ n3_ n4_ n5_ n6_ n7_ n8_ n9_; clear hb hbox hg; have hnb5 := NB133_134.out; have hnc5 := NB134_133.out; have hnb6 := NB133_135.out; have hnc6 := NB135_133.out; have hcz7_0 := b0 BK133; have hcz7_1 := b1 BK133; have hcz7_2 := b2 BK133; have hcz7_3 := b3 BK133; have hcz7_4 := b4 BK133; have hcz7_5 := b5 BK133; have hcz7_6 := b6 BK133; have hcz7_7 := b7 BK133; have hfz7_0 := fz BK133 0; have hfz7_1 := fz BK133 1; have hfz7_2 := fz BK133 2; have hfz7_3 := fz BK133 3; have hfz7_4 := fz BK133 4; have hfz7_5 := fz BK133 5; have hfz7_6 := fz BK133 6; have hfz7_7 := fz BK133 7; have hnb8 := NB135_134.out; have hnc8 := NB134_135.out; have hcz9_0 := b0 BK135; have hcz9_1 := b1 BK135; have hcz9_2 := b2 BK135; have hcz9_3 := b3 BK135; have hcz9_4 := b4 BK135; have hcz9_5 := b5 BK135; have hcz9_6 := b6 BK135; have hcz9_7 := b7 BK135; have hfz9_0 := fz BK135 0; have hfz9_1 := fz BK135 1; have hfz9_2 := fz BK135 2; have hfz9_3 := fz BK135 3; have hfz9_4 := fz BK135 4; have hfz9_5 := fz BK135 5; have hfz9_6 := fz BK135 6; have hfz9_7 := fz BK135 7; have hcz10_0 := b0 BK134; have hcz10_1 := b1 BK134; have hcz10_2 := b2 BK134; have hcz10_3 := b3 BK134; have hcz10_4 := b4 BK134; have hcz10_5 := b5 BK134; have hcz10_6 := b6 BK134; have hcz10_7 := b7 BK134; have hfz10_0 := fz BK134 0; have hfz10_1 := fz BK134 1; have hfz10_2 := fz BK134 2; have hfz10_3 := fz BK134 3; have hfz10_4 := fz BK134 4; have hfz10_5 := fz BK134 5; have hfz10_6 := fz BK134 6; have hfz10_7 := fz BK134 7))
 refine bodyPost_ret (results_cell_row rfl _ _ gb134 39 #[.string a0_0, .int .i64 a0_1, .string a0_2, .string a0_3, .int .i64 a0_4, .int .i64 a0_5, .string a0_6, .string a0_7] (0, 0) _ rfl (by refine bx ?_; refine blk_put (cs := #[.string a0_0, .int .i64 a0_1, .string a0_2, .string a0_3, .int .i64 a0_4, .int .i64 a0_5, .string a0_6, .string (⟨#[]⟩ : ByteArray)]) ?_ 7 _ rfl; refine bx ?_; refine blk_put (cs := #[.string a0_0, .int .i64 a0_1, .string a0_2, .string a0_3, .int .i64 a0_4, .int .i64 a0_5, .string (⟨#[]⟩ : ByteArray), .string (⟨#[]⟩ : ByteArray)]) ?_ 6 _ rfl; refine bx ?_; refine blk_put (cs := #[.string a0_0, .int .i64 a0_1, .string a0_2, .string a0_3, .int .i64 a0_4, .int .i64 0, .string (⟨#[]⟩ : ByteArray), .string (⟨#[]⟩ : ByteArray)]) ?_ 5 _ rfl; refine bx ?_; refine blk_put (cs := #[.string a0_0, .int .i64 a0_1, .string a0_2, .string a0_3, .int .i64 0, .int .i64 0, .string (⟨#[]⟩ : ByteArray), .string (⟨#[]⟩ : ByteArray)]) ?_ 4 _ rfl; refine bx ?_; refine blk_put (cs := #[.string a0_0, .int .i64 a0_1, .string a0_2, .string (⟨#[]⟩ : ByteArray), .int .i64 0, .int .i64 0, .string (⟨#[]⟩ : ByteArray), .string (⟨#[]⟩ : ByteArray)]) ?_ 3 _ rfl; refine bx ?_; refine blk_put (cs := #[.string a0_0, .int .i64 a0_1, .string (⟨#[]⟩ : ByteArray), .string (⟨#[]⟩ : ByteArray), .int .i64 0, .int .i64 0, .string (⟨#[]⟩ : ByteArray), .string (⟨#[]⟩ : ByteArray)]) ?_ 2 _ rfl; refine bx ?_; refine blk_put (cs := #[.string a0_0, .int .i64 0, .string (⟨#[]⟩ : ByteArray), .string (⟨#[]⟩ : ByteArray), .int .i64 0, .int .i64 0, .string (⟨#[]⟩ : ByteArray), .string (⟨#[]⟩ : ByteArray)]) ?_ 1 _ rfl; refine bx ?_; refine blk_put (cs := #[.string (⟨#[]⟩ : ByteArray), .int .i64 0, .string (⟨#[]⟩ : ByteArray), .string (⟨#[]⟩ : ByteArray), .int .i64 0, .int .i64 0, .string (⟨#[]⟩ : ByteArray), .string (⟨#[]⟩ : ByteArray)]) ?_ 0 _ rfl; refine bx ?_; refine blk_far ?_ NB134_135.out _; refine bx ?_; refine blk_far ?_ NB134_135.out _; refine bx ?_; refine blk_far ?_ NB134_135.out _; refine bx ?_; refine blk_far ?_ NB134_135.out _; refine bx ?_; refine blk_far ?_ NB134_135.out _; refine bx ?_; refine blk_far ?_ NB134_135.out _; refine bx ?_; refine blk_far ?_ NB134_135.out _; refine bx ?_; refine blk_far ?_ NB134_135.out _; refine bx ?_; exact BK134.out) Try.underlying39 rfl (by kernel_rfl)) rfl ?_
 exact ⟨exq, bw HB.out⟩

end Go.Proofs.Ytdkologncoofdaa.P
