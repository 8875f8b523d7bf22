/- Part 4 of the texts that the law FnTop reaches: contracts of the functions and plain lemmas. -/
import Derived.Test.YtdkologncoofdaaCFnTop2
import Derived.Test.YtdkologncoofdaaCFnTop3
-- Px23
namespace Go.Proofs.Ytdkologncoofdaa.P
open Go.RowKit Go.Proofs.YtdkologncoofdaaW.PrintWords Go.Proofs.YtdkologncoofdaaW.PrintLast Go.Proofs.YtdkologncoofdaaW.PrintMore
attribute [local go_sem] max2_int min2_int max_two min_two max_three min_three max_four min_four   -- for this text's walks alone
set_option linter.unusedVariables false
set_option linter.unusedSimpArgs false

/-! ### spec_l5Slot: function 99 -/
def spec_l5Slot.f (k : Nat) (s0_0 : List Int) (s0_1 : Int) : Option (ByteArray × Int) := (spec_l1Rd_of.f k s0_0 s0_1 (([(⟨#[115, 49]⟩ : ByteArray), (⟨#[115, 49]⟩ : ByteArray), (⟨#[115, 50]⟩ : ByteArray), (⟨#[115, 51]⟩ : ByteArray), (⟨#[107, 101, 103]⟩ : ByteArray)] : List ByteArray))).bind fun bt197 => (some (bt197.1, bt197.2))
theorem spec_l5Slot.mono : ∀ a0 a1 k, LeO (spec_l5Slot.f k a0 a1) (spec_l5Slot.f (k + 1) a0 a1) := by
 intro a0 a1 k
 unfold spec_l5Slot.f
 repeat' first
   | (with_reducible exact spec_l1Rd_of.mono _ _ _ _)
   | (with_reducible exact LeO.refl _)
   | (with_reducible exact LeO.none _)
   | (with_reducible refine LeO.ite ?_ ?_)
   | (with_reducible refine LeO.bind ?_ (fun _ => ?_))
   | exact spec_l1Rd_of.mono _ _ _ _
   | exact LeO.none _
   | refine LeO.ite ?_ ?_
   | refine LeO.bind ?_ (fun _ => ?_)
set_option maxHeartbeats 8000000 in
set_option maxRecDepth 100000 in
theorem spec_l5Slot.calls (k : Nat) (g : Nat) (s0_0 : List Int) (s0_1 : Int) (r1 : ByteArray) (r2 : Int) (w0 w : World) (hI : IsS107 w0 w g s0_0 s0_1) (hB : Below w0.heap.size w0 w) (h : spec_l5Slot.f k s0_0 s0_1 = some (r1, r2)) :
  Calls Try.prog 99 #[.pointer (some ⟨g, 0, none⟩)] w fun e w' => e = .returned (.string r1) ∧ IsS107 w0 w' g s0_0 r2 ∧ Below w0.heap.size w0 w' ∧ KeepBut w w' g none := by
 have HI0 := Aside0.mk hI
 have HK := Aside0.mk (KeepBut.refl w g none)
 have HL := Aside0.mk hB.size
 clear hI
 have HW0 := Aside0.mk hB.size
 have HB := Aside0.mk hB
 clear hB
 have H : ((spec_l1Rd_of.f k s0_0 s0_1 (([(⟨#[115, 49]⟩ : ByteArray), (⟨#[115, 49]⟩ : ByteArray), (⟨#[115, 50]⟩ : ByteArray), (⟨#[115, 51]⟩ : ByteArray), (⟨#[107, 101, 103]⟩ : ByteArray)] : List ByteArray))).bind fun bt197 => (some (bt197.1, bt197.2))) = some (r1, r2) := h
 clear h
 obtain ⟨y194, hy194⟩ : ∃ y_ : List ByteArray, y_ = (([(⟨#[115, 49]⟩ : ByteArray), (⟨#[115, 49]⟩ : ByteArray), (⟨#[115, 50]⟩ : ByteArray), (⟨#[115, 51]⟩ : ByteArray), (⟨#[107, 101, 103]⟩ : ByteArray)] : List ByteArray)) := ⟨_, rfl⟩
 replace H : ((spec_l1Rd_of.f k s0_0 s0_1 y194).bind fun bt197 => (some (bt197.1, bt197.2))) = some (r1, r2) := rpl H hy194
 have Ny194 := Aside0.mk hy194
 clear hy194
 replace H := Option.bind_eq_some_iff.mp H
 obtain ⟨⟨t197, t198⟩, A20, H⟩ := H
 try dsimp only at H
 have A2 := Aside0.mk A20
 clear A20
 simp only [Option.some.injEq, Prod.mk.injEq] at H
 obtain ⟨rfl, rfl⟩ := H
 go_enter Try.func99, Try.ntmps99
 go_wp2_with (first | ((with_reducible refine gate_dst (N := 4) rfl ?_); refine Kd.R_lit Kd.string _ 9 ?hg (N := 4) ?hd (xs := ([(⟨#[115, 49]⟩ : ByteArray), (⟨#[115, 49]⟩ : ByteArray), (⟨#[115, 50]⟩ : ByteArray), (⟨#[115, 51]⟩ : ByteArray), (⟨#[107, 101, 103]⟩ : ByteArray)] : List ByteArray)) (inner := [.string (⟨#[115, 49]⟩ : ByteArray), .string (⟨#[115, 49]⟩ : ByteArray), .string (⟨#[115, 50]⟩ : ByteArray), .string (⟨#[115, 51]⟩ : ByteArray), .string (⟨#[107, 101, 103]⟩ : ByteArray)]) (ok := fun _ => True) (okp := fun _ => True) ?hr ?hp (fun _ hk => hk) trivial (Below.refl _ _) (Nat.le_refl _) (by simp) ?_; (case hd => rfl); (case hg => rfl); (case hr => first | (go_simp; done) | (go_simp; rfl)); (case hp => exact (Reps.one (show Kd.M Kd.string _ _ _ (⟨#[115, 49]⟩ : ByteArray) [.string (⟨#[115, 49]⟩ : ByteArray)] from rfl) (Reps.one (show Kd.M Kd.string _ _ _ (⟨#[115, 49]⟩ : ByteArray) [.string (⟨#[115, 49]⟩ : ByteArray)] from rfl) (Reps.one (show Kd.M Kd.string _ _ _ (⟨#[115, 50]⟩ : ByteArray) [.string (⟨#[115, 50]⟩ : ByteArray)] from rfl) (Reps.one (show Kd.M Kd.string _ _ _ (⟨#[115, 51]⟩ : ByteArray) [.string (⟨#[115, 51]⟩ : ByteArray)] from rfl) (Reps.one (show Kd.M Kd.string _ _ _ (⟨#[107, 101, 103]⟩ : ByteArray) [.string (⟨#[107, 101, 103]⟩ : ByteArray)] from rfl) (Reps.none _ _))))))); intro v195 w3 ho4 hb hg_ hnew_; clear hg_ hnew_; (first | rw [← Ny194.out] at ho4 | (simp only [Int.reduceToNat] at ho4; rw [← Ny194.out] at ho4)); have t_ := And.intro (Aside0.mk (Kd.R_lower ho4 (keep_size (w := w) (g := g) (row := none) (kb HK.out)))) <| And.intro (Aside0.mk (IsS107.below (ib HI0.out) hb)) <| And.intro (kt HK (KeepBut.of_below hb g none)) <| (bsi HB hb); clear HI0 HK HB; obtain ⟨HO196, HI0, HK, HB⟩ := t_; clear hb ho4; obtain ⟨Ao5, co5, eo5⟩ := Kd.R_slice HO196.out; subst eo5) | ((with_reducible refine gate_callee (f := 80) rfl ?_); refine goesL_ (some 5) rfl rfl Try.func80 (by kernel_rfl) rfl #[.pointer (some ⟨g, 0, none⟩), .slice Ao5 y194.length co5] rfl mxp ?_; (with_reducible refine (spec_l1Rd_of.calls k g s0_0 s0_1 _ _ y194 t197 t198 w0 _ ?side1 ?side2 ?side3 ?side4 ?side5 A2.out).mono ?_); (case side1 => exact ib HI0.out); (case side2 => exact bi HB.out); (case side3 => exact cx (Kd.R_reads' HO196.out).2.2); (case side4 => exact (Kd.R_reads' HO196.out).2.1); (case side5 => exact far_slice (IsS107.own_ne HI0.out HO196.out (by decide))); rintro e w6 ⟨rfl, hi, hb, hk⟩; refine ⟨_, rfl, ?_⟩; have t_ := And.intro (Aside0.mk (Kd.R_mono (Kd.R_keep (IsS107.apart (show IsS107 w0 _ g s0_0 s0_1 from ib HI0.out) (rx HO196.out) (by decide)) hk (fun _ h => h.2)) (fun _ h => h.1))) <| And.intro (kt HK hk) <| And.intro (Aside0.mk (hb)) <| (Aside0.mk (hi)); clear HO196 HK HB HI0; obtain ⟨HO196, HK, HB, HI0⟩ := t_; (try clear hb); (try clear hb2); (try clear hk); (try clear hi)))
 go_ret
 exact ⟨exq, ib HI0.out, bi HB.out, kb HK.out⟩


/-! ### spec_l5Phase: function 79 -/
def spec_l5Phase.j0 : Nat → List ByteArray → List Int → Int → ByteArray → Int → ByteArray → ByteArray → Int → Int → ByteArray → ByteArray → Option (ByteArray × Int × ByteArray × ByteArray × Int × Int × ByteArray × ByteArray × Int)
 | 0, _, _, _, _, _, _, _, _, _, _, _ => none
 | k + 1, x2, x1000, x1001, x207000, x207001, x207002, x207003, x207004, x207005, x207006, x207007 => (some (([(⟨#[103, 111, 111, 100]⟩ : ByteArray), (⟨#[115, 97, 118, 101, 100]⟩ : ByteArray), (⟨#[115, 99, 114, 97, 112, 112, 101, 100]⟩ : ByteArray)] : List ByteArray) : List ByteArray)).bind fun y222 => (if y222.length + x2.length < 8796093022208 then ((some (y222 ++ x2 : List ByteArray)).bind fun y225 => ((spec_l1Rd_of.f k x1000 x1001 y225).bind fun bt228 => ((spec_l1Rd_of.f k x1000 bt228.2 y225).bind fun bt230 => (if (x2.length : Int) > 0 then ((spec_l1Rd_pick.f k x1000 bt230.2 4).bind fun bt232 => (if bt232.1 > 0 then (if 0 < (x2.length : Int) then (some (x207000, x207001, x207002, x207003, x207004, x207005, rdOf ByteArray.empty x2 0, bt230.1, bt232.2)) else (none)) else (some (x207000, x207001, x207002, x207003, x207004, x207005, bt228.1, bt230.1, bt232.2)))) else (some (x207000, x207001, x207002, x207003, x207004, x207005, bt228.1, bt230.1, bt230.2)))))) else (none))
def spec_l5Phase.f (k : Nat) (s0_0 : List Int) (s0_1 : Int) (a1 : ByteArray) (l2 : List ByteArray) : Option (ByteArray × Int × ByteArray × ByteArray × Int × Int × ByteArray × ByteArray × Int) := (spec_l1Rd_pick.f k s0_0 s0_1 5).bind fun bt200 => ((spec_l5Slot.f k s0_0 bt200.2).bind fun bt202 => ((spec_l1Rd_pick.f k s0_0 bt202.2 20).bind fun bt204 => (if (wrap64 (1 + bt200.1)) = 1 then ((spec_l1Rd_of.f k s0_0 bt204.2 (([(⟨#[97, 108, 101]⟩ : ByteArray), (⟨#[109, 97, 108, 116]⟩ : ByteArray)] : List ByteArray))).bind fun bt210 => ((spec_l1Rd_pick.f k s0_0 bt210.2 30).bind fun bt212 => (spec_l5Phase.j0 k l2 s0_0 bt212.2 a1 (wrap64 (1 + bt200.1)) bt202.1 bt210.1 (wrap64 (1 + bt212.1)) (wrap64 (1 + bt204.1)) (⟨#[]⟩ : ByteArray) (⟨#[]⟩ : ByteArray)))) else (if (wrap64 (1 + bt200.1)) = 2 then ((spec_l5Slot.f k s0_0 bt204.2).bind fun bt214 => (if bt214.1.toList = bt202.1.toList then ((spec_l1Rd_pick.f k s0_0 bt214.2 30).bind fun bt216 => (spec_l5Phase.j0 k l2 s0_0 bt216.2 a1 (wrap64 (1 + bt200.1)) bt202.1 (⟨#[118, 97, 116]⟩ : ByteArray) (wrap64 (1 + bt216.1)) (wrap64 (1 + bt204.1)) (⟨#[]⟩ : ByteArray) (⟨#[]⟩ : ByteArray))) else ((spec_l1Rd_pick.f k s0_0 bt214.2 30).bind fun bt218 => (spec_l5Phase.j0 k l2 s0_0 bt218.2 a1 (wrap64 (1 + bt200.1)) bt202.1 bt214.1 (wrap64 (1 + bt218.1)) (wrap64 (1 + bt204.1)) (⟨#[]⟩ : ByteArray) (⟨#[]⟩ : ByteArray))))) else (if (wrap64 (1 + bt200.1)) = 3 then ((spec_l1Rd_pick.f k s0_0 bt204.2 (wrap64 (1 + bt204.1))).bind fun bt220 => (spec_l5Phase.j0 k l2 s0_0 bt220.2 a1 (wrap64 (1 + bt200.1)) bt202.1 (⟨#[]⟩ : ByteArray) (wrap64 (1 + bt220.1)) (wrap64 (1 + bt204.1)) (⟨#[]⟩ : ByteArray) (⟨#[]⟩ : ByteArray))) else (spec_l5Phase.j0 k l2 s0_0 bt204.2 a1 (wrap64 (1 + bt200.1)) bt202.1 (⟨#[]⟩ : ByteArray) 0 (wrap64 (1 + bt204.1)) (⟨#[]⟩ : ByteArray) (⟨#[]⟩ : ByteArray)))))))
theorem spec_l5Phase.mono_l : ∀ k, (∀ y0 y1 y2 y3 y4 y5 y6 y7 y8 y9 y10, LeO (spec_l5Phase.j0 k y0 y1 y2 y3 y4 y5 y6 y7 y8 y9 y10) (spec_l5Phase.j0 (k + 1) y0 y1 y2 y3 y4 y5 y6 y7 y8 y9 y10))
 | 0 => fun _ _ _ _ _ _ _ _ _ _ _ r h => by simp [spec_l5Phase.j0] at h
 | k + 1 => by
  have ih0 := spec_l5Phase.mono_l k
  ·intro y0 y1 y2 y3 y4 y5 y6 y7 y8 y9 y10
   unfold spec_l5Phase.j0
   repeat' first
   | (with_reducible exact ih0 _ _ _ _ _ _ _ _ _ _ _)
   | (with_reducible exact spec_l1Rd_of.mono _ _ _ _)
   | (with_reducible exact spec_l1Rd_pick.mono _ _ _ _)
   | (with_reducible exact spec_l5Slot.mono _ _ _)
   | (with_reducible exact LeO.refl _)
   | (with_reducible exact LeO.none _)
   | (with_reducible refine LeO.ite ?_ ?_)
   | (with_reducible refine LeO.bind ?_ (fun _ => ?_))
   | exact ih0 _ _ _ _ _ _ _ _ _ _ _
   | exact spec_l1Rd_of.mono _ _ _ _
   | exact spec_l1Rd_pick.mono _ _ _ _
   | exact spec_l5Slot.mono _ _ _
   | exact LeO.none _
   | refine LeO.ite ?_ ?_
   | refine LeO.bind ?_ (fun _ => ?_)
theorem spec_l5Phase.mono : ∀ a0 a1 a2 a3 k, LeO (spec_l5Phase.f k a0 a1 a2 a3) (spec_l5Phase.f (k + 1) a0 a1 a2 a3) := by
 intro a0 a1 a2 a3 k
 have ih0 := spec_l5Phase.mono_l k
 unfold spec_l5Phase.f
 repeat' first
   | (with_reducible exact ih0 _ _ _ _ _ _ _ _ _ _ _)
   | (with_reducible exact spec_l1Rd_of.mono _ _ _ _)
   | (with_reducible exact spec_l1Rd_pick.mono _ _ _ _)
   | (with_reducible exact spec_l5Slot.mono _ _ _)
   | (with_reducible exact LeO.refl _)
   | (with_reducible exact LeO.none _)
   | (with_reducible refine LeO.ite ?_ ?_)
   | (with_reducible refine LeO.bind ?_ (fun _ => ?_))
   | exact ih0 _ _ _ _ _ _ _ _ _ _ _
   | exact spec_l1Rd_of.mono _ _ _ _
   | exact spec_l1Rd_pick.mono _ _ _ _
   | exact spec_l5Slot.mono _ _ _
   | exact LeO.none _
   | refine LeO.ite ?_ ?_
   | refine LeO.bind ?_ (fun _ => ?_)
set_option maxHeartbeats 8000000 in
set_option maxRecDepth 100000 in
theorem spec_l5Phase.calls (k : Nat) (g : Nat) (s0_0 : List Int) (s0_1 : Int) (a1 : ByteArray) (A2 : Option Addr) (c2 : Nat) (l2 : List ByteArray) (r1 : ByteArray) (r2 : Int) (r3 : ByteArray) (r4 : ByteArray) (r5 : Int) (r6 : Int) (r7 : ByteArray) (r8 : ByteArray) (r9 : Int) (w0 w : World) (hI : IsS107 w0 w g s0_0 s0_1) (hB : Below w0.heap.size w0 w) (hr2 : Kd.C Kd.string w A2 l2.length l2) (hc2 : l2.length ≤ c2) (hf2 : ∀ ad, A2 = some ad → 0 < l2.length → ad.block ≠ g) (h : spec_l5Phase.f k s0_0 s0_1 a1 l2 = some (r1, r2, r3, r4, r5, r6, r7, r8, r9)) :
  Calls Try.prog 79 #[.pointer (some ⟨g, 0, none⟩), .string a1, .slice A2 l2.length c2] w fun e w' => e = .returned (.agg #[.string r1, .int .i64 r2, .string r3, .string r4, .int .i64 r5, .int .i64 r6, .string r7, .string r8]) ∧ IsS107 w0 w' g s0_0 r9 ∧ Below w0.heap.size w0 w' ∧ KeepBut w w' g none := by
 have hu39 := Try.underlying39
 have HR2 := Aside0.mk hr2
 have HC2 := Aside0.mk hc2
 clear hr2 hc2
 have HI0 := Aside0.mk hI
 have HK := Aside0.mk (KeepBut.refl w g none)
 have HL := Aside0.mk hB.size
 clear hI
 have HW0 := Aside0.mk hB.size
 have HB := Aside0.mk hB
 clear hB
 have H : ((spec_l1Rd_pick.f k s0_0 s0_1 5).bind fun bt200 => ((spec_l5Slot.f k s0_0 bt200.2).bind fun bt202 => ((spec_l1Rd_pick.f k s0_0 bt202.2 20).bind fun bt204 => (if (wrap64 (1 + bt200.1)) = 1 then ((spec_l1Rd_of.f k s0_0 bt204.2 (([(⟨#[97, 108, 101]⟩ : ByteArray), (⟨#[109, 97, 108, 116]⟩ : ByteArray)] : List ByteArray))).bind fun bt210 => ((spec_l1Rd_pick.f k s0_0 bt210.2 30).bind fun bt212 => (spec_l5Phase.j0 k l2 s0_0 bt212.2 a1 (wrap64 (1 + bt200.1)) bt202.1 bt210.1 (wrap64 (1 + bt212.1)) (wrap64 (1 + bt204.1)) (⟨#[]⟩ : ByteArray) (⟨#[]⟩ : ByteArray)))) else (if (wrap64 (1 + bt200.1)) = 2 then ((spec_l5Slot.f k s0_0 bt204.2).bind fun bt214 => (if bt214.1.toList = bt202.1.toList then ((spec_l1Rd_pick.f k s0_0 bt214.2 30).bind fun bt216 => (spec_l5Phase.j0 k l2 s0_0 bt216.2 a1 (wrap64 (1 + bt200.1)) bt202.1 (⟨#[118, 97, 116]⟩ : ByteArray) (wrap64 (1 + bt216.1)) (wrap64 (1 + bt204.1)) (⟨#[]⟩ : ByteArray) (⟨#[]⟩ : ByteArray))) else ((spec_l1Rd_pick.f k s0_0 bt214.2 30).bind fun bt218 => (spec_l5Phase.j0 k l2 s0_0 bt218.2 a1 (wrap64 (1 + bt200.1)) bt202.1 bt214.1 (wrap64 (1 + bt218.1)) (wrap64 (1 + bt204.1)) (⟨#[]⟩ : ByteArray) (⟨#[]⟩ : ByteArray))))) else (if (wrap64 (1 + bt200.1)) = 3 then ((spec_l1Rd_pick.f k s0_0 bt204.2 (wrap64 (1 + bt204.1))).bind fun bt220 => (spec_l5Phase.j0 k l2 s0_0 bt220.2 a1 (wrap64 (1 + bt200.1)) bt202.1 (⟨#[]⟩ : ByteArray) (wrap64 (1 + bt220.1)) (wrap64 (1 + bt204.1)) (⟨#[]⟩ : ByteArray) (⟨#[]⟩ : ByteArray))) else (spec_l5Phase.j0 k l2 s0_0 bt204.2 a1 (wrap64 (1 + bt200.1)) bt202.1 (⟨#[]⟩ : ByteArray) 0 (wrap64 (1 + bt204.1)) (⟨#[]⟩ : ByteArray) (⟨#[]⟩ : ByteArray)))))))) = some (r1, r2, r3, r4, r5, r6, r7, r8, r9) := h
 clear h
 replace H := Option.bind_eq_some_iff.mp H
 obtain ⟨⟨t200, t201⟩, A40, H⟩ := H
 try dsimp only at H
 have A4 := Aside0.mk A40
 clear A40
 replace H := Option.bind_eq_some_iff.mp H
 obtain ⟨⟨t202, t203⟩, A50, H⟩ := H
 try dsimp only at H
 have A5 := Aside0.mk A50
 clear A50
 replace H := Option.bind_eq_some_iff.mp H
 obtain ⟨⟨t204, t205⟩, A60, H⟩ := H
 try dsimp only at H
 have A6 := Aside0.mk A60
 clear A60
 have HC7 := Aside0.mk H
 clear H
 go_enter Try.func79, Try.ntmps79
 go_upto_block 0 with (first | ((with_reducible refine gate_dst (N := 6) rfl ?_); refine box_event ?hg (N := 6) ?hd (cs := #[.string (⟨#[]⟩ : ByteArray), .int .i64 0, .string (⟨#[]⟩ : ByteArray), .string (⟨#[]⟩ : ByteArray), .int .i64 0, .int .i64 0, .string (⟨#[]⟩ : ByteArray), .string (⟨#[]⟩ : ByteArray)]) (t := 39) ?hr ?_; (case hd => rfl); (case hg => rfl); (case hr => first | (go_simp; done) | (go_simp; rfl)); intro gb199 hg w8 hbox hb; have t_ := And.intro (Aside0.mk (IsS107.below (ib HI0.out) hb)) <| And.intro (kt HK (KeepBut.of_below hb g none)) <| And.intro (bsi HB hb) <| And.intro (Aside0.mk (hbox)) <| And.intro (Aside0.mk ((by rw [hg]; exact (keep_size (w := w) (g := g) (row := none) (kb HK.out)) : w.heap.size ≤ gb199))) <| And.intro (Aside0.mk ((Nat.le_trans HW0.out (by rw [hg]; exact (keep_size (w := w) (g := g) (row := none) (kb HK.out)) : w.heap.size ≤ gb199) : w0.heap.size ≤ gb199))) <| And.intro (Aside0.mk ((by rw [hg]; exact Nat.ne_of_lt (IsS107.lt (show IsS107 w0 _ g s0_0 s0_1 from ib HI0.out)) : g ≠ gb199))) <| (Aside0.mk ((by rw [hg]; exact Nat.ne_of_gt (IsS107.lt (show IsS107 w0 _ g s0_0 s0_1 from ib HI0.out)) : gb199 ≠ g))); clear HI0 HK HB; obtain ⟨HI0, HK, HB, BK199, GW199, GE199, NB0_199, NB199_0⟩ := t_; clear hb hbox hg) | ((with_reducible refine gate_callee (f := 64) rfl ?_); refine goesL_ (some 11) rfl rfl Try.func64 (by kernel_rfl) rfl #[.pointer (some ⟨g, 0, none⟩), .int .i64 5] rfl mxp ?_; (with_reducible refine (spec_l1Rd_pick.calls k g s0_0 s0_1 5 t200 t201 w0 _ ?side1 ?side2 A4.out).mono ?_); (case side1 => exact ib HI0.out); (case side2 => exact bi HB.out); rintro e w9 ⟨rfl, hi, hb, hk⟩; refine ⟨_, rfl, ?_⟩; have t_ := And.intro (kp BK199 hk NB199_0) <| And.intro (kt HK hk) <| And.intro (Aside0.mk (hb)) <| (Aside0.mk (hi)); clear BK199 HK HB HI0; obtain ⟨BK199, HK, HB, HI0⟩ := t_; (try clear hb); (try clear hb2); (try clear hk); (try clear hi)) | ((with_reducible refine gate_callee (f := 99) rfl ?_); refine goesL_ (some 14) rfl rfl Try.func99 (by kernel_rfl) rfl #[.pointer (some ⟨g, 0, none⟩)] rfl mxp ?_; (with_reducible refine (spec_l5Slot.calls k g s0_0 t201 t202 t203 w0 _ ?side1 ?side2 A5.out).mono ?_); (case side1 => exact ib HI0.out); (case side2 => exact bi HB.out); rintro e w10 ⟨rfl, hi, hb, hk⟩; refine ⟨_, rfl, ?_⟩; have t_ := And.intro (kp BK199 hk NB199_0) <| And.intro (kt HK hk) <| And.intro (Aside0.mk (hb)) <| (Aside0.mk (hi)); clear BK199 HK HB HI0; obtain ⟨BK199, HK, HB, HI0⟩ := t_; (try clear hb); (try clear hb2); (try clear hk); (try clear hi)) | ((with_reducible refine gate_callee (f := 64) rfl ?_); refine goesL_ (some 16) rfl rfl Try.func64 (by kernel_rfl) rfl #[.pointer (some ⟨g, 0, none⟩), .int .i64 20] rfl mxp ?_; (with_reducible refine (spec_l1Rd_pick.calls k g s0_0 t203 20 t204 t205 w0 _ ?side1 ?side2 A6.out).mono ?_); (case side1 => exact ib HI0.out); (case side2 => exact bi HB.out); rintro e w11 ⟨rfl, hi, hb, hk⟩; refine ⟨_, rfl, ?_⟩; have t_ := And.intro (kp BK199 hk NB199_0) <| And.intro (kt HK hk) <| And.intro (Aside0.mk (hb)) <| (Aside0.mk (hi)); clear BK199 HK HB HI0; obtain ⟨BK199, HK, HB, HI0⟩ := t_; (try clear hb); (try clear hb2); (try clear hk); (try clear hi)) | ((with_reducible refine gate_dst (N := 7) rfl ?_); refine box_event ?hg (N := 7) ?hd (cs := #[.string (⟨#[]⟩ : ByteArray), .int .i64 0, .string (⟨#[]⟩ : ByteArray), .string (⟨#[]⟩ : ByteArray), .int .i64 0, .int .i64 0, .string (⟨#[]⟩ : ByteArray), .string (⟨#[]⟩ : ByteArray)]) (t := 39) ?hr ?_; (case hd => rfl); (case hg => rfl); (case hr => first | (go_simp; done) | (go_simp; rfl)); intro gb206 hg w12 hbox hb; have t_ := And.intro (Aside0.mk (IsS107.below (ib HI0.out) hb)) <| And.intro (up BK199 hb) <| And.intro (kt HK (KeepBut.of_below hb g none)) <| And.intro (bsi HB hb) <| And.intro (Aside0.mk (hbox)) <| And.intro (Aside0.mk ((by rw [hg]; exact (keep_size (w := w) (g := g) (row := none) (kb HK.out)) : w.heap.size ≤ gb206))) <| And.intro (Aside0.mk ((Nat.le_trans HW0.out (by rw [hg]; exact (keep_size (w := w) (g := g) (row := none) (kb HK.out)) : w.heap.size ≤ gb206) : w0.heap.size ≤ gb206))) <| And.intro (nlt' hg BK199) <| And.intro (ngt' hg BK199) <| And.intro (Aside0.mk ((by rw [hg]; exact Nat.ne_of_lt (IsS107.lt (show IsS107 w0 _ g s0_0 t205 from ib HI0.out)) : g ≠ gb206))) <| (Aside0.mk ((by rw [hg]; exact Nat.ne_of_gt (IsS107.lt (show IsS107 w0 _ g s0_0 t205 from ib HI0.out)) : gb206 ≠ g))); clear HI0 BK199 HK HB; obtain ⟨HI0, BK199, HK, HB, BK206, GW206, GE206, NB199_206, NB206_199, NB0_206, NB206_0⟩ := t_; clear hb hbox hg; have hnb13 := NB206_199.out; have hnc13 := NB199_206.out; have hnb14 := NB206_0.out; have hnc14 := NB0_206.out; have hcz15_0 := b0 BK206; have hcz15_1 := b1 BK206; have hcz15_2 := b2 BK206; have hcz15_3 := b3 BK206; have hcz15_4 := b4 BK206; have hcz15_5 := b5 BK206; have hcz15_6 := b6 BK206; have hcz15_7 := b7 BK206; have hfz15_0 := fz BK206 0; have hfz15_1 := fz BK206 1; have hfz15_2 := fz BK206 2; have hfz15_3 := fz BK206 3; have hfz15_4 := fz BK206 4; have hfz15_5 := fz BK206 5; have hfz15_6 := fz BK206 6; have hfz15_7 := fz BK206 7))
 (try simp only [Act.put, List.setIfInBounds_toArray, List.set_cons_zero, List.set_cons_succ])
 go_cut [] (fun wc => ∃ (kq : Nat) (x1001_6 : Int) (x207003_6 : ByteArray) (x207004_6 : Int), Aside0 (spec_l5Phase.j0 kq l2 s0_0 x1001_6 a1 (wrap64 (1 + t200)) t202 x207003_6 x207004_6 (wrap64 (1 + t204)) (⟨#[]⟩ : ByteArray) (⟨#[]⟩ : ByteArray) = some (r1, r2, r3, r4, r5, r6, r7, r8, r9)) ∧ Aside0 (kq ≤ k) ∧ Aside0 (wc.heap[gb199]? = some (.cells #[.string (⟨#[]⟩ : ByteArray), .int .i64 0, .string (⟨#[]⟩ : ByteArray), .string (⟨#[]⟩ : ByteArray), .int .i64 0, .int .i64 0, .string (⟨#[]⟩ : ByteArray), .string (⟨#[]⟩ : ByteArray)] 39 (0, 0))) ∧ Aside0 (wc.heap[gb206]? = some (.cells #[.string a1, .int .i64 (wrap64 (1 + t200)), .string t202, .string x207003_6, .int .i64 x207004_6, .int .i64 (wrap64 (1 + t204)), .string (⟨#[]⟩ : ByteArray), .string (⟨#[]⟩ : ByteArray)] 39 (0, 0))) ∧ Aside0 (IsS107 w0 wc g s0_0 x1001_6) ∧ Aside0 (KeepBut w wc g none) ∧ Aside0 (Below w0.heap.size w0 wc))
 case first =>
  have H := HC7.out
  clear HC7
  by_cases c16 : (wrap64 (1 + t200)) = 1
  ·rw [if_pos c16] at H
   have c16b0 : ((wrap64 (1 + t200)) == 1) = true := beq_iff_eq.mpr c16
   have c16b1 : ((wrap64 (1 + t200)) != 1) = false := bne_eq_false_iff_eq.mpr c16
   clear c16
   (first | rw [c16b0] | (simp only [i64_w, i32_w]; rw [c16b0]) | skip)
   obtain ⟨y207, hy207⟩ : ∃ y_ : List ByteArray, y_ = (([(⟨#[97, 108, 101]⟩ : ByteArray), (⟨#[109, 97, 108, 116]⟩ : ByteArray)] : List ByteArray)) := ⟨_, rfl⟩
   replace H : ((spec_l1Rd_of.f k s0_0 t205 y207).bind fun bt210 => ((spec_l1Rd_pick.f k s0_0 bt210.2 30).bind fun bt212 => (spec_l5Phase.j0 k l2 s0_0 bt212.2 a1 (wrap64 (1 + t200)) t202 bt210.1 (wrap64 (1 + bt212.1)) (wrap64 (1 + t204)) (⟨#[]⟩ : ByteArray) (⟨#[]⟩ : ByteArray)))) = some (r1, r2, r3, r4, r5, r6, r7, r8, r9) := rpl H hy207
   have Ny207 := Aside0.mk hy207
   clear hy207
   replace H := Option.bind_eq_some_iff.mp H
   obtain ⟨⟨t210, t211⟩, A170, H⟩ := H
   try dsimp only at H
   have A17 := Aside0.mk A170
   clear A170
   replace H := Option.bind_eq_some_iff.mp H
   obtain ⟨⟨t212, t213⟩, A180, H⟩ := H
   try dsimp only at H
   have A18 := Aside0.mk A180
   clear A180
   have H' := Aside0.mk H
   clear H
   go_wp2_with (first | ((with_reducible refine gate_dst (N := 24) rfl ?_); refine Kd.R_lit Kd.string _ 9 ?hg (N := 24) ?hd (xs := ([(⟨#[97, 108, 101]⟩ : ByteArray), (⟨#[109, 97, 108, 116]⟩ : ByteArray)] : List ByteArray)) (inner := [.string (⟨#[97, 108, 101]⟩ : ByteArray), .string (⟨#[109, 97, 108, 116]⟩ : ByteArray)]) (ok := fun _ => True) (okp := fun _ => True) ?hr ?hp (fun _ hk => hk) trivial (Below.refl _ _) (Nat.le_refl _) (by simp) ?_; (case hd => rfl); (case hg => rfl); (case hr => first | (go_simp; done) | (go_simp; rfl)); (case hp => exact (Reps.one (show Kd.M Kd.string _ _ _ (⟨#[97, 108, 101]⟩ : ByteArray) [.string (⟨#[97, 108, 101]⟩ : ByteArray)] from rfl) (Reps.one (show Kd.M Kd.string _ _ _ (⟨#[109, 97, 108, 116]⟩ : ByteArray) [.string (⟨#[109, 97, 108, 116]⟩ : ByteArray)] from rfl) (Reps.none _ _)))); intro v208 w19 ho20 hb hg_ hnew_; clear hg_ hnew_; (first | rw [← Ny207.out] at ho20 | (simp only [Int.reduceToNat] at ho20; rw [← Ny207.out] at ho20)); have t_ := And.intro (Aside0.mk (Kd.R_lower ho20 (keep_size (w := w) (g := g) (row := none) (kb HK.out)))) <| And.intro (Aside0.mk (IsS107.below (show IsS107 w0 ((((((((w12.setCell ⟨gb206, 0, none⟩ (.string a1)).setCell ⟨gb206, 1, none⟩ (.int .i64 (wrap64 (1 + t200)))).setCell ⟨gb206, 2, none⟩ (.string t202)).setCell ⟨gb206, 3, none⟩ (.string (⟨#[]⟩ : ByteArray))).setCell ⟨gb206, 4, none⟩ (.int .i64 0)).setCell ⟨gb206, 5, none⟩ (.int .i64 (wrap64 (1 + t204)))).setCell ⟨gb206, 6, none⟩ (.string (⟨#[]⟩ : ByteArray))).setCell ⟨gb206, 7, none⟩ (.string (⟨#[]⟩ : ByteArray))) g s0_0 t205 from ib HI0.out) hb)) <| And.intro (Aside0.mk (blk_below (g := gb199) (o := .cells #[.string (⟨#[]⟩ : ByteArray), .int .i64 0, .string (⟨#[]⟩ : ByteArray), .string (⟨#[]⟩ : ByteArray), .int .i64 0, .int .i64 0, .string (⟨#[]⟩ : ByteArray), .string (⟨#[]⟩ : ByteArray)] 39 (0, 0)) (by refine bx ?_; refine blk_far ?_ NB199_206.out _; refine bx ?_; refine blk_far ?_ NB199_206.out _; refine bx ?_; refine blk_far ?_ NB199_206.out _; refine bx ?_; refine blk_far ?_ NB199_206.out _; refine bx ?_; refine blk_far ?_ NB199_206.out _; refine bx ?_; refine blk_far ?_ NB199_206.out _; refine bx ?_; refine blk_far ?_ NB199_206.out _; refine bx ?_; refine blk_far ?_ NB199_206.out _; refine bx ?_; exact BK199.out) hb)) <| And.intro (Aside0.mk (blk_below (g := gb206) (o := .cells #[.string a1, .int .i64 (wrap64 (1 + t200)), .string t202, .string (⟨#[]⟩ : ByteArray), .int .i64 0, .int .i64 (wrap64 (1 + t204)), .string (⟨#[]⟩ : ByteArray), .string (⟨#[]⟩ : ByteArray)] 39 (0, 0)) (by refine bx ?_; refine blk_put (cs := #[.string a1, .int .i64 (wrap64 (1 + t200)), .string t202, .string (⟨#[]⟩ : ByteArray), .int .i64 0, .int .i64 (wrap64 (1 + t204)), .string (⟨#[]⟩ : ByteArray), .string (⟨#[]⟩ : ByteArray)]) ?_ 7 _ rfl; refine bx ?_; refine blk_put (cs := #[.string a1, .int .i64 (wrap64 (1 + t200)), .string t202, .string (⟨#[]⟩ : ByteArray), .int .i64 0, .int .i64 (wrap64 (1 + t204)), .string (⟨#[]⟩ : ByteArray), .string (⟨#[]⟩ : ByteArray)]) ?_ 6 _ rfl; refine bx ?_; refine blk_put (cs := #[.string a1, .int .i64 (wrap64 (1 + t200)), .string t202, .string (⟨#[]⟩ : ByteArray), .int .i64 0, .int .i64 0, .string (⟨#[]⟩ : ByteArray), .string (⟨#[]⟩ : ByteArray)]) ?_ 5 _ rfl; refine bx ?_; refine blk_put (cs := #[.string a1, .int .i64 (wrap64 (1 + t200)), .string t202, .string (⟨#[]⟩ : ByteArray), .int .i64 0, .int .i64 0, .string (⟨#[]⟩ : ByteArray), .string (⟨#[]⟩ : ByteArray)]) ?_ 4 _ rfl; refine bx ?_; refine blk_put (cs := #[.string a1, .int .i64 (wrap64 (1 + t200)), .string t202, .string (⟨#[]⟩ : ByteArray), .int .i64 0, .int .i64 0, .string (⟨#[]⟩ : ByteArray), .string (⟨#[]⟩ : ByteArray)]) ?_ 3 _ rfl; refine bx ?_; refine blk_put (cs := #[.string a1, .int .i64 (wrap64 (1 + t200)), .string (⟨#[]⟩ : ByteArray), .string (⟨#[]⟩ : ByteArray), .int .i64 0, .int .i64 0, .string (⟨#[]⟩ : ByteArray), .string (⟨#[]⟩ : ByteArray)]) ?_ 2 _ rfl; refine bx ?_; refine blk_put (cs := #[.string a1, .int .i64 0, .string (⟨#[]⟩ : ByteArray), .string (⟨#[]⟩ : ByteArray), .int .i64 0, .int .i64 0, .string (⟨#[]⟩ : ByteArray), .string (⟨#[]⟩ : ByteArray)]) ?_ 1 _ rfl; refine bx ?_; refine blk_put (cs := #[.string (⟨#[]⟩ : ByteArray), .int .i64 0, .string (⟨#[]⟩ : ByteArray), .string (⟨#[]⟩ : ByteArray), .int .i64 0, .int .i64 0, .string (⟨#[]⟩ : ByteArray), .string (⟨#[]⟩ : ByteArray)]) ?_ 0 _ rfl; refine bx ?_; exact BK206.out) hb)) <| And.intro (kt HK (KeepBut.of_below hb g none)) <| (bsi HB hb); clear HI0 BK199 BK206 HK HB; obtain ⟨HO209, HI0, BK199, BK206, HK, HB⟩ := t_; clear hb ho20; obtain ⟨Ao21, co21, eo21⟩ := Kd.R_slice HO209.out; subst eo21) | ((with_reducible refine gate_callee (f := 80) rfl ?_); refine goesL_ (some 25) rfl rfl Try.func80 (by kernel_rfl) rfl #[.pointer (some ⟨g, 0, none⟩), .slice Ao21 y207.length co21] rfl mxp ?_; (with_reducible refine (spec_l1Rd_of.calls k g s0_0 t205 _ _ y207 t210 t211 w0 _ ?side1 ?side2 ?side3 ?side4 ?side5 A17.out).mono ?_); (case side1 => exact ib HI0.out); (case side2 => exact bi HB.out); (case side3 => exact cx (Kd.R_reads' HO209.out).2.2); (case side4 => exact (Kd.R_reads' HO209.out).2.1); (case side5 => exact far_slice (IsS107.own_ne HI0.out HO209.out (by decide))); rintro e w22 ⟨rfl, hi, hb, hk⟩; refine ⟨_, rfl, ?_⟩; have t_ := And.intro (kp BK199 hk NB199_0) <| And.intro (kp BK206 hk NB206_0) <| And.intro (Aside0.mk (Kd.R_mono (Kd.R_keep (IsS107.apart (show IsS107 w0 _ g s0_0 t205 from ib HI0.out) (rx HO209.out) (by decide)) hk (fun _ h => h.2)) (fun _ h => h.1))) <| And.intro (kt HK hk) <| And.intro (Aside0.mk (hb)) <| (Aside0.mk (hi)); clear BK199 BK206 HO209 HK HB HI0; obtain ⟨BK199, BK206, HO209, HK, HB, HI0⟩ := t_; (try clear hb); (try clear hb2); (try clear hk); (try clear hi); have hnb23 := NB206_199.out; have hnc23 := NB199_206.out; have hnb24 := NB206_0.out; have hnc24 := NB0_206.out; have hcz25_0 := b0 BK206; have hcz25_1 := b1 BK206; have hcz25_2 := b2 BK206; have hcz25_3 := b3 BK206; have hcz25_4 := b4 BK206; have hcz25_5 := b5 BK206; have hcz25_6 := b6 BK206; have hcz25_7 := b7 BK206; have hfz25_0 := fz BK206 0; have hfz25_1 := fz BK206 1; have hfz25_2 := fz BK206 2; have hfz25_3 := fz BK206 3; have hfz25_4 := fz BK206 4; have hfz25_5 := fz BK206 5; have hfz25_6 := fz BK206 6; have hfz25_7 := fz BK206 7) | ((with_reducible refine gate_callee (f := 64) rfl ?_); refine goesL_ (some 28) rfl rfl Try.func64 (by kernel_rfl) rfl #[.pointer (some ⟨g, 0, none⟩), .int .i64 30] rfl mxp ?_; (with_reducible refine (spec_l1Rd_pick.calls k g s0_0 t211 30 t212 t213 w0 _ ?side1 ?side2 A18.out).mono ?_); (case side1 => exact ib HI0.out); (case side2 => exact bi HB.out); rintro e w26 ⟨rfl, hi, hb, hk⟩; refine ⟨_, rfl, ?_⟩; have t_ := And.intro (Aside0.mk (KeepBut.blk hk (g' := gb199) (o := .cells #[.string (⟨#[]⟩ : ByteArray), .int .i64 0, .string (⟨#[]⟩ : ByteArray), .string (⟨#[]⟩ : ByteArray), .int .i64 0, .int .i64 0, .string (⟨#[]⟩ : ByteArray), .string (⟨#[]⟩ : ByteArray)] 39 (0, 0)) (by refine bx ?_; refine blk_far ?_ NB199_206.out _; refine bx ?_; exact BK199.out) NB199_0.out (by simp))) <| And.intro (Aside0.mk (KeepBut.blk hk (g' := gb206) (o := .cells #[.string a1, .int .i64 (wrap64 (1 + t200)), .string t202, .string t210, .int .i64 0, .int .i64 (wrap64 (1 + t204)), .string (⟨#[]⟩ : ByteArray), .string (⟨#[]⟩ : ByteArray)] 39 (0, 0)) (by refine bx ?_; refine blk_put (cs := #[.string a1, .int .i64 (wrap64 (1 + t200)), .string t202, .string (⟨#[]⟩ : ByteArray), .int .i64 0, .int .i64 (wrap64 (1 + t204)), .string (⟨#[]⟩ : ByteArray), .string (⟨#[]⟩ : ByteArray)]) ?_ 3 _ rfl; refine bx ?_; exact BK206.out) NB206_0.out (by simp))) <| And.intro (Aside0.mk (Kd.R_mono (Kd.R_keep (IsS107.apart (show IsS107 w0 _ g s0_0 t211 from ib HI0.out) (by refine rx ?_; exact (Kd.R_mono (Kd.R_far (p := ⟨gb206, 3, none⟩) (Kd.R_types HO209.out BK206.out (by decide)) (fun _ hk => hk.2) (.string t210)) (fun _ h_ => h_.1))) (by decide)) hk (fun _ h => h.2)) (fun _ h => h.1))) <| And.intro (kt HK hk) <| And.intro (Aside0.mk (hb)) <| (Aside0.mk (hi)); clear BK199 BK206 HO209 HK HB HI0; obtain ⟨BK199, BK206, HO209, HK, HB, HI0⟩ := t_; (try clear hb); (try clear hb2); (try clear hk); (try clear hi); have hcz27_0 := b0 BK206; have hcz27_1 := b1 BK206; have hcz27_2 := b2 BK206; have hcz27_3 := b3 BK206; have hcz27_4 := b4 BK206; have hcz27_5 := b5 BK206; have hcz27_6 := b6 BK206; have hcz27_7 := b7 BK206; have hfz27_0 := fz BK206 0; have hfz27_1 := fz BK206 1; have hfz27_2 := fz BK206 2; have hfz27_3 := fz BK206 3; have hfz27_4 := fz BK206 4; have hfz27_5 := fz BK206 5; have hfz27_6 := fz BK206 6; have hfz27_7 := fz BK206 7))
   go_meet
   case rel => exact ⟨_, (t213), (t210), (wrap64 (1 + t212)), H', ⟨by first | omega | exact Nat.le_refl _⟩, ⟨by refine bx ?_; refine blk_far ?_ NB199_206.out _; refine bx ?_; exact BK199.out⟩, ⟨by refine bx ?_; refine blk_put (cs := #[.string a1, .int .i64 (wrap64 (1 + t200)), .string t202, .string t210, .int .i64 0, .int .i64 (wrap64 (1 + t204)), .string (⟨#[]⟩ : ByteArray), .string (⟨#[]⟩ : ByteArray)]) ?_ 4 _ rfl; refine bx ?_; exact BK206.out⟩, ⟨ib HI0.out⟩, ⟨kb HK.out⟩, (hbi HB)⟩
  ·rw [if_neg c16] at H
   have c16b0 : ((wrap64 (1 + t200)) == 1) = false := beq_eq_false_iff_ne.mpr c16
   have c16b1 : ((wrap64 (1 + t200)) != 1) = true := bne_iff_ne.mpr c16
   (first | rw [c16b0] | (simp only [i64_w, i32_w]; rw [c16b0]) | skip)
   by_cases c28 : (wrap64 (1 + t200)) = 2
   ·rw [if_pos c28] at H
    have c28b0 : ((wrap64 (1 + t200)) == 2) = true := beq_iff_eq.mpr c28
    have c28b1 : ((wrap64 (1 + t200)) != 2) = false := bne_eq_false_iff_eq.mpr c28
    clear c28
    replace H := Option.bind_eq_some_iff.mp H
    obtain ⟨⟨t214, t215⟩, A290, H⟩ := H
    try dsimp only at H
    have A29 := Aside0.mk A290
    clear A290
    by_cases c30 : t214.toList = t202.toList
    ·rw [if_pos c30] at H
     have c30b0 : (t214.toList == t202.toList) = true := beq_iff_eq.mpr c30
     have c30b1 : (t214.toList != t202.toList) = false := bne_eq_false_iff_eq.mpr c30
     clear c30
     replace H := Option.bind_eq_some_iff.mp H
     obtain ⟨⟨t216, t217⟩, A310, H⟩ := H
     try dsimp only at H
     have A31 := Aside0.mk A310
     clear A310
     have H' := Aside0.mk H
     clear H
     go_wp2_with (first | ((with_reducible refine gate_callee (f := 99) rfl ?_); refine goesL_ (some 34) rfl rfl Try.func99 (by kernel_rfl) rfl #[.pointer (some ⟨g, 0, none⟩)] rfl mxp ?_; (with_reducible refine (spec_l5Slot.calls k g s0_0 t205 t214 t215 w0 _ ?side1 ?side2 A29.out).mono ?_); (case side1 => exact ib HI0.out); (case side2 => exact bi HB.out); rintro e w32 ⟨rfl, hi, hb, hk⟩; refine ⟨_, rfl, ?_⟩; have t_ := And.intro (Aside0.mk (KeepBut.blk hk (g' := gb199) (o := .cells #[.string (⟨#[]⟩ : ByteArray), .int .i64 0, .string (⟨#[]⟩ : ByteArray), .string (⟨#[]⟩ : ByteArray), .int .i64 0, .int .i64 0, .string (⟨#[]⟩ : ByteArray), .string (⟨#[]⟩ : ByteArray)] 39 (0, 0)) (by refine bx ?_; refine blk_far ?_ NB199_206.out _; refine bx ?_; refine blk_far ?_ NB199_206.out _; refine bx ?_; refine blk_far ?_ NB199_206.out _; refine bx ?_; refine blk_far ?_ NB199_206.out _; refine bx ?_; refine blk_far ?_ NB199_206.out _; refine bx ?_; refine blk_far ?_ NB199_206.out _; refine bx ?_; refine blk_far ?_ NB199_206.out _; refine bx ?_; refine blk_far ?_ NB199_206.out _; refine bx ?_; exact BK199.out) NB199_0.out (by simp))) <| And.intro (Aside0.mk (KeepBut.blk hk (g' := gb206) (o := .cells #[.string a1, .int .i64 (wrap64 (1 + t200)), .string t202, .string (⟨#[]⟩ : ByteArray), .int .i64 0, .int .i64 (wrap64 (1 + t204)), .string (⟨#[]⟩ : ByteArray), .string (⟨#[]⟩ : ByteArray)] 39 (0, 0)) (by refine bx ?_; refine blk_put (cs := #[.string a1, .int .i64 (wrap64 (1 + t200)), .string t202, .string (⟨#[]⟩ : ByteArray), .int .i64 0, .int .i64 (wrap64 (1 + t204)), .string (⟨#[]⟩ : ByteArray), .string (⟨#[]⟩ : ByteArray)]) ?_ 7 _ rfl; refine bx ?_; refine blk_put (cs := #[.string a1, .int .i64 (wrap64 (1 + t200)), .string t202, .string (⟨#[]⟩ : ByteArray), .int .i64 0, .int .i64 (wrap64 (1 + t204)), .string (⟨#[]⟩ : ByteArray), .string (⟨#[]⟩ : ByteArray)]) ?_ 6 _ rfl; refine bx ?_; refine blk_put (cs := #[.string a1, .int .i64 (wrap64 (1 + t200)), .string t202, .string (⟨#[]⟩ : ByteArray), .int .i64 0, .int .i64 0, .string (⟨#[]⟩ : ByteArray), .string (⟨#[]⟩ : ByteArray)]) ?_ 5 _ rfl; refine bx ?_; refine blk_put (cs := #[.string a1, .int .i64 (wrap64 (1 + t200)), .string t202, .string (⟨#[]⟩ : ByteArray), .int .i64 0, .int .i64 0, .string (⟨#[]⟩ : ByteArray), .string (⟨#[]⟩ : ByteArray)]) ?_ 4 _ rfl; refine bx ?_; refine blk_put (cs := #[.string a1, .int .i64 (wrap64 (1 + t200)), .string t202, .string (⟨#[]⟩ : ByteArray), .int .i64 0, .int .i64 0, .string (⟨#[]⟩ : ByteArray), .string (⟨#[]⟩ : ByteArray)]) ?_ 3 _ rfl; refine bx ?_; refine blk_put (cs := #[.string a1, .int .i64 (wrap64 (1 + t200)), .string (⟨#[]⟩ : ByteArray), .string (⟨#[]⟩ : ByteArray), .int .i64 0, .int .i64 0, .string (⟨#[]⟩ : ByteArray), .string (⟨#[]⟩ : ByteArray)]) ?_ 2 _ rfl; refine bx ?_; refine blk_put (cs := #[.string a1, .int .i64 0, .string (⟨#[]⟩ : ByteArray), .string (⟨#[]⟩ : ByteArray), .int .i64 0, .int .i64 0, .string (⟨#[]⟩ : ByteArray), .string (⟨#[]⟩ : ByteArray)]) ?_ 1 _ rfl; refine bx ?_; refine blk_put (cs := #[.string (⟨#[]⟩ : ByteArray), .int .i64 0, .string (⟨#[]⟩ : ByteArray), .string (⟨#[]⟩ : ByteArray), .int .i64 0, .int .i64 0, .string (⟨#[]⟩ : ByteArray), .string (⟨#[]⟩ : ByteArray)]) ?_ 0 _ rfl; refine bx ?_; exact BK206.out) NB206_0.out (by simp))) <| And.intro (kt HK hk) <| And.intro (Aside0.mk (hb)) <| (Aside0.mk (hi)); clear BK199 BK206 HK HB HI0; obtain ⟨BK199, BK206, HK, HB, HI0⟩ := t_; (try clear hb); (try clear hb2); (try clear hk); (try clear hi); have hnb33 := NB206_199.out; have hnc33 := NB199_206.out; have hnb34 := NB206_0.out; have hnc34 := NB0_206.out; have hcz35_0 := b0 BK206; have hcz35_1 := b1 BK206; have hcz35_2 := b2 BK206; have hcz35_3 := b3 BK206; have hcz35_4 := b4 BK206; have hcz35_5 := b5 BK206; have hcz35_6 := b6 BK206; have hcz35_7 := b7 BK206; have hfz35_0 := fz BK206 0; have hfz35_1 := fz BK206 1; have hfz35_2 := fz BK206 2; have hfz35_3 := fz BK206 3; have hfz35_4 := fz BK206 4; have hfz35_5 := fz BK206 5; have hfz35_6 := fz BK206 6; have hfz35_7 := fz BK206 7) | ((with_reducible refine gate_callee (f := 64) rfl ?_); refine goesL_ (some 43) rfl rfl Try.func64 (by kernel_rfl) rfl #[.pointer (some ⟨g, 0, none⟩), .int .i64 30] rfl mxp ?_; (with_reducible refine (spec_l1Rd_pick.calls k g s0_0 t215 30 t216 t217 w0 _ ?side1 ?side2 A31.out).mono ?_); (case side1 => exact ib HI0.out); (case side2 => exact bi HB.out); rintro e w36 ⟨rfl, hi, hb, hk⟩; refine ⟨_, rfl, ?_⟩; have t_ := And.intro (Aside0.mk (KeepBut.blk hk (g' := gb199) (o := .cells #[.string (⟨#[]⟩ : ByteArray), .int .i64 0, .string (⟨#[]⟩ : ByteArray), .string (⟨#[]⟩ : ByteArray), .int .i64 0, .int .i64 0, .string (⟨#[]⟩ : ByteArray), .string (⟨#[]⟩ : ByteArray)] 39 (0, 0)) (by refine bx ?_; refine blk_far ?_ NB199_206.out _; refine bx ?_; refine blk_far ?_ NB199_206.out _; refine bx ?_; exact BK199.out) NB199_0.out (by simp))) <| And.intro (Aside0.mk (KeepBut.blk hk (g' := gb206) (o := .cells #[.string a1, .int .i64 (wrap64 (1 + t200)), .string t202, .string (⟨#[118, 97, 116]⟩ : ByteArray), .int .i64 0, .int .i64 (wrap64 (1 + t204)), .string (⟨#[]⟩ : ByteArray), .string (⟨#[]⟩ : ByteArray)] 39 (0, 0)) (by refine bx ?_; refine blk_put (cs := #[.string a1, .int .i64 (wrap64 (1 + t200)), .string t202, .string t214, .int .i64 0, .int .i64 (wrap64 (1 + t204)), .string (⟨#[]⟩ : ByteArray), .string (⟨#[]⟩ : ByteArray)]) ?_ 3 _ rfl; refine bx ?_; refine blk_put (cs := #[.string a1, .int .i64 (wrap64 (1 + t200)), .string t202, .string (⟨#[]⟩ : ByteArray), .int .i64 0, .int .i64 (wrap64 (1 + t204)), .string (⟨#[]⟩ : ByteArray), .string (⟨#[]⟩ : ByteArray)]) ?_ 3 _ rfl; refine bx ?_; exact BK206.out) NB206_0.out (by simp))) <| And.intro (kt HK hk) <| And.intro (Aside0.mk (hb)) <| (Aside0.mk (hi)); clear BK199 BK206 HK HB HI0; obtain ⟨BK199, BK206, HK, HB, HI0⟩ := t_; (try clear hb); (try clear hb2); (try clear hk); (try clear hi); have hcz37_0 := b0 BK206; have hcz37_1 := b1 BK206; have hcz37_2 := b2 BK206; have hcz37_3 := b3 BK206; have hcz37_4 := b4 BK206; have hcz37_5 := b5 BK206; have hcz37_6 := b6 BK206; have hcz37_7 := b7 BK206; have hfz37_0 := fz BK206 0; have hfz37_1 := fz BK206 1; have hfz37_2 := fz BK206 2; have hfz37_3 := fz BK206 3; have hfz37_4 := fz BK206 4; have hfz37_5 := fz BK206 5; have hfz37_6 := fz BK206 6; have hfz37_7 := fz BK206 7))
     go_meet
     case rel => exact ⟨_, (t217), ((⟨#[118, 97, 116]⟩ : ByteArray)), (wrap64 (1 + t216)), H', ⟨by first | omega | exact Nat.le_refl _⟩, ⟨by refine bx ?_; refine blk_far ?_ NB199_206.out _; refine bx ?_; exact BK199.out⟩, ⟨by refine bx ?_; refine blk_put (cs := #[.string a1, .int .i64 (wrap64 (1 + t200)), .string t202, .string (⟨#[118, 97, 116]⟩ : ByteArray), .int .i64 0, .int .i64 (wrap64 (1 + t204)), .string (⟨#[]⟩ : ByteArray), .string (⟨#[]⟩ : ByteArray)]) ?_ 4 _ rfl; refine bx ?_; exact BK206.out⟩, ⟨ib HI0.out⟩, ⟨kb HK.out⟩, (hbi HB)⟩
    ·rw [if_neg c30] at H
     have c30b0 : (t214.toList == t202.toList) = false := beq_eq_false_iff_ne.mpr c30
     have c30b1 : (t214.toList != t202.toList) = true := bne_iff_ne.mpr c30
     replace H := Option.bind_eq_some_iff.mp H
     obtain ⟨⟨t218, t219⟩, A380, H⟩ := H
     try dsimp only at H
     have A38 := Aside0.mk A380
     clear A380
     have H' := Aside0.mk H
     clear H
     go_wp2_with (first | ((with_reducible refine gate_callee (f := 99) rfl ?_); refine goesL_ (some 34) rfl rfl Try.func99 (by kernel_rfl) rfl #[.pointer (some ⟨g, 0, none⟩)] rfl mxp ?_; (with_reducible refine (spec_l5Slot.calls k g s0_0 t205 t214 t215 w0 _ ?side1 ?side2 A29.out).mono ?_); (case side1 => exact ib HI0.out); (case side2 => exact bi HB.out); rintro e w39 ⟨rfl, hi, hb, hk⟩; refine ⟨_, rfl, ?_⟩; have t_ := And.intro (Aside0.mk (KeepBut.blk hk (g' := gb199) (o := .cells #[.string (⟨#[]⟩ : ByteArray), .int .i64 0, .string (⟨#[]⟩ : ByteArray), .string (⟨#[]⟩ : ByteArray), .int .i64 0, .int .i64 0, .string (⟨#[]⟩ : ByteArray), .string (⟨#[]⟩ : ByteArray)] 39 (0, 0)) (by refine bx ?_; refine blk_far ?_ NB199_206.out _; refine bx ?_; refine blk_far ?_ NB199_206.out _; refine bx ?_; refine blk_far ?_ NB199_206.out _; refine bx ?_; refine blk_far ?_ NB199_206.out _; refine bx ?_; refine blk_far ?_ NB199_206.out _; refine bx ?_; refine blk_far ?_ NB199_206.out _; refine bx ?_; refine blk_far ?_ NB199_206.out _; refine bx ?_; refine blk_far ?_ NB199_206.out _; refine bx ?_; exact BK199.out) NB199_0.out (by simp))) <| And.intro (Aside0.mk (KeepBut.blk hk (g' := gb206) (o := .cells #[.string a1, .int .i64 (wrap64 (1 + t200)), .string t202, .string (⟨#[]⟩ : ByteArray), .int .i64 0, .int .i64 (wrap64 (1 + t204)), .string (⟨#[]⟩ : ByteArray), .string (⟨#[]⟩ : ByteArray)] 39 (0, 0)) (by refine bx ?_; refine blk_put (cs := #[.string a1, .int .i64 (wrap64 (1 + t200)), .string t202, .string (⟨#[]⟩ : ByteArray), .int .i64 0, .int .i64 (wrap64 (1 + t204)), .string (⟨#[]⟩ : ByteArray), .string (⟨#[]⟩ : ByteArray)]) ?_ 7 _ rfl; refine bx ?_; refine blk_put (cs := #[.string a1, .int .i64 (wrap64 (1 + t200)), .string t202, .string (⟨#[]⟩ : ByteArray), .int .i64 0, .int .i64 (wrap64 (1 + t204)), .string (⟨#[]⟩ : ByteArray), .string (⟨#[]⟩ : ByteArray)]) ?_ 6 _ rfl; refine bx ?_; refine blk_put (cs := #[.string a1, .int .i64 (wrap64 (1 + t200)), .string t202, .string (⟨#[]⟩ : ByteArray), .int .i64 0, .int .i64 0, .string (⟨#[]⟩ : ByteArray), .string (⟨#[]⟩ : ByteArray)]) ?_ 5 _ rfl; refine bx ?_; refine blk_put (cs := #[.string a1, .int .i64 (wrap64 (1 + t200)), .string t202, .string (⟨#[]⟩ : ByteArray), .int .i64 0, .int .i64 0, .string (⟨#[]⟩ : ByteArray), .string (⟨#[]⟩ : ByteArray)]) ?_ 4 _ rfl; refine bx ?_; refine blk_put (cs := #[.string a1, .int .i64 (wrap64 (1 + t200)), .string t202, .string (⟨#[]⟩ : ByteArray), .int .i64 0, .int .i64 0, .string (⟨#[]⟩ : ByteArray), .string (⟨#[]⟩ : ByteArray)]) ?_ 3 _ rfl; refine bx ?_; refine blk_put (cs := #[.string a1, .int .i64 (wrap64 (1 + t200)), .string (⟨#[]⟩ : ByteArray), .string (⟨#[]⟩ : ByteArray), .int .i64 0, .int .i64 0, .string (⟨#[]⟩ : ByteArray), .string (⟨#[]⟩ : ByteArray)]) ?_ 2 _ rfl; refine bx ?_; refine blk_put (cs := #[.string a1, .int .i64 0, .string (⟨#[]⟩ : ByteArray), .string (⟨#[]⟩ : ByteArray), .int .i64 0, .int .i64 0, .string (⟨#[]⟩ : ByteArray), .string (⟨#[]⟩ : ByteArray)]) ?_ 1 _ rfl; refine bx ?_; refine blk_put (cs := #[.string (⟨#[]⟩ : ByteArray), .int .i64 0, .string (⟨#[]⟩ : ByteArray), .string (⟨#[]⟩ : ByteArray), .int .i64 0, .int .i64 0, .string (⟨#[]⟩ : ByteArray), .string (⟨#[]⟩ : ByteArray)]) ?_ 0 _ rfl; refine bx ?_; exact BK206.out) NB206_0.out (by simp))) <| And.intro (kt HK hk) <| And.intro (Aside0.mk (hb)) <| (Aside0.mk (hi)); clear BK199 BK206 HK HB HI0; obtain ⟨BK199, BK206, HK, HB, HI0⟩ := t_; (try clear hb); (try clear hb2); (try clear hk); (try clear hi); have hnb40 := NB206_199.out; have hnc40 := NB199_206.out; have hnb41 := NB206_0.out; have hnc41 := NB0_206.out; have hcz42_0 := b0 BK206; have hcz42_1 := b1 BK206; have hcz42_2 := b2 BK206; have hcz42_3 := b3 BK206; have hcz42_4 := b4 BK206; have hcz42_5 := b5 BK206; have hcz42_6 := b6 BK206; have hcz42_7 := b7 BK206; have hfz42_0 := fz BK206 0; have hfz42_1 := fz BK206 1; have hfz42_2 := fz BK206 2; have hfz42_3 := fz BK206 3; have hfz42_4 := fz BK206 4; have hfz42_5 := fz BK206 5; have hfz42_6 := fz BK206 6; have hfz42_7 := fz BK206 7) | ((with_reducible refine gate_callee (f := 64) rfl ?_); refine goesL_ (some 43) rfl rfl Try.func64 (by kernel_rfl) rfl #[.pointer (some ⟨g, 0, none⟩), .int .i64 30] rfl mxp ?_; (with_reducible refine (spec_l1Rd_pick.calls k g s0_0 t215 30 t218 t219 w0 _ ?side1 ?side2 A38.out).mono ?_); (case side1 => exact ib HI0.out); (case side2 => exact bi HB.out); rintro e w43 ⟨rfl, hi, hb, hk⟩; refine ⟨_, rfl, ?_⟩; have t_ := And.intro (Aside0.mk (KeepBut.blk hk (g' := gb199) (o := .cells #[.string (⟨#[]⟩ : ByteArray), .int .i64 0, .string (⟨#[]⟩ : ByteArray), .string (⟨#[]⟩ : ByteArray), .int .i64 0, .int .i64 0, .string (⟨#[]⟩ : ByteArray), .string (⟨#[]⟩ : ByteArray)] 39 (0, 0)) (by refine bx ?_; refine blk_far ?_ NB199_206.out _; refine bx ?_; exact BK199.out) NB199_0.out (by simp))) <| And.intro (Aside0.mk (KeepBut.blk hk (g' := gb206) (o := .cells #[.string a1, .int .i64 (wrap64 (1 + t200)), .string t202, .string t214, .int .i64 0, .int .i64 (wrap64 (1 + t204)), .string (⟨#[]⟩ : ByteArray), .string (⟨#[]⟩ : ByteArray)] 39 (0, 0)) (by refine bx ?_; refine blk_put (cs := #[.string a1, .int .i64 (wrap64 (1 + t200)), .string t202, .string (⟨#[]⟩ : ByteArray), .int .i64 0, .int .i64 (wrap64 (1 + t204)), .string (⟨#[]⟩ : ByteArray), .string (⟨#[]⟩ : ByteArray)]) ?_ 3 _ rfl; refine bx ?_; exact BK206.out) NB206_0.out (by simp))) <| And.intro (kt HK hk) <| And.intro (Aside0.mk (hb)) <| (Aside0.mk (hi)); clear BK199 BK206 HK HB HI0; obtain ⟨BK199, BK206, HK, HB, HI0⟩ := t_; (try clear hb); (try clear hb2); (try clear hk); (try clear hi); have hcz44_0 := b0 BK206; have hcz44_1 := b1 BK206; have hcz44_2 := b2 BK206; have hcz44_3 := b3 BK206; have hcz44_4 := b4 BK206; have hcz44_5 := b5 BK206; have hcz44_6 := b6 BK206; have hcz44_7 := b7 BK206; have hfz44_0 := fz BK206 0; have hfz44_1 := fz BK206 1; have hfz44_2 := fz BK206 2; have hfz44_3 := fz BK206 3; have hfz44_4 := fz BK206 4; have hfz44_5 := fz BK206 5; have hfz44_6 := fz BK206 6; have hfz44_7 := fz BK206 7))
     go_meet
     case rel => exact ⟨_, (t219), (t214), (wrap64 (1 + t218)), H', ⟨by first | omega | exact Nat.le_refl _⟩, ⟨by refine bx ?_; refine blk_far ?_ NB199_206.out _; refine bx ?_; exact BK199.out⟩, ⟨by refine bx ?_; refine blk_put (cs := #[.string a1, .int .i64 (wrap64 (1 + t200)), .string t202, .string t214, .int .i64 0, .int .i64 (wrap64 (1 + t204)), .string (⟨#[]⟩ : ByteArray), .string (⟨#[]⟩ : ByteArray)]) ?_ 4 _ rfl; refine bx ?_; exact BK206.out⟩, ⟨ib HI0.out⟩, ⟨kb HK.out⟩, (hbi HB)⟩
   ·rw [if_neg c28] at H
    have c28b0 : ((wrap64 (1 + t200)) == 2) = false := beq_eq_false_iff_ne.mpr c28
    have c28b1 : ((wrap64 (1 + t200)) != 2) = true := bne_iff_ne.mpr c28
    by_cases c45 : (wrap64 (1 + t200)) = 3
    ·rw [if_pos c45] at H
     have c45b0 : ((wrap64 (1 + t200)) == 3) = true := beq_iff_eq.mpr c45
     have c45b1 : ((wrap64 (1 + t200)) != 3) = false := bne_eq_false_iff_eq.mpr c45
     clear c45
     replace H := Option.bind_eq_some_iff.mp H
     obtain ⟨⟨t220, t221⟩, A460, H⟩ := H
     try dsimp only at H
     have A46 := Aside0.mk A460
     clear A460
     have H' := Aside0.mk H
     clear H
     have hnb47 := NB206_199.out
     have hnc47 := NB199_206.out
     have hnb48 := NB206_0.out
     have hnc48 := NB0_206.out
     have hcz49_0 := b0 BK206
     have hcz49_1 := b1 BK206
     have hcz49_2 := b2 BK206
     have hcz49_3 := b3 BK206
     have hcz49_4 := b4 BK206
     have hcz49_5 := b5 BK206
     have hcz49_6 := b6 BK206
     have hcz49_7 := b7 BK206
     have hfz49_0 := fz BK206 0
     have hfz49_1 := fz BK206 1
     have hfz49_2 := fz BK206 2
     have hfz49_3 := fz BK206 3
     have hfz49_4 := fz BK206 4
     have hfz49_5 := fz BK206 5
     have hfz49_6 := fz BK206 6
     have hfz49_7 := fz BK206 7
     go_wp2_with (first | ((with_reducible refine gate_callee (f := 64) rfl ?_); refine goesL_ (some 51) rfl rfl Try.func64 (by kernel_rfl) rfl #[.pointer (some ⟨g, 0, none⟩), .int .i64 (wrap64 (1 + t204))] rfl mxp ?_; (with_reducible refine (spec_l1Rd_pick.calls k g s0_0 t205 (wrap64 (1 + t204)) t220 t221 w0 _ ?side1 ?side2 A46.out).mono ?_); (case side1 => exact ib HI0.out); (case side2 => exact bi HB.out); rintro e w50 ⟨rfl, hi, hb, hk⟩; refine ⟨_, rfl, ?_⟩; have t_ := And.intro (Aside0.mk (KeepBut.blk hk (g' := gb199) (o := .cells #[.string (⟨#[]⟩ : ByteArray), .int .i64 0, .string (⟨#[]⟩ : ByteArray), .string (⟨#[]⟩ : ByteArray), .int .i64 0, .int .i64 0, .string (⟨#[]⟩ : ByteArray), .string (⟨#[]⟩ : ByteArray)] 39 (0, 0)) (by refine bx ?_; refine blk_far ?_ NB199_206.out _; refine bx ?_; refine blk_far ?_ NB199_206.out _; refine bx ?_; refine blk_far ?_ NB199_206.out _; refine bx ?_; refine blk_far ?_ NB199_206.out _; refine bx ?_; refine blk_far ?_ NB199_206.out _; refine bx ?_; refine blk_far ?_ NB199_206.out _; refine bx ?_; refine blk_far ?_ NB199_206.out _; refine bx ?_; refine blk_far ?_ NB199_206.out _; refine bx ?_; exact BK199.out) NB199_0.out (by simp))) <| And.intro (Aside0.mk (KeepBut.blk hk (g' := gb206) (o := .cells #[.string a1, .int .i64 (wrap64 (1 + t200)), .string t202, .string (⟨#[]⟩ : ByteArray), .int .i64 0, .int .i64 (wrap64 (1 + t204)), .string (⟨#[]⟩ : ByteArray), .string (⟨#[]⟩ : ByteArray)] 39 (0, 0)) (by refine bx ?_; refine blk_put (cs := #[.string a1, .int .i64 (wrap64 (1 + t200)), .string t202, .string (⟨#[]⟩ : ByteArray), .int .i64 0, .int .i64 (wrap64 (1 + t204)), .string (⟨#[]⟩ : ByteArray), .string (⟨#[]⟩ : ByteArray)]) ?_ 7 _ rfl; refine bx ?_; refine blk_put (cs := #[.string a1, .int .i64 (wrap64 (1 + t200)), .string t202, .string (⟨#[]⟩ : ByteArray), .int .i64 0, .int .i64 (wrap64 (1 + t204)), .string (⟨#[]⟩ : ByteArray), .string (⟨#[]⟩ : ByteArray)]) ?_ 6 _ rfl; refine bx ?_; refine blk_put (cs := #[.string a1, .int .i64 (wrap64 (1 + t200)), .string t202, .string (⟨#[]⟩ : ByteArray), .int .i64 0, .int .i64 0, .string (⟨#[]⟩ : ByteArray), .string (⟨#[]⟩ : ByteArray)]) ?_ 5 _ rfl; refine bx ?_; refine blk_put (cs := #[.string a1, .int .i64 (wrap64 (1 + t200)), .string t202, .string (⟨#[]⟩ : ByteArray), .int .i64 0, .int .i64 0, .string (⟨#[]⟩ : ByteArray), .string (⟨#[]⟩ : ByteArray)]) ?_ 4 _ rfl; refine bx ?_; refine blk_put (cs := #[.string a1, .int .i64 (wrap64 (1 + t200)), .string t202, .string (⟨#[]⟩ : ByteArray), .int .i64 0, .int .i64 0, .string (⟨#[]⟩ : ByteArray), .string (⟨#[]⟩ : ByteArray)]) ?_ 3 _ rfl; refine bx ?_; refine blk_put (cs := #[.string a1, .int .i64 (wrap64 (1 + t200)), .string (⟨#[]⟩ : ByteArray), .string (⟨#[]⟩ : ByteArray), .int .i64 0, .int .i64 0, .string (⟨#[]⟩ : ByteArray), .string (⟨#[]⟩ : ByteArray)]) ?_ 2 _ rfl; refine bx ?_; refine blk_put (cs := #[.string a1, .int .i64 0, .string (⟨#[]⟩ : ByteArray), .string (⟨#[]⟩ : ByteArray), .int .i64 0, .int .i64 0, .string (⟨#[]⟩ : ByteArray), .string (⟨#[]⟩ : ByteArray)]) ?_ 1 _ rfl; refine bx ?_; refine blk_put (cs := #[.string (⟨#[]⟩ : ByteArray), .int .i64 0, .string (⟨#[]⟩ : ByteArray), .string (⟨#[]⟩ : ByteArray), .int .i64 0, .int .i64 0, .string (⟨#[]⟩ : ByteArray), .string (⟨#[]⟩ : ByteArray)]) ?_ 0 _ rfl; refine bx ?_; exact BK206.out) NB206_0.out (by simp))) <| And.intro (kt HK hk) <| And.intro (Aside0.mk (hb)) <| (Aside0.mk (hi)); clear BK199 BK206 HK HB HI0; obtain ⟨BK199, BK206, HK, HB, HI0⟩ := t_; (try clear hb); (try clear hb2); (try clear hk); (try clear hi); have hcz51_0 := b0 BK206; have hcz51_1 := b1 BK206; have hcz51_2 := b2 BK206; have hcz51_3 := b3 BK206; have hcz51_4 := b4 BK206; have hcz51_5 := b5 BK206; have hcz51_6 := b6 BK206; have hcz51_7 := b7 BK206; have hfz51_0 := fz BK206 0; have hfz51_1 := fz BK206 1; have hfz51_2 := fz BK206 2; have hfz51_3 := fz BK206 3; have hfz51_4 := fz BK206 4; have hfz51_5 := fz BK206 5; have hfz51_6 := fz BK206 6; have hfz51_7 := fz BK206 7))
     go_meet
     case rel => exact ⟨_, (t221), ((⟨#[]⟩ : ByteArray)), (wrap64 (1 + t220)), H', ⟨by first | omega | exact Nat.le_refl _⟩, ⟨by refine bx ?_; refine blk_far ?_ NB199_206.out _; refine bx ?_; exact BK199.out⟩, ⟨by refine bx ?_; refine blk_put (cs := #[.string a1, .int .i64 (wrap64 (1 + t200)), .string t202, .string (⟨#[]⟩ : ByteArray), .int .i64 0, .int .i64 (wrap64 (1 + t204)), .string (⟨#[]⟩ : ByteArray), .string (⟨#[]⟩ : ByteArray)]) ?_ 4 _ rfl; refine bx ?_; exact BK206.out⟩, ⟨ib HI0.out⟩, ⟨kb HK.out⟩, (hbi HB)⟩
    ·rw [if_neg c45] at H
     have c45b0 : ((wrap64 (1 + t200)) == 3) = false := beq_eq_false_iff_ne.mpr c45
     have c45b1 : ((wrap64 (1 + t200)) != 3) = true := bne_iff_ne.mpr c45
     have H' := Aside0.mk H
     clear H
     go_wp2
     go_meet
     case rel => exact ⟨_, (t205), ((⟨#[]⟩ : ByteArray)), (0), H', ⟨by first | omega | exact Nat.le_refl _⟩, ⟨by refine bx ?_; refine blk_far ?_ NB199_206.out _; refine bx ?_; refine blk_far ?_ NB199_206.out _; refine bx ?_; refine blk_far ?_ NB199_206.out _; refine bx ?_; refine blk_far ?_ NB199_206.out _; refine bx ?_; refine blk_far ?_ NB199_206.out _; refine bx ?_; refine blk_far ?_ NB199_206.out _; refine bx ?_; refine blk_far ?_ NB199_206.out _; refine bx ?_; refine blk_far ?_ NB199_206.out _; refine bx ?_; exact BK199.out⟩, ⟨by refine bx ?_; refine blk_put (cs := #[.string a1, .int .i64 (wrap64 (1 + t200)), .string t202, .string (⟨#[]⟩ : ByteArray), .int .i64 0, .int .i64 (wrap64 (1 + t204)), .string (⟨#[]⟩ : ByteArray), .string (⟨#[]⟩ : ByteArray)]) ?_ 7 _ rfl; refine bx ?_; refine blk_put (cs := #[.string a1, .int .i64 (wrap64 (1 + t200)), .string t202, .string (⟨#[]⟩ : ByteArray), .int .i64 0, .int .i64 (wrap64 (1 + t204)), .string (⟨#[]⟩ : ByteArray), .string (⟨#[]⟩ : ByteArray)]) ?_ 6 _ rfl; refine bx ?_; refine blk_put (cs := #[.string a1, .int .i64 (wrap64 (1 + t200)), .string t202, .string (⟨#[]⟩ : ByteArray), .int .i64 0, .int .i64 0, .string (⟨#[]⟩ : ByteArray), .string (⟨#[]⟩ : ByteArray)]) ?_ 5 _ rfl; refine bx ?_; refine blk_put (cs := #[.string a1, .int .i64 (wrap64 (1 + t200)), .string t202, .string (⟨#[]⟩ : ByteArray), .int .i64 0, .int .i64 0, .string (⟨#[]⟩ : ByteArray), .string (⟨#[]⟩ : ByteArray)]) ?_ 4 _ rfl; refine bx ?_; refine blk_put (cs := #[.string a1, .int .i64 (wrap64 (1 + t200)), .string t202, .string (⟨#[]⟩ : ByteArray), .int .i64 0, .int .i64 0, .string (⟨#[]⟩ : ByteArray), .string (⟨#[]⟩ : ByteArray)]) ?_ 3 _ rfl; refine bx ?_; refine blk_put (cs := #[.string a1, .int .i64 (wrap64 (1 + t200)), .string (⟨#[]⟩ : ByteArray), .string (⟨#[]⟩ : ByteArray), .int .i64 0, .int .i64 0, .string (⟨#[]⟩ : ByteArray), .string (⟨#[]⟩ : ByteArray)]) ?_ 2 _ rfl; refine bx ?_; refine blk_put (cs := #[.string a1, .int .i64 0, .string (⟨#[]⟩ : ByteArray), .string (⟨#[]⟩ : ByteArray), .int .i64 0, .int .i64 0, .string (⟨#[]⟩ : ByteArray), .string (⟨#[]⟩ : ByteArray)]) ?_ 1 _ rfl; refine bx ?_; refine blk_put (cs := #[.string (⟨#[]⟩ : ByteArray), .int .i64 0, .string (⟨#[]⟩ : ByteArray), .string (⟨#[]⟩ : ByteArray), .int .i64 0, .int .i64 0, .string (⟨#[]⟩ : ByteArray), .string (⟨#[]⟩ : ByteArray)]) ?_ 0 _ rfl; refine bx ?_; exact BK206.out⟩, ⟨ib HI0.out⟩, ⟨kb HK.out⟩, (hbi HB)⟩
 case rest =>
  clear HC7
  obtain ⟨kq, x1001_6, x207003_6, x207004_6, HA, HJ6, BK199, BK206, HI0, HK, HB⟩ := hcut
  cases kq with
  | zero => exact absurd HA.out (by simp [spec_l5Phase.j0])
  | succ kj6 =>
   have H := HA.out
   clear HA
   simp only [spec_l5Phase.j0] at H
   obtain ⟨y222, hy222⟩ : ∃ y_ : List ByteArray, y_ = (([(⟨#[103, 111, 111, 100]⟩ : ByteArray), (⟨#[115, 97, 118, 101, 100]⟩ : ByteArray), (⟨#[115, 99, 114, 97, 112, 112, 101, 100]⟩ : ByteArray)] : List ByteArray)) := ⟨_, rfl⟩
   replace H : (if y222.length + l2.length < 8796093022208 then ((some (y222 ++ l2 : List ByteArray)).bind fun y225 => ((spec_l1Rd_of.f kj6 s0_0 x1001_6 y225).bind fun bt228 => ((spec_l1Rd_of.f kj6 s0_0 bt228.2 y225).bind fun bt230 => (if (l2.length : Int) > 0 then ((spec_l1Rd_pick.f kj6 s0_0 bt230.2 4).bind fun bt232 => (if bt232.1 > 0 then (if 0 < (l2.length : Int) then (some (a1, (wrap64 (1 + t200)), t202, x207003_6, x207004_6, (wrap64 (1 + t204)), rdOf ByteArray.empty l2 0, bt230.1, bt232.2)) else (none)) else (some (a1, (wrap64 (1 + t200)), t202, x207003_6, x207004_6, (wrap64 (1 + t204)), bt228.1, bt230.1, bt232.2)))) else (some (a1, (wrap64 (1 + t200)), t202, x207003_6, x207004_6, (wrap64 (1 + t204)), bt228.1, bt230.1, bt230.2)))))) else (none)) = some (r1, r2, r3, r4, r5, r6, r7, r8, r9) := rpl H hy222
   have Ny222 := Aside0.mk hy222
   clear hy222
   by_cases c52 : y222.length + l2.length < 8796093022208
   ·rw [if_pos c52] at H
    have LMc52 := Aside0.mk c52
    clear c52
    obtain ⟨y225, hy225⟩ : ∃ y_ : List ByteArray, y_ = (y222 ++ l2) := ⟨_, rfl⟩
    replace H : ((spec_l1Rd_of.f kj6 s0_0 x1001_6 y225).bind fun bt228 => ((spec_l1Rd_of.f kj6 s0_0 bt228.2 y225).bind fun bt230 => (if (l2.length : Int) > 0 then ((spec_l1Rd_pick.f kj6 s0_0 bt230.2 4).bind fun bt232 => (if bt232.1 > 0 then (if 0 < (l2.length : Int) then (some (a1, (wrap64 (1 + t200)), t202, x207003_6, x207004_6, (wrap64 (1 + t204)), rdOf ByteArray.empty l2 0, bt230.1, bt232.2)) else (none)) else (some (a1, (wrap64 (1 + t200)), t202, x207003_6, x207004_6, (wrap64 (1 + t204)), bt228.1, bt230.1, bt232.2)))) else (some (a1, (wrap64 (1 + t200)), t202, x207003_6, x207004_6, (wrap64 (1 + t204)), bt228.1, bt230.1, bt230.2))))) = some (r1, r2, r3, r4, r5, r6, r7, r8, r9) := rpl H hy225
    have Ny225 := Aside0.mk hy225
    clear hy225
    replace H := Option.bind_eq_some_iff.mp H
    obtain ⟨⟨t228, t229⟩, A530, H⟩ := H
    try dsimp only at H
    have A53 := Aside0.mk A530
    clear A530
    replace H := Option.bind_eq_some_iff.mp H
    obtain ⟨⟨t230, t231⟩, A540, H⟩ := H
    try dsimp only at H
    have A54 := Aside0.mk A540
    clear A540
    by_cases c55 : (l2.length : Int) > 0
    ·rw [if_pos c55] at H
     have c55b0 : decide (0 < (l2.length : Int)) = true := decide_eq_true c55
     have c55b1 : decide (0 < l2.length) = true := decide_eq_true (by omega)
     clear c55
     replace H := Option.bind_eq_some_iff.mp H
     obtain ⟨⟨t232, t233⟩, A560, H⟩ := H
     try dsimp only at H
     have A56 := Aside0.mk A560
     clear A560
     by_cases c57 : t232 > 0
     ·rw [if_pos c57] at H
      have c57b0 : decide (0 < t232) = true := decide_eq_true c57
      clear c57
      by_cases c58 : 0 < (l2.length : Int)
      ·rw [if_pos c58] at H
       have c58b0 : decide (0 < (l2.length : Int)) = true := decide_eq_true c58
       have c58b1 : decide (0 < l2.length) = true := decide_eq_true (by omega)
       clear c58
       simp only [Option.some.injEq, Prod.mk.injEq] at H
       obtain ⟨rfl, rfl, rfl, rfl, rfl, rfl, rfl, rfl, rfl⟩ := H
       go_wp2_with (first | ((with_reducible refine gate_dst (N := 54) rfl ?_); refine Kd.R_lit Kd.string _ 9 ?hg (N := 54) ?hd (xs := ([(⟨#[103, 111, 111, 100]⟩ : ByteArray), (⟨#[115, 97, 118, 101, 100]⟩ : ByteArray), (⟨#[115, 99, 114, 97, 112, 112, 101, 100]⟩ : ByteArray)] : List ByteArray)) (inner := [.string (⟨#[103, 111, 111, 100]⟩ : ByteArray), .string (⟨#[115, 97, 118, 101, 100]⟩ : ByteArray), .string (⟨#[115, 99, 114, 97, 112, 112, 101, 100]⟩ : ByteArray)]) (ok := fun _ => True) (okp := fun _ => True) ?hr ?hp (fun _ hk => hk) trivial (Below.refl _ _) (Nat.le_refl _) (by simp) ?_; (case hd => rfl); (case hg => rfl); (case hr => first | (go_simp; done) | (go_simp; rfl)); (case hp => exact (Reps.one (show Kd.M Kd.string _ _ _ (⟨#[103, 111, 111, 100]⟩ : ByteArray) [.string (⟨#[103, 111, 111, 100]⟩ : ByteArray)] from rfl) (Reps.one (show Kd.M Kd.string _ _ _ (⟨#[115, 97, 118, 101, 100]⟩ : ByteArray) [.string (⟨#[115, 97, 118, 101, 100]⟩ : ByteArray)] from rfl) (Reps.one (show Kd.M Kd.string _ _ _ (⟨#[115, 99, 114, 97, 112, 112, 101, 100]⟩ : ByteArray) [.string (⟨#[115, 99, 114, 97, 112, 112, 101, 100]⟩ : ByteArray)] from rfl) (Reps.none _ _))))); intro v223 w59 ho60 hb hg_ hnew_; clear hg_ hnew_; (first | rw [← Ny222.out] at ho60 | (simp only [Int.reduceToNat] at ho60; rw [← Ny222.out] at ho60)); have t_ := And.intro (Aside0.mk (Kd.R_lower ho60 (keep_size (w := w) (g := g) (row := none) (kb HK.out)))) <| And.intro (up BK199 hb) <| And.intro (up BK206 hb) <| And.intro (Aside0.mk (IsS107.below (ib HI0.out) hb)) <| And.intro (kt HK (KeepBut.of_below hb g none)) <| (bsi HB hb); clear BK199 BK206 HI0 HK HB; obtain ⟨HO224, BK199, BK206, HI0, HK, HB⟩ := t_; clear hb ho60) | ((with_reducible refine gate_builtin (b := .append) (xs := #[.tmp 54, .tmp 55]) rfl ?_); at_builtin; refine Kd.R_append_rows Kd.string w.heap.size rfl (.tmp 54) (.tmp 55) 32 9 (.string ⟨#[]⟩) 16 rfl Try.underlying32 info9 rfl (by decide) (by omega) v223 y222 l2 _ _ _ (fun _ => True) (fun _ => False) rfl rfl ?aO ?aR (fun _ _ h => h) (fun _ h => h.elim) ?aF (Below.refl _ _) ?aS ?aL ?_; (case aR => exact Kd.C_keep (⟨#[]⟩ : ByteArray) HR2.out (kb HK.out) hf2); (case aF => exact (fun _ _ => trivial)); (case aO => exact (rx HO224.out)); (case aS => exact (keep_size (w := w) (g := g) (row := none) (kb HK.out))); (case aL => have := LMc52.out; omega); intro v226 w61 ho hb hg hat; rw [← Ny225.out] at ho; have t_ := And.intro (Aside0.mk (blk_grown (g := gb199) (o := .cells #[.string (⟨#[]⟩ : ByteArray), .int .i64 0, .string (⟨#[]⟩ : ByteArray), .string (⟨#[]⟩ : ByteArray), .int .i64 0, .int .i64 0, .string (⟨#[]⟩ : ByteArray), .string (⟨#[]⟩ : ByteArray)] 39 (0, 0)) (bx BK199.out) hg (Kd.R_ne HO224.out BK199.out (by decide)))) <| And.intro (Aside0.mk (blk_grown (g := gb206) (o := .cells #[.string a1, .int .i64 (wrap64 (1 + t200)), .string t202, .string x207003_6, .int .i64 x207004_6, .int .i64 (wrap64 (1 + t204)), .string (⟨#[]⟩ : ByteArray), .string (⟨#[]⟩ : ByteArray)] 39 (0, 0)) (bx BK206.out) hg (Kd.R_ne HO224.out BK206.out (by decide)))) <| And.intro (Aside0.mk (IsS107.grown (ib HI0.out) hg (IsS107.own_ne HI0.out HO224.out (by decide)))) <| And.intro (Aside0.mk (below_weaken (bi HB.out) HL.out hb)) <| And.intro (Aside0.mk (KeepBut.trans (kb HK.out) (KeepBut.of_grown hg g) (Kd.R_base2 HO224.out))) <| (Aside0.mk (ho)); clear BK199 BK206 HI0 HB HK HO224; obtain ⟨BK199, BK206, HI0, HB, HK, HO227⟩ := t_; clear ho hb hg hat; obtain ⟨Ao62, co62, eo62⟩ := Kd.R_slice HO227.out; subst eo62) | ((with_reducible refine gate_callee (f := 80) rfl ?_); refine goesL_ (some 59) rfl rfl Try.func80 (by kernel_rfl) rfl #[.pointer (some ⟨g, 0, none⟩), .slice Ao62 y225.length co62] rfl mxp ?_; (with_reducible refine (spec_l1Rd_of.calls kj6 g s0_0 x1001_6 _ _ y225 t228 t229 w0 _ ?side1 ?side2 ?side3 ?side4 ?side5 A53.out).mono ?_); (case side1 => exact ib HI0.out); (case side2 => exact bi HB.out); (case side3 => exact cx (Kd.R_reads' HO227.out).2.2); (case side4 => exact (Kd.R_reads' HO227.out).2.1); (case side5 => exact far_slice (IsS107.own_ne HI0.out HO227.out (by decide))); rintro e w63 ⟨rfl, hi, hb, hk⟩; refine ⟨_, rfl, ?_⟩; have t_ := And.intro (kp BK199 hk NB199_0) <| And.intro (kp BK206 hk NB206_0) <| And.intro (Aside0.mk (Kd.R_mono (Kd.R_keep (IsS107.apart (show IsS107 w0 _ g s0_0 x1001_6 from ib HI0.out) (rx HO227.out) (by decide)) hk (fun _ h => h.2)) (fun _ h => h.1))) <| And.intro (kt HK hk) <| And.intro (Aside0.mk (hb)) <| (Aside0.mk (hi)); clear BK199 BK206 HO227 HK HB HI0; obtain ⟨BK199, BK206, HO227, HK, HB, HI0⟩ := t_; (try clear hb); (try clear hb2); (try clear hk); (try clear hi); have hnb64 := NB206_199.out; have hnc64 := NB199_206.out; have hnb65 := NB206_0.out; have hnc65 := NB0_206.out; have hcz66_0 := b0 BK206; have hcz66_1 := b1 BK206; have hcz66_2 := b2 BK206; have hcz66_3 := b3 BK206; have hcz66_4 := b4 BK206; have hcz66_5 := b5 BK206; have hcz66_6 := b6 BK206; have hcz66_7 := b7 BK206; have hfz66_0 := fz BK206 0; have hfz66_1 := fz BK206 1; have hfz66_2 := fz BK206 2; have hfz66_3 := fz BK206 3; have hfz66_4 := fz BK206 4; have hfz66_5 := fz BK206 5; have hfz66_6 := fz BK206 6; have hfz66_7 := fz BK206 7) | ((with_reducible refine gate_callee (f := 80) rfl ?_); refine goesL_ (some 63) rfl rfl Try.func80 (by kernel_rfl) rfl #[.pointer (some ⟨g, 0, none⟩), .slice Ao62 y225.length co62] rfl mxp ?_; (with_reducible refine (spec_l1Rd_of.calls kj6 g s0_0 t229 _ _ y225 t230 t231 w0 _ ?side1 ?side2 ?side3 ?side4 ?side5 A54.out).mono ?_); (case side1 => exact ib HI0.out); (case side2 => exact bi HB.out); (case side3 => refine (Kd.R_reads' (e := 9) (base := w.heap.size) (ok := fun k_ => True) (n := y225.length) (c := co62) ?_).2.2; exact (by refine rx ?_; exact (Kd.R_mono (Kd.R_far (p := ⟨gb206, 6, none⟩) (Kd.R_types HO227.out BK206.out (by decide)) (fun _ hk => hk.2) (.string t228)) (fun _ h_ => h_.1)))); (case side4 => exact (Kd.R_reads' HO227.out).2.1); (case side5 => exact far_slice (IsS107.own_ne HI0.out HO227.out (by decide))); rintro e w67 ⟨rfl, hi, hb, hk⟩; refine ⟨_, rfl, ?_⟩; have t_ := And.intro (Aside0.mk (KeepBut.blk hk (g' := gb199) (o := .cells #[.string (⟨#[]⟩ : ByteArray), .int .i64 0, .string (⟨#[]⟩ : ByteArray), .string (⟨#[]⟩ : ByteArray), .int .i64 0, .int .i64 0, .string (⟨#[]⟩ : ByteArray), .string (⟨#[]⟩ : ByteArray)] 39 (0, 0)) (by refine bx ?_; refine blk_far ?_ NB199_206.out _; refine bx ?_; exact BK199.out) NB199_0.out (by simp))) <| And.intro (Aside0.mk (KeepBut.blk hk (g' := gb206) (o := .cells #[.string a1, .int .i64 (wrap64 (1 + t200)), .string t202, .string x207003_6, .int .i64 x207004_6, .int .i64 (wrap64 (1 + t204)), .string t228, .string (⟨#[]⟩ : ByteArray)] 39 (0, 0)) (by refine bx ?_; refine blk_put (cs := #[.string a1, .int .i64 (wrap64 (1 + t200)), .string t202, .string x207003_6, .int .i64 x207004_6, .int .i64 (wrap64 (1 + t204)), .string (⟨#[]⟩ : ByteArray), .string (⟨#[]⟩ : ByteArray)]) ?_ 6 _ rfl; refine bx ?_; exact BK206.out) NB206_0.out (by simp))) <| And.intro (Aside0.mk (Kd.R_mono (Kd.R_keep (IsS107.apart (show IsS107 w0 _ g s0_0 t229 from ib HI0.out) (by refine rx ?_; exact (Kd.R_mono (Kd.R_far (p := ⟨gb206, 6, none⟩) (Kd.R_types HO227.out BK206.out (by decide)) (fun _ hk => hk.2) (.string t228)) (fun _ h_ => h_.1))) (by decide)) hk (fun _ h => h.2)) (fun _ h => h.1))) <| And.intro (kt HK hk) <| And.intro (Aside0.mk (hb)) <| (Aside0.mk (hi)); clear BK199 BK206 HO227 HK HB HI0; obtain ⟨BK199, BK206, HO227, HK, HB, HI0⟩ := t_; (try clear hb); (try clear hb2); (try clear hk); (try clear hi); have hcz68_0 := b0 BK206; have hcz68_1 := b1 BK206; have hcz68_2 := b2 BK206; have hcz68_3 := b3 BK206; have hcz68_4 := b4 BK206; have hcz68_5 := b5 BK206; have hcz68_6 := b6 BK206; have hcz68_7 := b7 BK206; have hfz68_0 := fz BK206 0; have hfz68_1 := fz BK206 1; have hfz68_2 := fz BK206 2; have hfz68_3 := fz BK206 3; have hfz68_4 := fz BK206 4; have hfz68_5 := fz BK206 5; have hfz68_6 := fz BK206 6; have hfz68_7 := fz BK206 7) | (go_at_call 64; (with_reducible refine (spec_l1Rd_pick.calls kj6 g s0_0 t231 4 t232 t233 w0 _ ?side1 ?side2 A56.out).mono ?_); (case side1 => exact ib HI0.out); (case side2 => exact bi HB.out); rintro e w69 ⟨rfl, hi, hb, hk⟩; have t_ := And.intro (Aside0.mk (KeepBut.blk hk (g' := gb199) (o := .cells #[.string (⟨#[]⟩ : ByteArray), .int .i64 0, .string (⟨#[]⟩ : ByteArray), .string (⟨#[]⟩ : ByteArray), .int .i64 0, .int .i64 0, .string (⟨#[]⟩ : ByteArray), .string (⟨#[]⟩ : ByteArray)] 39 (0, 0)) (by refine bx ?_; refine blk_far ?_ NB199_206.out _; refine bx ?_; exact BK199.out) NB199_0.out (by simp))) <| And.intro (Aside0.mk (KeepBut.blk hk (g' := gb206) (o := .cells #[.string a1, .int .i64 (wrap64 (1 + t200)), .string t202, .string x207003_6, .int .i64 x207004_6, .int .i64 (wrap64 (1 + t204)), .string t228, .string t230] 39 (0, 0)) (by refine bx ?_; refine blk_put (cs := #[.string a1, .int .i64 (wrap64 (1 + t200)), .string t202, .string x207003_6, .int .i64 x207004_6, .int .i64 (wrap64 (1 + t204)), .string t228, .string (⟨#[]⟩ : ByteArray)]) ?_ 7 _ rfl; refine bx ?_; exact BK206.out) NB206_0.out (by simp))) <| And.intro (Aside0.mk (Kd.R_mono (Kd.R_keep (IsS107.apart (show IsS107 w0 _ g s0_0 t231 from ib HI0.out) (by refine rx ?_; exact (Kd.R_mono (Kd.R_far (p := ⟨gb206, 7, none⟩) (Kd.R_types HO227.out BK206.out (by decide)) (fun _ hk => hk.2) (.string t230)) (fun _ h_ => h_.1))) (by decide)) hk (fun _ h => h.2)) (fun _ h => h.1))) <| And.intro (kt HK hk) <| And.intro (Aside0.mk (hb)) <| (Aside0.mk (hi)); clear BK199 BK206 HO227 HK HB HI0; obtain ⟨BK199, BK206, HO227, HK, HB, HI0⟩ := t_; (try clear hb); (try clear hb2); (try clear hk); (try clear hi); have p234 : 0 ≤ (0 : Int) := (by omega); have q234 : 0 < (l2.length : Int) := oda; obtain ⟨ad234, e234, hx234_0⟩ := Kd.at_string HR2.out 0 p234 q234; cases e234; have qi234 : (0 < l2.length) = True := eq_true (by omega); (try rw [show ((0 : Int)).toNat = 0 from rfl] at hx234_0); (try rw [Addr.add_zero'] at hx234_0); replace hx234_0 := keep_cell HK.out hx234_0 (by first | (rw [add_block]; exact hf2 _ rfl (by omega)) | exact hf2 _ rfl (by omega) | exact hf2 ad234 rfl (by omega)); replace p234 := eq_true p234; replace q234 := eq_true q234; have hcz70_0 := b0 BK206; have hcz70_1 := b1 BK206; have hcz70_2 := b2 BK206; have hcz70_3 := b3 BK206; have hcz70_4 := b4 BK206; have hcz70_5 := b5 BK206; have hcz70_6 := b6 BK206; have hcz70_7 := b7 BK206; have hfz70_0 := fz BK206 0; have hfz70_1 := fz BK206 1; have hfz70_2 := fz BK206 2; have hfz70_3 := fz BK206 3; have hfz70_4 := fz BK206 4; have hfz70_5 := fz BK206 5; have hfz70_6 := fz BK206 6; have hfz70_7 := fz BK206 7; have hnb71 := NB199_0.out; have hnc71 := NB0_199.out; have hcz72_0 := b0 BK199; have hcz72_1 := b1 BK199; have hcz72_2 := b2 BK199; have hcz72_3 := b3 BK199; have hcz72_4 := b4 BK199; have hcz72_5 := b5 BK199; have hcz72_6 := b6 BK199; have hcz72_7 := b7 BK199; have hfz72_0 := fz BK199 0; have hfz72_1 := fz BK199 1; have hfz72_2 := fz BK199 2; have hfz72_3 := fz BK199 3; have hfz72_4 := fz BK199 4; have hfz72_5 := fz BK199 5; have hfz72_6 := fz BK199 6; have hfz72_7 := fz BK199 7))
       refine bodyPost_ret (results_cell_row rfl _ _ gb199 39 #[.string a1, .int .i64 (wrap64 (1 + t200)), .string t202, .string x207003_6, .int .i64 x207004_6, .int .i64 (wrap64 (1 + t204)), .string (rdOf ByteArray.empty l2 0), .string t230] (0, 0) _ rfl (by refine bx ?_; refine blk_put (cs := #[.string a1, .int .i64 (wrap64 (1 + t200)), .string t202, .string x207003_6, .int .i64 x207004_6, .int .i64 (wrap64 (1 + t204)), .string (rdOf ByteArray.empty l2 0), .string (⟨#[]⟩ : ByteArray)]) ?_ 7 _ rfl; refine bx ?_; refine blk_put (cs := #[.string a1, .int .i64 (wrap64 (1 + t200)), .string t202, .string x207003_6, .int .i64 x207004_6, .int .i64 (wrap64 (1 + t204)), .string (⟨#[]⟩ : ByteArray), .string (⟨#[]⟩ : ByteArray)]) ?_ 6 _ rfl; refine bx ?_; refine blk_put (cs := #[.string a1, .int .i64 (wrap64 (1 + t200)), .string t202, .string x207003_6, .int .i64 x207004_6, .int .i64 0, .string (⟨#[]⟩ : ByteArray), .string (⟨#[]⟩ : ByteArray)]) ?_ 5 _ rfl; refine bx ?_; refine blk_put (cs := #[.string a1, .int .i64 (wrap64 (1 + t200)), .string t202, .string x207003_6, .int .i64 0, .int .i64 0, .string (⟨#[]⟩ : ByteArray), .string (⟨#[]⟩ : ByteArray)]) ?_ 4 _ rfl; refine bx ?_; refine blk_put (cs := #[.string a1, .int .i64 (wrap64 (1 + t200)), .string t202, .string (⟨#[]⟩ : ByteArray), .int .i64 0, .int .i64 0, .string (⟨#[]⟩ : ByteArray), .string (⟨#[]⟩ : ByteArray)]) ?_ 3 _ rfl; refine bx ?_; refine blk_put (cs := #[.string a1, .int .i64 (wrap64 (1 + t200)), .string (⟨#[]⟩ : ByteArray), .string (⟨#[]⟩ : ByteArray), .int .i64 0, .int .i64 0, .string (⟨#[]⟩ : ByteArray), .string (⟨#[]⟩ : ByteArray)]) ?_ 2 _ rfl; refine bx ?_; refine blk_put (cs := #[.string a1, .int .i64 0, .string (⟨#[]⟩ : ByteArray), .string (⟨#[]⟩ : ByteArray), .int .i64 0, .int .i64 0, .string (⟨#[]⟩ : ByteArray), .string (⟨#[]⟩ : ByteArray)]) ?_ 1 _ rfl; refine bx ?_; refine blk_put (cs := #[.string (⟨#[]⟩ : ByteArray), .int .i64 0, .string (⟨#[]⟩ : ByteArray), .string (⟨#[]⟩ : ByteArray), .int .i64 0, .int .i64 0, .string (⟨#[]⟩ : ByteArray), .string (⟨#[]⟩ : ByteArray)]) ?_ 0 _ rfl; refine bx ?_; refine blk_far ?_ NB199_206.out _; refine bx ?_; exact BK199.out) Try.underlying39 rfl (by kernel_rfl)) rfl ?_
       exact ⟨exq, ib HI0.out, bi HB.out, kb HK.out⟩
      ·rw [if_neg c58] at H
       exact absurd H (by simp)
     ·rw [if_neg c57] at H
      have c57b0 : decide (0 < t232) = false := decide_eq_false c57
      clear c57
      simp only [Option.some.injEq, Prod.mk.injEq] at H
      obtain ⟨rfl, rfl, rfl, rfl, rfl, rfl, rfl, rfl, rfl⟩ := H
      go_wp2_with (first | ((with_reducible refine gate_dst (N := 54) rfl ?_); refine Kd.R_lit Kd.string _ 9 ?hg (N := 54) ?hd (xs := ([(⟨#[103, 111, 111, 100]⟩ : ByteArray), (⟨#[115, 97, 118, 101, 100]⟩ : ByteArray), (⟨#[115, 99, 114, 97, 112, 112, 101, 100]⟩ : ByteArray)] : List ByteArray)) (inner := [.string (⟨#[103, 111, 111, 100]⟩ : ByteArray), .string (⟨#[115, 97, 118, 101, 100]⟩ : ByteArray), .string (⟨#[115, 99, 114, 97, 112, 112, 101, 100]⟩ : ByteArray)]) (ok := fun _ => True) (okp := fun _ => True) ?hr ?hp (fun _ hk => hk) trivial (Below.refl _ _) (Nat.le_refl _) (by simp) ?_; (case hd => rfl); (case hg => rfl); (case hr => first | (go_simp; done) | (go_simp; rfl)); (case hp => exact (Reps.one (show Kd.M Kd.string _ _ _ (⟨#[103, 111, 111, 100]⟩ : ByteArray) [.string (⟨#[103, 111, 111, 100]⟩ : ByteArray)] from rfl) (Reps.one (show Kd.M Kd.string _ _ _ (⟨#[115, 97, 118, 101, 100]⟩ : ByteArray) [.string (⟨#[115, 97, 118, 101, 100]⟩ : ByteArray)] from rfl) (Reps.one (show Kd.M Kd.string _ _ _ (⟨#[115, 99, 114, 97, 112, 112, 101, 100]⟩ : ByteArray) [.string (⟨#[115, 99, 114, 97, 112, 112, 101, 100]⟩ : ByteArray)] from rfl) (Reps.none _ _))))); intro v223 w73 ho74 hb hg_ hnew_; clear hg_ hnew_; (first | rw [← Ny222.out] at ho74 | (simp only [Int.reduceToNat] at ho74; rw [← Ny222.out] at ho74)); have t_ := And.intro (Aside0.mk (Kd.R_lower ho74 (keep_size (w := w) (g := g) (row := none) (kb HK.out)))) <| And.intro (up BK199 hb) <| And.intro (up BK206 hb) <| And.intro (Aside0.mk (IsS107.below (ib HI0.out) hb)) <| And.intro (kt HK (KeepBut.of_below hb g none)) <| (bsi HB hb); clear BK199 BK206 HI0 HK HB; obtain ⟨HO224, BK199, BK206, HI0, HK, HB⟩ := t_; clear hb ho74) | ((with_reducible refine gate_builtin (b := .append) (xs := #[.tmp 54, .tmp 55]) rfl ?_); at_builtin; refine Kd.R_append_rows Kd.string w.heap.size rfl (.tmp 54) (.tmp 55) 32 9 (.string ⟨#[]⟩) 16 rfl Try.underlying32 info9 rfl (by decide) (by omega) v223 y222 l2 _ _ _ (fun _ => True) (fun _ => False) rfl rfl ?aO ?aR (fun _ _ h => h) (fun _ h => h.elim) ?aF (Below.refl _ _) ?aS ?aL ?_; (case aR => exact Kd.C_keep (⟨#[]⟩ : ByteArray) HR2.out (kb HK.out) hf2); (case aF => exact (fun _ _ => trivial)); (case aO => exact (rx HO224.out)); (case aS => exact (keep_size (w := w) (g := g) (row := none) (kb HK.out))); (case aL => have := LMc52.out; omega); intro v226 w75 ho hb hg hat; rw [← Ny225.out] at ho; have t_ := And.intro (Aside0.mk (blk_grown (g := gb199) (o := .cells #[.string (⟨#[]⟩ : ByteArray), .int .i64 0, .string (⟨#[]⟩ : ByteArray), .string (⟨#[]⟩ : ByteArray), .int .i64 0, .int .i64 0, .string (⟨#[]⟩ : ByteArray), .string (⟨#[]⟩ : ByteArray)] 39 (0, 0)) (bx BK199.out) hg (Kd.R_ne HO224.out BK199.out (by decide)))) <| And.intro (Aside0.mk (blk_grown (g := gb206) (o := .cells #[.string a1, .int .i64 (wrap64 (1 + t200)), .string t202, .string x207003_6, .int .i64 x207004_6, .int .i64 (wrap64 (1 + t204)), .string (⟨#[]⟩ : ByteArray), .string (⟨#[]⟩ : ByteArray)] 39 (0, 0)) (bx BK206.out) hg (Kd.R_ne HO224.out BK206.out (by decide)))) <| And.intro (Aside0.mk (IsS107.grown (ib HI0.out) hg (IsS107.own_ne HI0.out HO224.out (by decide)))) <| And.intro (Aside0.mk (below_weaken (bi HB.out) HL.out hb)) <| And.intro (Aside0.mk (KeepBut.trans (kb HK.out) (KeepBut.of_grown hg g) (Kd.R_base2 HO224.out))) <| (Aside0.mk (ho)); clear BK199 BK206 HI0 HB HK HO224; obtain ⟨BK199, BK206, HI0, HB, HK, HO227⟩ := t_; clear ho hb hg hat; obtain ⟨Ao76, co76, eo76⟩ := Kd.R_slice HO227.out; subst eo76) | ((with_reducible refine gate_callee (f := 80) rfl ?_); refine goesL_ (some 59) rfl rfl Try.func80 (by kernel_rfl) rfl #[.pointer (some ⟨g, 0, none⟩), .slice Ao76 y225.length co76] rfl mxp ?_; (with_reducible refine (spec_l1Rd_of.calls kj6 g s0_0 x1001_6 _ _ y225 t228 t229 w0 _ ?side1 ?side2 ?side3 ?side4 ?side5 A53.out).mono ?_); (case side1 => exact ib HI0.out); (case side2 => exact bi HB.out); (case side3 => exact cx (Kd.R_reads' HO227.out).2.2); (case side4 => exact (Kd.R_reads' HO227.out).2.1); (case side5 => exact far_slice (IsS107.own_ne HI0.out HO227.out (by decide))); rintro e w77 ⟨rfl, hi, hb, hk⟩; refine ⟨_, rfl, ?_⟩; have t_ := And.intro (kp BK199 hk NB199_0) <| And.intro (kp BK206 hk NB206_0) <| And.intro (Aside0.mk (Kd.R_mono (Kd.R_keep (IsS107.apart (show IsS107 w0 _ g s0_0 x1001_6 from ib HI0.out) (rx HO227.out) (by decide)) hk (fun _ h => h.2)) (fun _ h => h.1))) <| And.intro (kt HK hk) <| And.intro (Aside0.mk (hb)) <| (Aside0.mk (hi)); clear BK199 BK206 HO227 HK HB HI0; obtain ⟨BK199, BK206, HO227, HK, HB, HI0⟩ := t_; (try clear hb); (try clear hb2); (try clear hk); (try clear hi); have hnb78 := NB206_199.out; have hnc78 := NB199_206.out; have hnb79 := NB206_0.out; have hnc79 := NB0_206.out; have hcz80_0 := b0 BK206; have hcz80_1 := b1 BK206; have hcz80_2 := b2 BK206; have hcz80_3 := b3 BK206; have hcz80_4 := b4 BK206; have hcz80_5 := b5 BK206; have hcz80_6 := b6 BK206; have hcz80_7 := b7 BK206; have hfz80_0 := fz BK206 0; have hfz80_1 := fz BK206 1; have hfz80_2 := fz BK206 2; have hfz80_3 := fz BK206 3; have hfz80_4 := fz BK206 4; have hfz80_5 := fz BK206 5; have hfz80_6 := fz BK206 6; have hfz80_7 := fz BK206 7) | ((with_reducible refine gate_callee (f := 80) rfl ?_); refine goesL_ (some 63) rfl rfl Try.func80 (by kernel_rfl) rfl #[.pointer (some ⟨g, 0, none⟩), .slice Ao76 y225.length co76] rfl mxp ?_; (with_reducible refine (spec_l1Rd_of.calls kj6 g s0_0 t229 _ _ y225 t230 t231 w0 _ ?side1 ?side2 ?side3 ?side4 ?side5 A54.out).mono ?_); (case side1 => exact ib HI0.out); (case side2 => exact bi HB.out); (case side3 => refine (Kd.R_reads' (e := 9) (base := w.heap.size) (ok := fun k_ => True) (n := y225.length) (c := co76) ?_).2.2; exact (by refine rx ?_; exact (Kd.R_mono (Kd.R_far (p := ⟨gb206, 6, none⟩) (Kd.R_types HO227.out BK206.out (by decide)) (fun _ hk => hk.2) (.string t228)) (fun _ h_ => h_.1)))); (case side4 => exact (Kd.R_reads' HO227.out).2.1); (case side5 => exact far_slice (IsS107.own_ne HI0.out HO227.out (by decide))); rintro e w81 ⟨rfl, hi, hb, hk⟩; refine ⟨_, rfl, ?_⟩; have t_ := And.intro (Aside0.mk (KeepBut.blk hk (g' := gb199) (o := .cells #[.string (⟨#[]⟩ : ByteArray), .int .i64 0, .string (⟨#[]⟩ : ByteArray), .string (⟨#[]⟩ : ByteArray), .int .i64 0, .int .i64 0, .string (⟨#[]⟩ : ByteArray), .string (⟨#[]⟩ : ByteArray)] 39 (0, 0)) (by refine bx ?_; refine blk_far ?_ NB199_206.out _; refine bx ?_; exact BK199.out) NB199_0.out (by simp))) <| And.intro (Aside0.mk (KeepBut.blk hk (g' := gb206) (o := .cells #[.string a1, .int .i64 (wrap64 (1 + t200)), .string t202, .string x207003_6, .int .i64 x207004_6, .int .i64 (wrap64 (1 + t204)), .string t228, .string (⟨#[]⟩ : ByteArray)] 39 (0, 0)) (by refine bx ?_; refine blk_put (cs := #[.string a1, .int .i64 (wrap64 (1 + t200)), .string t202, .string x207003_6, .int .i64 x207004_6, .int .i64 (wrap64 (1 + t204)), .string (⟨#[]⟩ : ByteArray), .string (⟨#[]⟩ : ByteArray)]) ?_ 6 _ rfl; refine bx ?_; exact BK206.out) NB206_0.out (by simp))) <| And.intro (Aside0.mk (Kd.R_mono (Kd.R_keep (IsS107.apart (show IsS107 w0 _ g s0_0 t229 from ib HI0.out) (by refine rx ?_; exact (Kd.R_mono (Kd.R_far (p := ⟨gb206, 6, none⟩) (Kd.R_types HO227.out BK206.out (by decide)) (fun _ hk => hk.2) (.string t228)) (fun _ h_ => h_.1))) (by decide)) hk (fun _ h => h.2)) (fun _ h => h.1))) <| And.intro (kt HK hk) <| And.intro (Aside0.mk (hb)) <| (Aside0.mk (hi)); clear BK199 BK206 HO227 HK HB HI0; obtain ⟨BK199, BK206, HO227, HK, HB, HI0⟩ := t_; (try clear hb); (try clear hb2); (try clear hk); (try clear hi); have hcz82_0 := b0 BK206; have hcz82_1 := b1 BK206; have hcz82_2 := b2 BK206; have hcz82_3 := b3 BK206; have hcz82_4 := b4 BK206; have hcz82_5 := b5 BK206; have hcz82_6 := b6 BK206; have hcz82_7 := b7 BK206; have hfz82_0 := fz BK206 0; have hfz82_1 := fz BK206 1; have hfz82_2 := fz BK206 2; have hfz82_3 := fz BK206 3; have hfz82_4 := fz BK206 4; have hfz82_5 := fz BK206 5; have hfz82_6 := fz BK206 6; have hfz82_7 := fz BK206 7) | (go_at_call 64; (with_reducible refine (spec_l1Rd_pick.calls kj6 g s0_0 t231 4 t232 t233 w0 _ ?side1 ?side2 A56.out).mono ?_); (case side1 => exact ib HI0.out); (case side2 => exact bi HB.out); rintro e w83 ⟨rfl, hi, hb, hk⟩; have t_ := And.intro (Aside0.mk (KeepBut.blk hk (g' := gb199) (o := .cells #[.string (⟨#[]⟩ : ByteArray), .int .i64 0, .string (⟨#[]⟩ : ByteArray), .string (⟨#[]⟩ : ByteArray), .int .i64 0, .int .i64 0, .string (⟨#[]⟩ : ByteArray), .string (⟨#[]⟩ : ByteArray)] 39 (0, 0)) (by refine bx ?_; refine blk_far ?_ NB199_206.out _; refine bx ?_; exact BK199.out) NB199_0.out (by simp))) <| And.intro (Aside0.mk (KeepBut.blk hk (g' := gb206) (o := .cells #[.string a1, .int .i64 (wrap64 (1 + t200)), .string t202, .string x207003_6, .int .i64 x207004_6, .int .i64 (wrap64 (1 + t204)), .string t228, .string t230] 39 (0, 0)) (by refine bx ?_; refine blk_put (cs := #[.string a1, .int .i64 (wrap64 (1 + t200)), .string t202, .string x207003_6, .int .i64 x207004_6, .int .i64 (wrap64 (1 + t204)), .string t228, .string (⟨#[]⟩ : ByteArray)]) ?_ 7 _ rfl; refine bx ?_; exact BK206.out) NB206_0.out (by simp))) <| And.intro (Aside0.mk (Kd.R_mono (Kd.R_keep (IsS107.apart (show IsS107 w0 _ g s0_0 t231 from ib HI0.out) (by refine rx ?_; exact (Kd.R_mono (Kd.R_far (p := ⟨gb206, 7, none⟩) (Kd.R_types HO227.out BK206.out (by decide)) (fun _ hk => hk.2) (.string t230)) (fun _ h_ => h_.1))) (by decide)) hk (fun _ h => h.2)) (fun _ h => h.1))) <| And.intro (kt HK hk) <| And.intro (Aside0.mk (hb)) <| (Aside0.mk (hi)); clear BK199 BK206 HO227 HK HB HI0; obtain ⟨BK199, BK206, HO227, HK, HB, HI0⟩ := t_; (try clear hb); (try clear hb2); (try clear hk); (try clear hi); have hcz84_0 := b0 BK206; have hcz84_1 := b1 BK206; have hcz84_2 := b2 BK206; have hcz84_3 := b3 BK206; have hcz84_4 := b4 BK206; have hcz84_5 := b5 BK206; have hcz84_6 := b6 BK206; have hcz84_7 := b7 BK206; have hfz84_0 := fz BK206 0; have hfz84_1 := fz BK206 1; have hfz84_2 := fz BK206 2; have hfz84_3 := fz BK206 3; have hfz84_4 := fz BK206 4; have hfz84_5 := fz BK206 5; have hfz84_6 := fz BK206 6; have hfz84_7 := fz BK206 7; have hnb85 := NB199_0.out; have hnc85 := NB0_199.out; have hcz86_0 := b0 BK199; have hcz86_1 := b1 BK199; have hcz86_2 := b2 BK199; have hcz86_3 := b3 BK199; have hcz86_4 := b4 BK199; have hcz86_5 := b5 BK199; have hcz86_6 := b6 BK199; have hcz86_7 := b7 BK199; have hfz86_0 := fz BK199 0; have hfz86_1 := fz BK199 1; have hfz86_2 := fz BK199 2; have hfz86_3 := fz BK199 3; have hfz86_4 := fz BK199 4; have hfz86_5 := fz BK199 5; have hfz86_6 := fz BK199 6; have hfz86_7 := fz BK199 7))
      refine bodyPost_ret (results_cell_row rfl _ _ gb199 39 #[.string a1, .int .i64 (wrap64 (1 + t200)), .string t202, .string x207003_6, .int .i64 x207004_6, .int .i64 (wrap64 (1 + t204)), .string t228, .string t230] (0, 0) _ rfl (by refine bx ?_; refine blk_put (cs := #[.string a1, .int .i64 (wrap64 (1 + t200)), .string t202, .string x207003_6, .int .i64 x207004_6, .int .i64 (wrap64 (1 + t204)), .string t228, .string (⟨#[]⟩ : ByteArray)]) ?_ 7 _ rfl; refine bx ?_; refine blk_put (cs := #[.string a1, .int .i64 (wrap64 (1 + t200)), .string t202, .string x207003_6, .int .i64 x207004_6, .int .i64 (wrap64 (1 + t204)), .string (⟨#[]⟩ : ByteArray), .string (⟨#[]⟩ : ByteArray)]) ?_ 6 _ rfl; refine bx ?_; refine blk_put (cs := #[.string a1, .int .i64 (wrap64 (1 + t200)), .string t202, .string x207003_6, .int .i64 x207004_6, .int .i64 0, .string (⟨#[]⟩ : ByteArray), .string (⟨#[]⟩ : ByteArray)]) ?_ 5 _ rfl; refine bx ?_; refine blk_put (cs := #[.string a1, .int .i64 (wrap64 (1 + t200)), .string t202, .string x207003_6, .int .i64 0, .int .i64 0, .string (⟨#[]⟩ : ByteArray), .string (⟨#[]⟩ : ByteArray)]) ?_ 4 _ rfl; refine bx ?_; refine blk_put (cs := #[.string a1, .int .i64 (wrap64 (1 + t200)), .string t202, .string (⟨#[]⟩ : ByteArray), .int .i64 0, .int .i64 0, .string (⟨#[]⟩ : ByteArray), .string (⟨#[]⟩ : ByteArray)]) ?_ 3 _ rfl; refine bx ?_; refine blk_put (cs := #[.string a1, .int .i64 (wrap64 (1 + t200)), .string (⟨#[]⟩ : ByteArray), .string (⟨#[]⟩ : ByteArray), .int .i64 0, .int .i64 0, .string (⟨#[]⟩ : ByteArray), .string (⟨#[]⟩ : ByteArray)]) ?_ 2 _ rfl; refine bx ?_; refine blk_put (cs := #[.string a1, .int .i64 0, .string (⟨#[]⟩ : ByteArray), .string (⟨#[]⟩ : ByteArray), .int .i64 0, .int .i64 0, .string (⟨#[]⟩ : ByteArray), .string (⟨#[]⟩ : ByteArray)]) ?_ 1 _ rfl; refine bx ?_; refine blk_put (cs := #[.string (⟨#[]⟩ : ByteArray), .int .i64 0, .string (⟨#[]⟩ : ByteArray), .string (⟨#[]⟩ : ByteArray), .int .i64 0, .int .i64 0, .string (⟨#[]⟩ : ByteArray), .string (⟨#[]⟩ : ByteArray)]) ?_ 0 _ rfl; refine bx ?_; exact BK199.out) Try.underlying39 rfl (by kernel_rfl)) rfl ?_
      exact ⟨exq, ib HI0.out, bi HB.out, kb HK.out⟩
    ·rw [if_neg c55] at H
     have c55b0 : decide (0 < (l2.length : Int)) = false := decide_eq_false c55
     have c55b1 : decide (0 < l2.length) = false := decide_eq_false (by omega)
     clear c55
     simp only [Option.some.injEq, Prod.mk.injEq] at H
     obtain ⟨rfl, rfl, rfl, rfl, rfl, rfl, rfl, rfl, rfl⟩ := H
     go_wp2_with (first | ((with_reducible refine gate_dst (N := 54) rfl ?_); refine Kd.R_lit Kd.string _ 9 ?hg (N := 54) ?hd (xs := ([(⟨#[103, 111, 111, 100]⟩ : ByteArray), (⟨#[115, 97, 118, 101, 100]⟩ : ByteArray), (⟨#[115, 99, 114, 97, 112, 112, 101, 100]⟩ : ByteArray)] : List ByteArray)) (inner := [.string (⟨#[103, 111, 111, 100]⟩ : ByteArray), .string (⟨#[115, 97, 118, 101, 100]⟩ : ByteArray), .string (⟨#[115, 99, 114, 97, 112, 112, 101, 100]⟩ : ByteArray)]) (ok := fun _ => True) (okp := fun _ => True) ?hr ?hp (fun _ hk => hk) trivial (Below.refl _ _) (Nat.le_refl _) (by simp) ?_; (case hd => rfl); (case hg => rfl); (case hr => first | (go_simp; done) | (go_simp; rfl)); (case hp => exact (Reps.one (show Kd.M Kd.string _ _ _ (⟨#[103, 111, 111, 100]⟩ : ByteArray) [.string (⟨#[103, 111, 111, 100]⟩ : ByteArray)] from rfl) (Reps.one (show Kd.M Kd.string _ _ _ (⟨#[115, 97, 118, 101, 100]⟩ : ByteArray) [.string (⟨#[115, 97, 118, 101, 100]⟩ : ByteArray)] from rfl) (Reps.one (show Kd.M Kd.string _ _ _ (⟨#[115, 99, 114, 97, 112, 112, 101, 100]⟩ : ByteArray) [.string (⟨#[115, 99, 114, 97, 112, 112, 101, 100]⟩ : ByteArray)] from rfl) (Reps.none _ _))))); intro v223 w87 ho88 hb hg_ hnew_; clear hg_ hnew_; (first | rw [← Ny222.out] at ho88 | (simp only [Int.reduceToNat] at ho88; rw [← Ny222.out] at ho88)); have t_ := And.intro (Aside0.mk (Kd.R_lower ho88 (keep_size (w := w) (g := g) (row := none) (kb HK.out)))) <| And.intro (up BK199 hb) <| And.intro (up BK206 hb) <| And.intro (Aside0.mk (IsS107.below (ib HI0.out) hb)) <| And.intro (kt HK (KeepBut.of_below hb g none)) <| (bsi HB hb); clear BK199 BK206 HI0 HK HB; obtain ⟨HO224, BK199, BK206, HI0, HK, HB⟩ := t_; clear hb ho88) | ((with_reducible refine gate_builtin (b := .append) (xs := #[.tmp 54, .tmp 55]) rfl ?_); at_builtin; refine Kd.R_append_rows Kd.string w.heap.size rfl (.tmp 54) (.tmp 55) 32 9 (.string ⟨#[]⟩) 16 rfl Try.underlying32 info9 rfl (by decide) (by omega) v223 y222 l2 _ _ _ (fun _ => True) (fun _ => False) rfl rfl ?aO ?aR (fun _ _ h => h) (fun _ h => h.elim) ?aF (Below.refl _ _) ?aS ?aL ?_; (case aR => exact Kd.C_keep (⟨#[]⟩ : ByteArray) HR2.out (kb HK.out) hf2); (case aF => exact (fun _ _ => trivial)); (case aO => exact (rx HO224.out)); (case aS => exact (keep_size (w := w) (g := g) (row := none) (kb HK.out))); (case aL => have := LMc52.out; omega); intro v226 w89 ho hb hg hat; rw [← Ny225.out] at ho; have t_ := And.intro (Aside0.mk (blk_grown (g := gb199) (o := .cells #[.string (⟨#[]⟩ : ByteArray), .int .i64 0, .string (⟨#[]⟩ : ByteArray), .string (⟨#[]⟩ : ByteArray), .int .i64 0, .int .i64 0, .string (⟨#[]⟩ : ByteArray), .string (⟨#[]⟩ : ByteArray)] 39 (0, 0)) (bx BK199.out) hg (Kd.R_ne HO224.out BK199.out (by decide)))) <| And.intro (Aside0.mk (blk_grown (g := gb206) (o := .cells #[.string a1, .int .i64 (wrap64 (1 + t200)), .string t202, .string x207003_6, .int .i64 x207004_6, .int .i64 (wrap64 (1 + t204)), .string (⟨#[]⟩ : ByteArray), .string (⟨#[]⟩ : ByteArray)] 39 (0, 0)) (bx BK206.out) hg (Kd.R_ne HO224.out BK206.out (by decide)))) <| And.intro (Aside0.mk (IsS107.grown (ib HI0.out) hg (IsS107.own_ne HI0.out HO224.out (by decide)))) <| And.intro (Aside0.mk (below_weaken (bi HB.out) HL.out hb)) <| And.intro (Aside0.mk (KeepBut.trans (kb HK.out) (KeepBut.of_grown hg g) (Kd.R_base2 HO224.out))) <| (Aside0.mk (ho)); clear BK199 BK206 HI0 HB HK HO224; obtain ⟨BK199, BK206, HI0, HB, HK, HO227⟩ := t_; clear ho hb hg hat; obtain ⟨Ao90, co90, eo90⟩ := Kd.R_slice HO227.out; subst eo90) | ((with_reducible refine gate_callee (f := 80) rfl ?_); refine goesL_ (some 59) rfl rfl Try.func80 (by kernel_rfl) rfl #[.pointer (some ⟨g, 0, none⟩), .slice Ao90 y225.length co90] rfl mxp ?_; (with_reducible refine (spec_l1Rd_of.calls kj6 g s0_0 x1001_6 _ _ y225 t228 t229 w0 _ ?side1 ?side2 ?side3 ?side4 ?side5 A53.out).mono ?_); (case side1 => exact ib HI0.out); (case side2 => exact bi HB.out); (case side3 => exact cx (Kd.R_reads' HO227.out).2.2); (case side4 => exact (Kd.R_reads' HO227.out).2.1); (case side5 => exact far_slice (IsS107.own_ne HI0.out HO227.out (by decide))); rintro e w91 ⟨rfl, hi, hb, hk⟩; refine ⟨_, rfl, ?_⟩; have t_ := And.intro (kp BK199 hk NB199_0) <| And.intro (kp BK206 hk NB206_0) <| And.intro (Aside0.mk (Kd.R_mono (Kd.R_keep (IsS107.apart (show IsS107 w0 _ g s0_0 x1001_6 from ib HI0.out) (rx HO227.out) (by decide)) hk (fun _ h => h.2)) (fun _ h => h.1))) <| And.intro (kt HK hk) <| And.intro (Aside0.mk (hb)) <| (Aside0.mk (hi)); clear BK199 BK206 HO227 HK HB HI0; obtain ⟨BK199, BK206, HO227, HK, HB, HI0⟩ := t_; (try clear hb); (try clear hb2); (try clear hk); (try clear hi); have hnb92 := NB206_199.out; have hnc92 := NB199_206.out; have hnb93 := NB206_0.out; have hnc93 := NB0_206.out; have hcz94_0 := b0 BK206; have hcz94_1 := b1 BK206; have hcz94_2 := b2 BK206; have hcz94_3 := b3 BK206; have hcz94_4 := b4 BK206; have hcz94_5 := b5 BK206; have hcz94_6 := b6 BK206; have hcz94_7 := b7 BK206; have hfz94_0 := fz BK206 0; have hfz94_1 := fz BK206 1; have hfz94_2 := fz BK206 2; have hfz94_3 := fz BK206 3; have hfz94_4 := fz BK206 4; have hfz94_5 := fz BK206 5; have hfz94_6 := fz BK206 6; have hfz94_7 := fz BK206 7) | ((with_reducible refine gate_callee (f := 80) rfl ?_); refine goesL_ (some 63) rfl rfl Try.func80 (by kernel_rfl) rfl #[.pointer (some ⟨g, 0, none⟩), .slice Ao90 y225.length co90] rfl mxp ?_; (with_reducible refine (spec_l1Rd_of.calls kj6 g s0_0 t229 _ _ y225 t230 t231 w0 _ ?side1 ?side2 ?side3 ?side4 ?side5 A54.out).mono ?_); (case side1 => exact ib HI0.out); (case side2 => exact bi HB.out); (case side3 => refine (Kd.R_reads' (e := 9) (base := w.heap.size) (ok := fun k_ => True) (n := y225.length) (c := co90) ?_).2.2; exact (by refine rx ?_; exact (Kd.R_mono (Kd.R_far (p := ⟨gb206, 6, none⟩) (Kd.R_types HO227.out BK206.out (by decide)) (fun _ hk => hk.2) (.string t228)) (fun _ h_ => h_.1)))); (case side4 => exact (Kd.R_reads' HO227.out).2.1); (case side5 => exact far_slice (IsS107.own_ne HI0.out HO227.out (by decide))); rintro e w95 ⟨rfl, hi, hb, hk⟩; refine ⟨_, rfl, ?_⟩; have t_ := And.intro (Aside0.mk (KeepBut.blk hk (g' := gb199) (o := .cells #[.string (⟨#[]⟩ : ByteArray), .int .i64 0, .string (⟨#[]⟩ : ByteArray), .string (⟨#[]⟩ : ByteArray), .int .i64 0, .int .i64 0, .string (⟨#[]⟩ : ByteArray), .string (⟨#[]⟩ : ByteArray)] 39 (0, 0)) (by refine bx ?_; refine blk_far ?_ NB199_206.out _; refine bx ?_; exact BK199.out) NB199_0.out (by simp))) <| And.intro (Aside0.mk (KeepBut.blk hk (g' := gb206) (o := .cells #[.string a1, .int .i64 (wrap64 (1 + t200)), .string t202, .string x207003_6, .int .i64 x207004_6, .int .i64 (wrap64 (1 + t204)), .string t228, .string (⟨#[]⟩ : ByteArray)] 39 (0, 0)) (by refine bx ?_; refine blk_put (cs := #[.string a1, .int .i64 (wrap64 (1 + t200)), .string t202, .string x207003_6, .int .i64 x207004_6, .int .i64 (wrap64 (1 + t204)), .string (⟨#[]⟩ : ByteArray), .string (⟨#[]⟩ : ByteArray)]) ?_ 6 _ rfl; refine bx ?_; exact BK206.out) NB206_0.out (by simp))) <| And.intro (Aside0.mk (Kd.R_mono (Kd.R_keep (IsS107.apart (show IsS107 w0 _ g s0_0 t229 from ib HI0.out) (by refine rx ?_; exact (Kd.R_mono (Kd.R_far (p := ⟨gb206, 6, none⟩) (Kd.R_types HO227.out BK206.out (by decide)) (fun _ hk => hk.2) (.string t228)) (fun _ h_ => h_.1))) (by decide)) hk (fun _ h => h.2)) (fun _ h => h.1))) <| And.intro (kt HK hk) <| And.intro (Aside0.mk (hb)) <| (Aside0.mk (hi)); clear BK199 BK206 HO227 HK HB HI0; obtain ⟨BK199, BK206, HO227, HK, HB, HI0⟩ := t_; (try clear hb); (try clear hb2); (try clear hk); (try clear hi); have hcz96_0 := b0 BK206; have hcz96_1 := b1 BK206; have hcz96_2 := b2 BK206; have hcz96_3 := b3 BK206; have hcz96_4 := b4 BK206; have hcz96_5 := b5 BK206; have hcz96_6 := b6 BK206; have hcz96_7 := b7 BK206; have hfz96_0 := fz BK206 0; have hfz96_1 := fz BK206 1; have hfz96_2 := fz BK206 2; have hfz96_3 := fz BK206 3; have hfz96_4 := fz BK206 4; have hfz96_5 := fz BK206 5; have hfz96_6 := fz BK206 6; have hfz96_7 := fz BK206 7; have hnb97 := NB199_0.out; have hnc97 := NB0_199.out; have hcz98_0 := b0 BK199; have hcz98_1 := b1 BK199; have hcz98_2 := b2 BK199; have hcz98_3 := b3 BK199; have hcz98_4 := b4 BK199; have hcz98_5 := b5 BK199; have hcz98_6 := b6 BK199; have hcz98_7 := b7 BK199; have hfz98_0 := fz BK199 0; have hfz98_1 := fz BK199 1; have hfz98_2 := fz BK199 2; have hfz98_3 := fz BK199 3; have hfz98_4 := fz BK199 4; have hfz98_5 := fz BK199 5; have hfz98_6 := fz BK199 6; have hfz98_7 := fz BK199 7))
     refine bodyPost_ret (results_cell_row rfl _ _ gb199 39 #[.string a1, .int .i64 (wrap64 (1 + t200)), .string t202, .string x207003_6, .int .i64 x207004_6, .int .i64 (wrap64 (1 + t204)), .string t228, .string t230] (0, 0) _ rfl (by refine bx ?_; refine blk_put (cs := #[.string a1, .int .i64 (wrap64 (1 + t200)), .string t202, .string x207003_6, .int .i64 x207004_6, .int .i64 (wrap64 (1 + t204)), .string t228, .string (⟨#[]⟩ : ByteArray)]) ?_ 7 _ rfl; refine bx ?_; refine blk_put (cs := #[.string a1, .int .i64 (wrap64 (1 + t200)), .string t202, .string x207003_6, .int .i64 x207004_6, .int .i64 (wrap64 (1 + t204)), .string (⟨#[]⟩ : ByteArray), .string (⟨#[]⟩ : ByteArray)]) ?_ 6 _ rfl; refine bx ?_; refine blk_put (cs := #[.string a1, .int .i64 (wrap64 (1 + t200)), .string t202, .string x207003_6, .int .i64 x207004_6, .int .i64 0, .string (⟨#[]⟩ : ByteArray), .string (⟨#[]⟩ : ByteArray)]) ?_ 5 _ rfl; refine bx ?_; refine blk_put (cs := #[.string a1, .int .i64 (wrap64 (1 + t200)), .string t202, .string x207003_6, .int .i64 0, .int .i64 0, .string (⟨#[]⟩ : ByteArray), .string (⟨#[]⟩ : ByteArray)]) ?_ 4 _ rfl; refine bx ?_; refine blk_put (cs := #[.string a1, .int .i64 (wrap64 (1 + t200)), .string t202, .string (⟨#[]⟩ : ByteArray), .int .i64 0, .int .i64 0, .string (⟨#[]⟩ : ByteArray), .string (⟨#[]⟩ : ByteArray)]) ?_ 3 _ rfl; refine bx ?_; refine blk_put (cs := #[.string a1, .int .i64 (wrap64 (1 + t200)), .string (⟨#[]⟩ : ByteArray), .string (⟨#[]⟩ : ByteArray), .int .i64 0, .int .i64 0, .string (⟨#[]⟩ : ByteArray), .string (⟨#[]⟩ : ByteArray)]) ?_ 2 _ rfl; refine bx ?_; refine blk_put (cs := #[.string a1, .int .i64 0, .string (⟨#[]⟩ : ByteArray), .string (⟨#[]⟩ : ByteArray), .int .i64 0, .int .i64 0, .string (⟨#[]⟩ : ByteArray), .string (⟨#[]⟩ : ByteArray)]) ?_ 1 _ rfl; refine bx ?_; refine blk_put (cs := #[.string (⟨#[]⟩ : ByteArray), .int .i64 0, .string (⟨#[]⟩ : ByteArray), .string (⟨#[]⟩ : ByteArray), .int .i64 0, .int .i64 0, .string (⟨#[]⟩ : ByteArray), .string (⟨#[]⟩ : ByteArray)]) ?_ 0 _ rfl; refine bx ?_; refine blk_far ?_ NB199_206.out _; refine bx ?_; exact BK199.out) Try.underlying39 rfl (by kernel_rfl)) rfl ?_
     exact ⟨exq, ib HI0.out, bi HB.out, kb HK.out⟩
   ·rw [if_neg c52] at H
    exact absurd H (by simp)


/-! ### spec_l5Names: function 81 -/
def spec_l5Names.f  : Option (List ByteArray) := some (([(⟨#[98, 114, 101, 119]⟩ : ByteArray), (⟨#[102, 49]⟩ : ByteArray), (⟨#[102, 50]⟩ : ByteArray), (⟨#[103]⟩ : ByteArray), (⟨#[104]⟩ : ByteArray), (⟨#[109, 97, 115, 104]⟩ : ByteArray), (⟨#[114, 101, 115, 116]⟩ : ByteArray), (⟨#[120, 45, 57]⟩ : ByteArray)] : List ByteArray))
set_option maxHeartbeats 8000000 in
set_option maxRecDepth 100000 in
theorem spec_l5Names.calls  (r : List ByteArray) (w : World) (h : spec_l5Names.f  = some r) :
  Calls Try.prog 81 #[] w fun e w' => ∃ v0_ : Value, e = .returned (v0_) ∧ Kd.R Kd.string 9 w' w.heap.size (fun _ => True) v0_ r ∧ Below w.heap.size w w' := by
 have HB := Aside0.mk (Below.refl w.heap.size w)
 have H : (some (([(⟨#[98, 114, 101, 119]⟩ : ByteArray), (⟨#[102, 49]⟩ : ByteArray), (⟨#[102, 50]⟩ : ByteArray), (⟨#[103]⟩ : ByteArray), (⟨#[104]⟩ : ByteArray), (⟨#[109, 97, 115, 104]⟩ : ByteArray), (⟨#[114, 101, 115, 116]⟩ : ByteArray), (⟨#[120, 45, 57]⟩ : ByteArray)] : List ByteArray))) = some r := h
 clear h
 obtain ⟨y235, hy235⟩ : ∃ y_ : List ByteArray, y_ = (([(⟨#[98, 114, 101, 119]⟩ : ByteArray), (⟨#[102, 49]⟩ : ByteArray), (⟨#[102, 50]⟩ : ByteArray), (⟨#[103]⟩ : ByteArray), (⟨#[104]⟩ : ByteArray), (⟨#[109, 97, 115, 104]⟩ : ByteArray), (⟨#[114, 101, 115, 116]⟩ : ByteArray), (⟨#[120, 45, 57]⟩ : ByteArray)] : List ByteArray)) := ⟨_, rfl⟩
 replace H : (some y235) = some r := rpl H hy235
 have Ny235 := Aside0.mk hy235
 clear hy235
 obtain rfl := Option.some.inj H
 go_enter Try.func81, Try.ntmps81
 go_wp2_with (first | ((with_reducible refine gate_dst (N := 1) rfl ?_); refine Kd.R_lit Kd.string _ 9 ?hg (N := 1) ?hd (xs := ([(⟨#[98, 114, 101, 119]⟩ : ByteArray), (⟨#[102, 49]⟩ : ByteArray), (⟨#[102, 50]⟩ : ByteArray), (⟨#[103]⟩ : ByteArray), (⟨#[104]⟩ : ByteArray), (⟨#[109, 97, 115, 104]⟩ : ByteArray), (⟨#[114, 101, 115, 116]⟩ : ByteArray), (⟨#[120, 45, 57]⟩ : ByteArray)] : List ByteArray)) (inner := [.string (⟨#[98, 114, 101, 119]⟩ : ByteArray), .string (⟨#[102, 49]⟩ : ByteArray), .string (⟨#[102, 50]⟩ : ByteArray), .string (⟨#[103]⟩ : ByteArray), .string (⟨#[104]⟩ : ByteArray), .string (⟨#[109, 97, 115, 104]⟩ : ByteArray), .string (⟨#[114, 101, 115, 116]⟩ : ByteArray), .string (⟨#[120, 45, 57]⟩ : ByteArray)]) (ok := fun _ => True) (okp := fun _ => True) ?hr ?hp (fun _ hk => hk) trivial (Below.refl _ _) (Nat.le_refl _) (by simp) ?_; (case hd => rfl); (case hg => rfl); (case hr => first | (go_simp; done) | (go_simp; rfl)); (case hp => exact (Reps.one (show Kd.M Kd.string _ _ _ (⟨#[98, 114, 101, 119]⟩ : ByteArray) [.string (⟨#[98, 114, 101, 119]⟩ : ByteArray)] from rfl) (Reps.one (show Kd.M Kd.string _ _ _ (⟨#[102, 49]⟩ : ByteArray) [.string (⟨#[102, 49]⟩ : ByteArray)] from rfl) (Reps.one (show Kd.M Kd.string _ _ _ (⟨#[102, 50]⟩ : ByteArray) [.string (⟨#[102, 50]⟩ : ByteArray)] from rfl) (Reps.one (show Kd.M Kd.string _ _ _ (⟨#[103]⟩ : ByteArray) [.string (⟨#[103]⟩ : ByteArray)] from rfl) (Reps.one (show Kd.M Kd.string _ _ _ (⟨#[104]⟩ : ByteArray) [.string (⟨#[104]⟩ : ByteArray)] from rfl) (Reps.one (show Kd.M Kd.string _ _ _ (⟨#[109, 97, 115, 104]⟩ : ByteArray) [.string (⟨#[109, 97, 115, 104]⟩ : ByteArray)] from rfl) (Reps.one (show Kd.M Kd.string _ _ _ (⟨#[114, 101, 115, 116]⟩ : ByteArray) [.string (⟨#[114, 101, 115, 116]⟩ : ByteArray)] from rfl) (Reps.one (show Kd.M Kd.string _ _ _ (⟨#[120, 45, 57]⟩ : ByteArray) [.string (⟨#[120, 45, 57]⟩ : ByteArray)] from rfl) (Reps.none _ _)))))))))); intro v236 w1 ho2 hb hg_ hnew_; clear hg_ hnew_; (first | rw [← Ny235.out] at ho2 | (simp only [Int.reduceToNat] at ho2; rw [← Ny235.out] at ho2)); have t_ := And.intro (Aside0.mk (Kd.R_lower ho2 (below_size (bw HB.out)))) <| (bs HB hb); clear HB; obtain ⟨HO237, HB⟩ := t_; clear hb ho2))
 go_ret
 exact ⟨_, exq, by refine rx ?_; exact HO237.out, bw HB.out⟩


/-! ### spec_l3Dec: function 102 -/
def spec_l3Dec.f : Nat → Int → Option (ByteArray)
 | 0, _ => none
 | k + 1, a0 => if a0 < 10 then (some (strOfNums (([(wrap64 (48 + a0)) % 256] : List Int)))) else ((spec_l3Dec.f k (wrap64 (Int.tdiv a0 10))).bind fun t471 => ((some (([(wrap64 (48 + (Int.tmod a0 10))) % 256] : List Int) : List Int)).bind fun y472 => (if t471.size + (strOfNums y472).size ≤ 9223372036854775807 then (some (t471 ++ (strOfNums y472))) else (none))))
theorem spec_l3Dec.mono_l : ∀ k, (∀ y0, LeO (spec_l3Dec.f k y0) (spec_l3Dec.f (k + 1) y0))
 | 0 => fun _ r h => by simp [spec_l3Dec.f] at h
 | k + 1 => by
  have ih0 := spec_l3Dec.mono_l k
  ·intro y0
   unfold spec_l3Dec.f
   repeat' first
   | (with_reducible exact ih0 _)
   | (with_reducible exact LeO.refl _)
   | (with_reducible exact LeO.none _)
   | (with_reducible refine LeO.ite ?_ ?_)
   | (with_reducible refine LeO.bind ?_ (fun _ => ?_))
   | exact ih0 _
   | exact LeO.none _
   | refine LeO.ite ?_ ?_
   | refine LeO.bind ?_ (fun _ => ?_)
theorem spec_l3Dec.mono : ∀ a0 k, LeO (spec_l3Dec.f k a0) (spec_l3Dec.f (k + 1) a0) := by
 intro a0 k
 have ih0 := spec_l3Dec.mono_l k
 exact ih0 a0
def spec_l3Dec.T3 : Bool × List (List Nat × List Nat) := (true, [([], []), ([0], [0]), ([1], [1]), ([], []), ([3], [3]), ([4], [4]), ([5], [5]), ([6], [6]), ([7], [7]), ([2, 8], [2, 8]), ([9, 2, 0, 1, 2, 3, 4, 5, 6, 7, 8, 9], [9])])
def spec_l3Dec.B3 : List Nat := [0, 1, 3, 0, 8, 24, 56, 120, 248, 511, 1023]
theorem spec_l3Dec.tab3 : rtab .any (opsOf Try.f102 3) = spec_l3Dec.T3 := by kernel_rfl
theorem spec_l3Dec.bits3 : waitsOk spec_l3Dec.T3.2 spec_l3Dec.B3 = true := by kernel_rfl
set_option maxHeartbeats 8000000 in
set_option maxRecDepth 100000 in
theorem spec_l3Dec.calls (k : Nat) : ∀ (a0 : Int) (r : ByteArray) (w : World) (h : spec_l3Dec.f k a0 = some r),
  Calls Try.prog 102 #[.int .i64 a0] w fun e w' => e = .returned (.string r) ∧ Below w.heap.size w w' := by
 induction k using Nat.strongRecOn with
 | _ k ih =>
 intro a0 r w h
 cases k with
 | zero => exact absurd h (by simp [spec_l3Dec.f])
 | succ k =>
 simp only [spec_l3Dec.f] at h
 have HB := Aside0.mk (Below.refl w.heap.size w)
 have H : (if a0 < 10 then (some (strOfNums (([(wrap64 (48 + a0)) % 256] : List Int)))) else ((spec_l3Dec.f k (wrap64 (Int.tdiv a0 10))).bind fun t471 => ((some (([(wrap64 (48 + (Int.tmod a0 10))) % 256] : List Int) : List Int)).bind fun y472 => (if t471.size + (strOfNums y472).size ≤ 9223372036854775807 then (some (t471 ++ (strOfNums y472))) else (none))))) = some r := h
 clear h
 by_cases c2 : a0 < 10
 ·rw [if_pos c2] at H
  have c2b0 : decide (a0 < 10) = true := decide_eq_true c2
  clear c2
  obtain ⟨y468, hy468⟩ : ∃ y_ : List Int, y_ = (([(wrap64 (48 + a0)) % 256] : List Int)) := ⟨_, rfl⟩
  replace H : (some (strOfNums y468)) = some r := rpl H hy468
  have Ny468 := Aside0.mk hy468
  clear hy468
  obtain rfl := Option.some.inj H
  go_enter Try.func102, Try.ntmps102
  go_wp2_with (first | ((with_reducible refine gate_dst (N := 8) rfl ?_); refine Kd.R_lit (Kd.int .u8) _ 5 ?hg (N := 8) ?hd (xs := ([(wrap64 (48 + a0)) % 256] : List Int)) (inner := [.int .u8 ((wrap64 (48 + a0)) % 256)]) (ok := fun _ => True) (okp := fun _ => True) ?hr ?hp (fun _ hk => hk) trivial (Below.refl _ _) (Nat.le_refl _) (by simp) ?_; (case hd => rfl); (case hg => rfl); (case hr => first | (go_simp; done) | (go_simp; rfl)); (case hp => exact (Reps.one (show Kd.M (Kd.int .u8) _ _ _ ((wrap64 (48 + a0)) % 256) [.int .u8 ((wrap64 (48 + a0)) % 256)] from rfl) (Reps.none _ _))); intro v469 w3 ho4 hb hg_ hnew_; clear hg_ hnew_; (first | rw [← Ny468.out] at ho4 | (simp only [Int.reduceToNat] at ho4; rw [← Ny468.out] at ho4)); have t_ := And.intro (Aside0.mk (Kd.R_lower ho4 (below_size (bw HB.out)))) <| (bs HB hb); clear HB; obtain ⟨HO470, HB⟩ := t_; clear hb ho4; have hcv5 := own_string (P := Try.prog) Try.underlying25 Try.underlying5 Try.underlying9 (Kd.own_of_R HO470.out)))
  go_ret
  exact ⟨exq, bw HB.out⟩
 ·rw [if_neg c2] at H
  have c2b0 : decide (a0 < 10) = false := decide_eq_false c2
  clear c2
  replace H := Option.bind_eq_some_iff.mp H
  obtain ⟨t471, A60, H⟩ := H
  try dsimp only at H
  have A6 := Aside0.mk A60
  clear A60
  obtain ⟨y472, hy472⟩ : ∃ y_ : List Int, y_ = (([(wrap64 (48 + (Int.tmod a0 10))) % 256] : List Int)) := ⟨_, rfl⟩
  replace H : (if t471.size + (strOfNums y472).size ≤ 9223372036854775807 then (some (t471 ++ (strOfNums y472))) else (none)) = some r := rpl H hy472
  have Ny472 := Aside0.mk hy472
  clear hy472
  by_cases c7 : t471.size + (strOfNums y472).size ≤ 9223372036854775807
  ·rw [if_pos c7] at H
   have c7b0 := eq_true c7
   have c7b1 : decide (t471.size + (strOfNums y472).size ≤ 9223372036854775807) = true := decide_eq_true c7
   try have c7b2 : (9223372036854775807 < t471.size + (strOfNums y472).size) = False := eq_false (Nat.not_lt.2 c7)
   obtain rfl := Option.some.inj H
   go_enter Try.func102, Try.ntmps102
   try go_wp2
   have n0_ := Aside0.mk (below_drew1 HB.out)
   clear HB
   have HB := n0_
   clear n0_
   refine start_ (n := 11) (S := fun w' => True) (ds := []) (lb 11 0) (by kernel_rfl) rfl rfl trivial (fun hHeld => ?_); refine with_tabW spec_l3Dec.tab3 spec_l3Dec.bits3 (fun HT_ HW_ => ?_)
   generalize w.drew = w8 at HB hHeld ⊢
   refine pw HT_ 0 (some 10) (lb 11 1) ?_
   refine pw HT_ 1 (some 11) (lb 11 3) ?_
   refine pw HT_ 3 (some 13) (lb 11 11) ?_
   refine pw HT_ 4 (some 14) (lb 11 27) ?_
   refine pw HT_ 5 (some 15) (lb 11 59) ?_
   refine pw HT_ 6 (some 16) (lb 11 123) ?_
   refine join_ (σ := Value) 2 (lb 11 511) (fun s_ => [(12, .string t471), (17, s_), (18, .string (strOfNums y472))]) (fun s_ w' => (Kd.R (Kd.int .u8) 5 w' w.heap.size (fun _ => True) s_ y472) ∧ (Below w.heap.size w w')) ?_ ?_
   rotate_left
   ·intro hCont
    refine two_ (i := 2) (j := 7) (Ni := some 12) (Nj := some 17) (lb 11 127) (lb 11 251) rfl rfl rfl rfl (two_of HT_.out (by kernel_rfl)) (by decide) (by decide) (fun K hK => ?_) (fun K hK => ?_)
    ·skip
     refine goes_ Try.func102 (by kernel_rfl) rfl #[.int .i64 (wrap64 (Int.tdiv a0 10))] (by rfl) rfl rfl mxp ?_
     with_reducible refine (ih k (by omega) (wrap64 (Int.tdiv a0 10)) t471 _ A6.out).mono ?_
     rintro e w9 ⟨rfl, hb⟩
     refine ⟨_, rfl, ?_⟩
     have n0_ := bs HB hb
     clear HB
     have HB := n0_
     clear n0_
     (try clear hb)
     (try clear hb2)
     (try clear hk)
     (try clear hi)
     refine hK.out _ _ trivial (fun hHeld => ?_)
     clear hK K
     refine norm_ (a' := ?_) ?_ ?_
     rotate_left
     ·show Act.put _ (some 12) _ = _
      simp only [Act.put, List.setIfInBounds_toArray, List.set_cons_zero, List.set_cons_succ, i64_w, i32_w]
      rfl
     refine one_ (i := 7) (N := some 17) (lb 11 255) rfl rfl (one_of HT_.out (by kernel_rfl)) (by decide) (fun K hK => ?_)
     refine Kd.R_lit_step (Kd.int .u8) _ 5 ?hg (N := 17) ?hd (xs := ([(wrap64 (48 + (Int.tmod a0 10))) % 256] : List Int)) (inner := [.int .u8 ((wrap64 (48 + (Int.tmod a0 10))) % 256)]) (ok := fun _ => True) (okp := fun _ => True) ?hr ?hp (fun _ hk => hk) trivial (Below.refl _ _) (Nat.le_refl _) (by simp) ?_; (case hd => rfl); (case hg => rfl); (case hr => first | (go_simp; done) | (go_simp; rfl)); (case hp => exact (Reps.one (show Kd.M (Kd.int .u8) _ _ _ ((wrap64 (48 + (Int.tmod a0 10))) % 256) [.int .u8 ((wrap64 (48 + (Int.tmod a0 10))) % 256)] from rfl) (Reps.none _ _)))
     intro v473 w10 ho11 hb hg_ hnew_
     clear hg_ hnew_
     (first | rw [← Ny472.out] at ho11 | (simp only [Int.reduceToNat] at ho11; rw [← Ny472.out] at ho11))
     have n0_ := Aside0.mk (Kd.R_lower ho11 (below_size (bw HB.out)))
     have n1_ := bs HB hb
     clear HB
     have HO474 := n0_
     have HB := n1_
     clear n0_ n1_
     clear hb ho11
     refine hK.out _ _ trivial (fun hHeld => ?_)
     clear hK K
     refine norm_ (a' := ?_) ?_ ?_
     rotate_left
     ·show Act.put _ (some 17) _ = _
      simp only [Act.put, List.setIfInBounds_toArray, List.set_cons_zero, List.set_cons_succ, i64_w, i32_w]
      rfl
     refine one_ (i := 8) (N := some 18) (lb 11 511) rfl rfl (one_of HT_.out (by kernel_rfl)) (by decide) (fun K hK => ?_)
     have hcv12 := own_string (P := Try.prog) Try.underlying25 Try.underlying5 Try.underlying9 (Kd.own_of_R HO474.out)
     refine value_ (w1 := ?_) (v := ?_) (by rfl) rfl ?_ ?_
     rotate_left 2
     ·go_simp
      constructor
      ·rfl
      ·rfl
     clear hcv12
     refine hK.out _ _ trivial (fun hHeld => ?_)
     clear hK K
     refine norm_ (a' := ?_) ?_ ?_
     rotate_left
     ·show Act.put _ (some 18) _ = _
      simp only [Act.put, List.setIfInBounds_toArray, List.set_cons_zero, List.set_cons_succ, i64_w, i32_w]
      rfl
     exact norm_ (by simp only [putAll, Act.put, List.setIfInBounds_toArray, List.set_cons_zero, List.set_cons_succ]) (hCont (v473) _ ⟨(rx HO474.out), (bw HB.out)⟩)
    ·skip
     refine Kd.R_lit_step (Kd.int .u8) _ 5 ?hg (N := 17) ?hd (xs := ([(wrap64 (48 + (Int.tmod a0 10))) % 256] : List Int)) (inner := [.int .u8 ((wrap64 (48 + (Int.tmod a0 10))) % 256)]) (ok := fun _ => True) (okp := fun _ => True) ?hr ?hp (fun _ hk => hk) trivial (Below.refl _ _) (Nat.le_refl _) (by simp) ?_; (case hd => rfl); (case hg => rfl); (case hr => first | (go_simp; done) | (go_simp; rfl)); (case hp => exact (Reps.one (show Kd.M (Kd.int .u8) _ _ _ ((wrap64 (48 + (Int.tmod a0 10))) % 256) [.int .u8 ((wrap64 (48 + (Int.tmod a0 10))) % 256)] from rfl) (Reps.none _ _)))
     intro v473 w9 ho10 hb hg_ hnew_
     clear hg_ hnew_
     (first | rw [← Ny472.out] at ho10 | (simp only [Int.reduceToNat] at ho10; rw [← Ny472.out] at ho10))
     have n0_ := Aside0.mk (Kd.R_lower ho10 (below_size (bw HB.out)))
     have n1_ := bs HB hb
     clear HB
     have HO474 := n0_
     have HB := n1_
     clear n0_ n1_
     clear hb ho10
     refine hK.out _ _ trivial (fun hHeld => ?_)
     clear hK K
     refine norm_ (a' := ?_) ?_ ?_
     rotate_left
     ·show Act.put _ (some 17) _ = _
      simp only [Act.put, List.setIfInBounds_toArray, List.set_cons_zero, List.set_cons_succ, i64_w, i32_w]
      rfl
     refine two_ (i := 2) (j := 8) (Ni := some 12) (Nj := some 18) (lb 11 255) (lb 11 507) rfl rfl rfl rfl (two_of HT_.out (by kernel_rfl)) (by decide) (by decide) (fun K hK => ?_) (fun K hK => ?_)
     ·skip
      refine goes_ Try.func102 (by kernel_rfl) rfl #[.int .i64 (wrap64 (Int.tdiv a0 10))] (by rfl) rfl rfl mxp ?_
      with_reducible refine (ih k (by omega) (wrap64 (Int.tdiv a0 10)) t471 _ A6.out).mono ?_
      rintro e w11 ⟨rfl, hb⟩
      refine ⟨_, rfl, ?_⟩
      have n0_ := Aside0.mk (Kd.R_below (rx HO474.out) hb)
      have n1_ := bs HB hb
      clear HO474
      clear HB
      have HO474 := n0_
      have HB := n1_
      clear n0_ n1_
      (try clear hb)
      (try clear hb2)
      (try clear hk)
      (try clear hi)
      refine hK.out _ _ trivial (fun hHeld => ?_)
      clear hK K
      refine norm_ (a' := ?_) ?_ ?_
      rotate_left
      ·show Act.put _ (some 12) _ = _
       simp only [Act.put, List.setIfInBounds_toArray, List.set_cons_zero, List.set_cons_succ, i64_w, i32_w]
       rfl
      refine one_ (i := 8) (N := some 18) (lb 11 511) rfl rfl (one_of HT_.out (by kernel_rfl)) (by decide) (fun K hK => ?_)
      have hcv12 := own_string (P := Try.prog) Try.underlying25 Try.underlying5 Try.underlying9 (Kd.own_of_R HO474.out)
      refine value_ (w1 := ?_) (v := ?_) (by rfl) rfl ?_ ?_
      rotate_left 2
      ·go_simp
       constructor
       ·rfl
       ·rfl
      clear hcv12
      refine hK.out _ _ trivial (fun hHeld => ?_)
      clear hK K
      refine norm_ (a' := ?_) ?_ ?_
      rotate_left
      ·show Act.put _ (some 18) _ = _
       simp only [Act.put, List.setIfInBounds_toArray, List.set_cons_zero, List.set_cons_succ, i64_w, i32_w]
       rfl
      exact norm_ (by simp only [putAll, Act.put, List.setIfInBounds_toArray, List.set_cons_zero, List.set_cons_succ]) (hCont (v473) _ ⟨(rx HO474.out), (bw HB.out)⟩)
     ·skip
      have hcv11 := own_string (P := Try.prog) Try.underlying25 Try.underlying5 Try.underlying9 (Kd.own_of_R HO474.out)
      refine value_ (w1 := ?_) (v := ?_) (by rfl) rfl ?_ ?_
      rotate_left 2
      ·go_simp
       constructor
       ·rfl
       ·rfl
      clear hcv11
      refine hK.out _ _ trivial (fun hHeld => ?_)
      clear hK K
      refine norm_ (a' := ?_) ?_ ?_
      rotate_left
      ·show Act.put _ (some 18) _ = _
       simp only [Act.put, List.setIfInBounds_toArray, List.set_cons_zero, List.set_cons_succ, i64_w, i32_w]
       rfl
      refine one_ (i := 2) (N := some 12) (lb 11 511) rfl rfl (one_of HT_.out (by kernel_rfl)) (by decide) (fun K hK => ?_)
      refine goes_ Try.func102 (by kernel_rfl) rfl #[.int .i64 (wrap64 (Int.tdiv a0 10))] (by rfl) rfl rfl mxp ?_
      with_reducible refine (ih k (by omega) (wrap64 (Int.tdiv a0 10)) t471 _ A6.out).mono ?_
      rintro e w12 ⟨rfl, hb⟩
      refine ⟨_, rfl, ?_⟩
      have n0_ := Aside0.mk (Kd.R_below (rx HO474.out) hb)
      have n1_ := bs HB hb
      clear HO474
      clear HB
      have HO474 := n0_
      have HB := n1_
      clear n0_ n1_
      (try clear hb)
      (try clear hb2)
      (try clear hk)
      (try clear hi)
      refine hK.out _ _ trivial (fun hHeld => ?_)
      clear hK K
      refine norm_ (a' := ?_) ?_ ?_
      rotate_left
      ·show Act.put _ (some 12) _ = _
       simp only [Act.put, List.setIfInBounds_toArray, List.set_cons_zero, List.set_cons_succ, i64_w, i32_w]
       rfl
      exact norm_ (by simp only [putAll, Act.put, List.setIfInBounds_toArray, List.set_cons_zero, List.set_cons_succ]) (hCont (v473) _ ⟨(rx HO474.out), (bw HB.out)⟩)
   rintro v473 w13 ⟨h0_, h1_⟩
   have n0_ : Aside0 (Kd.R (Kd.int .u8) 5 w13 w.heap.size (fun _ => True) v473 y472) := ⟨h0_⟩
   have n1_ : Aside0 (Below w.heap.size w w13) := ⟨h1_⟩
   clear HB
   clear h0_ h1_
   have HO474 := n0_
   have HB := n1_
   clear n0_ n1_
   have hHeld := trivial
   refine norm_ (a' := ?_) ?_ ?_
   rotate_left
   ·simp only [putAll, Act.put, List.setIfInBounds_toArray, List.set_cons_zero, List.set_cons_succ]
    rfl
   refine pw HT_ 9 (some 19) (lb 11 1023) ?_
   refine pw HT_ 10 (some 2) (lb 11 2047) ?_
   refine done_ (done_of HT_.out (by kernel_rfl)) ?_
   try go_wp2
   go_ret
   exact ⟨exq, bw HB.out⟩
  ·rw [if_neg c7] at H
   exact absurd H (by simp)

end Go.Proofs.Ytdkologncoofdaa.P
-- XFar
namespace Go.Proofs.Ytdkologncoofdaa.P
open Go.RowKit Go.Proofs.YtdkologncoofdaaW.PrintWords Go.Proofs.YtdkologncoofdaaW.PrintLast
set_option linter.unusedVariables false

/-- A row of texts doesn't lie in a reader's block: a reader's cells are a slice and a number. -/
theorem far_seen107 {w0 W : World} {g : Nat} {f0 : List Int} {f1 : Int} {A : Option Addr} {n : Nat} {l : List ByteArray} (hc : Kd.C Kd.string W A n l) (h : IsS107 w0 W g f0 f1) :
    ∀ ad, A = some ad → 0 < n → ad.block ≠ g := by
  rintro ad rfl hn rfl
  obtain ⟨A0, c0, hb, _, _⟩ := h
  obtain ⟨ad', c, e, _, hK, hcell⟩ := Kd.C_get hc ByteArray.empty 0 (by omega) (by omega)
  cases e
  have h1 := hcell 0 _ (by rw [hK]; rfl)
  rw [show ((0 : Int).toNat * Kd.string.sz + 0) = 0 from by simp] at h1
  rw [show ad.add 0 = ad from by unfold Addr.add; split <;> simp_all] at h1
  simp only [World.cell?, hb] at h1
  split at h1
  · cases h1
  · have : ad.off = 0 ∨ ad.off = 1 ∨ 2 ≤ ad.off := by omega
    rcases this with e | e | e
    · rw [e] at h1; cases h1
    · rw [e] at h1; cases h1
    · rw [Array.getElem?_eq_none (by simpa using e)] at h1; cases h1

end Go.Proofs.Ytdkologncoofdaa.P
-- Px51
namespace Go.Proofs.Ytdkologncoofdaa.P
open Go.RowKit Go.Proofs.YtdkologncoofdaaW.PrintWords Go.Proofs.YtdkologncoofdaaW.PrintLast Go.Proofs.YtdkologncoofdaaW.PrintMore
attribute [local go_sem] max2_int min2_int max_two min_two max_three min_three max_four min_four   -- for this text's walks alone
set_option linter.unusedVariables false
set_option linter.unusedSimpArgs false

/-! ### spec_l5Recipe: function 93 -/
mutual
def spec_l5Recipe.l0 : Nat → List ByteArray → Int → List (S39) → Int → List Int → Int → Option ((List (S39)) × Int)
 | 0, _, _, _, _, _, _ => none
 | k + 1, x3, x4, x5, x6, x1000, x1001 => if x6 < x4 then (if 0 ≤ x6 then (if x6 < (x3.length : Int) then (if 0 ≤ (wrap64 (x6 + 1)) then (if (wrap64 (x6 + 1)) ≤ x4 then (if x4 ≤ (x3.length : Int) then ((spec_l5Phase.f k x1000 x1001 (rdOf ByteArray.empty x3 x6) ((x3.take (x4 : Int).toNat).drop ((wrap64 (x6 + 1)) : Int).toNat)).bind fun bt488 => (if x5.length < 1353245080339 then (spec_l5Recipe.l0 k x3 x4 (x5 ++ [(⟨bt488.1, bt488.2.1, bt488.2.2.1, bt488.2.2.2.1, bt488.2.2.2.2.1, bt488.2.2.2.2.2.1, bt488.2.2.2.2.2.2.1, bt488.2.2.2.2.2.2.2.1⟩ : S39)]) (wrap64 (x6 + 1)) x1000 bt488.2.2.2.2.2.2.2.2) else (none))) else (none)) else (none)) else (none)) else (none)) else (none)) else ((spec_l1Rd_pick.f k x1000 x1001 20).bind fun bt500 => (if bt500.1 = 0 then (spec_l5Recipe.l1 k x5 0 x1000 bt500.2) else (some (x5, bt500.2))))
def spec_l5Recipe.l1 : Nat → List (S39) → Int → List Int → Int → Option ((List (S39)) × Int)
 | 0, _, _, _, _ => none
 | k + 1, x5, x7, x1000, x1001 => if (x5.length : Int) < 12 then ((spec_l3Dec.f k x7).bind fun t502 => (if 1 + t502.size ≤ 9223372036854775807 then ((spec_l5Phase.f k x1000 x1001 ((⟨#[121]⟩ : ByteArray) ++ t502) (([] : List ByteArray))).bind fun bt506 => (if x5.length < 1353245080339 then (spec_l5Recipe.l1 k (x5 ++ [(⟨bt506.1, bt506.2.1, bt506.2.2.1, bt506.2.2.2.1, bt506.2.2.2.2.1, bt506.2.2.2.2.2.1, bt506.2.2.2.2.2.2.1, bt506.2.2.2.2.2.2.2.1⟩ : S39)]) (wrap64 (x7 + 1)) x1000 bt506.2.2.2.2.2.2.2.2) else (none))) else (none))) else (some (x5, x1001))
end
def spec_l5Recipe.f (k : Nat) (s0_0 : List Int) (s0_1 : Int) : Option ((List (S39)) × Int) := (spec_l5Names.f).bind fun t475 => ((spec_l1Rd_pick.f k s0_0 s0_1 (t475.length : Int)).bind fun bt478 => (spec_l5Recipe.l0 k t475 (wrap64 (1 + bt478.1)) (([] : List (S39))) 0 s0_0 bt478.2))
theorem spec_l5Recipe.mono_l : ∀ k, (∀ y0 y1 y2 y3 y4 y5, LeO (spec_l5Recipe.l0 k y0 y1 y2 y3 y4 y5) (spec_l5Recipe.l0 (k + 1) y0 y1 y2 y3 y4 y5)) ∧ (∀ y0 y1 y2 y3, LeO (spec_l5Recipe.l1 k y0 y1 y2 y3) (spec_l5Recipe.l1 (k + 1) y0 y1 y2 y3))
 | 0 => ⟨fun _ _ _ _ _ _ r h => by simp [spec_l5Recipe.l0] at h, fun _ _ _ _ r h => by simp [spec_l5Recipe.l1] at h⟩
 | k + 1 => by
  obtain ⟨ih0, ih1⟩ := spec_l5Recipe.mono_l k
  refine ⟨?_, ?_⟩
  ·intro y0 y1 y2 y3 y4 y5
   unfold spec_l5Recipe.l0
   repeat' first
   | (with_reducible exact ih0 _ _ _ _ _ _)
   | (with_reducible exact ih1 _ _ _ _)
   | (with_reducible exact spec_l1Rd_pick.mono _ _ _ _)
   | (with_reducible exact spec_l3Dec.mono _ _)
   | (with_reducible exact spec_l5Phase.mono _ _ _ _ _)
   | (with_reducible exact LeO.refl _)
   | (with_reducible exact LeO.none _)
   | (with_reducible refine LeO.ite ?_ ?_)
   | (with_reducible refine LeO.bind ?_ (fun _ => ?_))
   | exact ih0 _ _ _ _ _ _
   | exact ih1 _ _ _ _
   | exact spec_l1Rd_pick.mono _ _ _ _
   | exact spec_l3Dec.mono _ _
   | exact spec_l5Phase.mono _ _ _ _ _
   | exact LeO.none _
   | refine LeO.ite ?_ ?_
   | refine LeO.bind ?_ (fun _ => ?_)
  ·intro y0 y1 y2 y3
   unfold spec_l5Recipe.l1
   repeat' first
   | (with_reducible exact ih0 _ _ _ _ _ _)
   | (with_reducible exact ih1 _ _ _ _)
   | (with_reducible exact spec_l1Rd_pick.mono _ _ _ _)
   | (with_reducible exact spec_l3Dec.mono _ _)
   | (with_reducible exact spec_l5Phase.mono _ _ _ _ _)
   | (with_reducible exact LeO.refl _)
   | (with_reducible exact LeO.none _)
   | (with_reducible refine LeO.ite ?_ ?_)
   | (with_reducible refine LeO.bind ?_ (fun _ => ?_))
   | exact ih0 _ _ _ _ _ _
   | exact ih1 _ _ _ _
   | exact spec_l1Rd_pick.mono _ _ _ _
   | exact spec_l3Dec.mono _ _
   | exact spec_l5Phase.mono _ _ _ _ _
   | exact LeO.none _
   | refine LeO.ite ?_ ?_
   | refine LeO.bind ?_ (fun _ => ?_)
theorem spec_l5Recipe.mono : ∀ a0 a1 k, LeO (spec_l5Recipe.f k a0 a1) (spec_l5Recipe.f (k + 1) a0 a1) := by
 intro a0 a1 k
 obtain ⟨ih0, ih1⟩ := spec_l5Recipe.mono_l k
 unfold spec_l5Recipe.f
 repeat' first
   | (with_reducible exact ih0 _ _ _ _ _ _)
   | (with_reducible exact ih1 _ _ _ _)
   | (with_reducible exact spec_l1Rd_pick.mono _ _ _ _)
   | (with_reducible exact spec_l3Dec.mono _ _)
   | (with_reducible exact spec_l5Phase.mono _ _ _ _ _)
   | (with_reducible exact LeO.refl _)
   | (with_reducible exact LeO.none _)
   | (with_reducible refine LeO.ite ?_ ?_)
   | (with_reducible refine LeO.bind ?_ (fun _ => ?_))
   | exact ih0 _ _ _ _ _ _
   | exact ih1 _ _ _ _
   | exact spec_l1Rd_pick.mono _ _ _ _
   | exact spec_l3Dec.mono _ _
   | exact spec_l5Phase.mono _ _ _ _ _
   | exact LeO.none _
   | refine LeO.ite ?_ ?_
   | refine LeO.bind ?_ (fun _ => ?_)
def spec_l5Recipe.T7 : Bool × List (List Nat × List Nat) := (true, [([], []), ([], []), ([], []), ([], []), ([2, 3], [2, 3]), ([4], [4]), ([], []), ([], []), ([7], [7]), ([], []), ([6, 8, 9], [6, 8, 9]), ([1, 5, 10], [1, 5, 10]), ([11], [11]), ([0, 12, 11], [0, 12]), ([13, 13, 0, 1, 2, 3, 4, 5, 6, 7, 8, 9, 10, 11, 12, 13], [0, 13])])
def spec_l5Recipe.B7 : List Nat := [0, 0, 0, 0, 12, 28, 0, 0, 128, 0, 960, 2046, 4094, 8191, 16383]
theorem spec_l5Recipe.tab7 : rtab .any (opsOf Try.f93 7) = spec_l5Recipe.T7 := by kernel_rfl
theorem spec_l5Recipe.bits7 : waitsOk spec_l5Recipe.T7.2 spec_l5Recipe.B7 = true := by kernel_rfl
set_option maxHeartbeats 8000000 in
set_option maxRecDepth 100000 in
theorem spec_l5Recipe.calls (k : Nat) (g : Nat) (s0_0 : List Int) (s0_1 : Int) (r1 : List (S39)) (r2 : Int) (w0 w : World) (hI : IsS107 w0 w g s0_0 s0_1) (hB : Below w0.heap.size w0 w) (h : spec_l5Recipe.f k s0_0 s0_1 = some (r1, r2)) :
  Calls Try.prog 93 #[.pointer (some ⟨g, 0, none⟩)] w fun e w' => ∃ v0_ : Value, e = .returned (v0_) ∧ Kd.R k39 39 w' w.heap.size (fun _ => True) v0_ r1 ∧ IsS107 w0 w' g s0_0 r2 ∧ Below w0.heap.size w0 w' ∧ KeepBut w w' g none := by
 have HI0 := Aside0.mk hI
 have HK := Aside0.mk (KeepBut.refl w g none)
 have HL := Aside0.mk hB.size
 clear hI
 have HW0 := Aside0.mk hB.size
 have HB := Aside0.mk hB
 clear hB
 have H : ((spec_l5Names.f).bind fun t475 => ((spec_l1Rd_pick.f k s0_0 s0_1 (t475.length : Int)).bind fun bt478 => (spec_l5Recipe.l0 k t475 (wrap64 (1 + bt478.1)) (([] : List (S39))) 0 s0_0 bt478.2))) = some (r1, r2) := h
 clear h
 replace H := Option.bind_eq_some_iff.mp H
 obtain ⟨t475, A20, H⟩ := H
 try dsimp only at H
 have A2 := Aside0.mk A20
 clear A20
 replace H := Option.bind_eq_some_iff.mp H
 obtain ⟨⟨t478, t479⟩, A30, H⟩ := H
 try dsimp only at H
 have A3 := Aside0.mk A30
 clear A30
 obtain ⟨y480, hy480⟩ : ∃ y_ : List (S39), y_ = (([] : List (S39))) := ⟨_, rfl⟩
 replace H : (spec_l5Recipe.l0 k t475 (wrap64 (1 + t478)) y480 0 s0_0 t479) = some (r1, r2) := rpl H hy480
 have Ny480 := Aside0.mk hy480
 clear hy480
 have H' := Aside0.mk H
 clear H
 go_enter Try.func93, Try.ntmps93
 go_wp2_with (first | ((with_reducible refine gate_callee (f := 81) rfl ?_); refine goesL_ (some 8) rfl rfl Try.func81 (by kernel_rfl) rfl #[] rfl mxp ?_; (with_reducible refine (spec_l5Names.calls  t475 _ A2.out).mono ?_); rintro e w4 ⟨v476, rfl, ho0, hb⟩; refine ⟨_, rfl, ?_⟩; have t_ := And.intro (Aside0.mk (Kd.R_lower ho0 (keep_size (w := w) (g := g) (row := none) (kb HK.out)))) <| And.intro (Aside0.mk (IsS107.below (ib HI0.out) hb)) <| And.intro (kt HK (KeepBut.of_below hb g none)) <| (bsi HB hb); clear HI0 HK HB; obtain ⟨HO477, HI0, HK, HB⟩ := t_; (try clear hb); (try clear hb2); (try clear hk); (try clear hi); (try clear ho0); obtain ⟨Ao5, co5, eo5⟩ := Kd.R_slice HO477.out; subst eo5) | ((with_reducible refine gate_callee (f := 64) rfl ?_); refine goesL_ (some 12) rfl rfl Try.func64 (by kernel_rfl) rfl #[.pointer (some ⟨g, 0, none⟩), .int .i64 (t475.length : Int)] rfl mxp ?_; (with_reducible refine (spec_l1Rd_pick.calls k g s0_0 s0_1 (t475.length : Int) t478 t479 w0 _ ?side1 ?side2 A3.out).mono ?_); (case side1 => exact ib HI0.out); (case side2 => exact bi HB.out); rintro e w6 ⟨rfl, hi, hb, hk⟩; refine ⟨_, rfl, ?_⟩; have t_ := And.intro (Aside0.mk (Kd.R_mono (Kd.R_keep (IsS107.apart (show IsS107 w0 _ g s0_0 s0_1 from ib HI0.out) (rx HO477.out) (by decide)) hk (fun _ h => h.2)) (fun _ h => h.1))) <| And.intro (kt HK hk) <| And.intro (Aside0.mk (hb)) <| (Aside0.mk (hi)); clear HO477 HK HB HI0; obtain ⟨HO477, HK, HB, HI0⟩ := t_; (try clear hb); (try clear hb2); (try clear hk); (try clear hi)) | ((with_reducible refine gate_dst (N := 14) rfl ?_); refine Kd.R_lit k39 _ 39 ?hg (N := 14) ?hd (xs := ([] : List (S39))) (inner := []) (ok := fun _ => True) (okp := fun _ => True) ?hr ?hp (fun _ hk => hk) trivial (Below.refl _ _) (Nat.le_refl _) (by simp) ?_; (case hd => rfl); (case hg => rfl); (case hr => first | (go_simp; done) | (go_simp; rfl)); (case hp => exact (Reps.none _ _)); intro v481 w7 ho8 hb hg_ hnew_; clear hg_ hnew_; (first | rw [← Ny480.out] at ho8 | (simp only [Int.reduceToNat] at ho8; rw [← Ny480.out] at ho8)); have t_ := And.intro (Aside0.mk (Kd.R_below (rx HO477.out) hb)) <| And.intro (Aside0.mk (Kd.R_lower ho8 (keep_size (w := w) (g := g) (row := none) (kb HK.out)))) <| And.intro (Aside0.mk (IsS107.below (ib HI0.out) hb)) <| And.intro (kt HK (KeepBut.of_below hb g none)) <| (bsi HB hb); clear HO477 HI0 HK HB; obtain ⟨HO477, HO482, HI0, HK, HB⟩ := t_; clear hb ho8))
 go_loopg [5, 6] k (fun kq v5 v6 w' => ∃ (x5_1 : List (S39)) (x6_1 : Int) (x1001_1 : Int), v6 = .int .i64 x6_1 ∧ Aside0 (spec_l5Recipe.l0 kq t475 (wrap64 (1 + t478)) x5_1 x6_1 s0_0 x1001_1 = some (r1, r2)) ∧ Aside0 (kq ≤ k) ∧ Aside0 (Kd.R Kd.string 9 w' w.heap.size (fun _ => True) (.slice Ao5 t475.length co5) t475) ∧ Aside0 (Kd.R k39 39 w' w.heap.size (fun _ => True) v5 x5_1) ∧ Aside0 (IsS107 w0 w' g s0_0 x1001_1) ∧ Aside0 (KeepBut w w' g none) ∧ Aside0 (Below w0.heap.size w0 w'))
 case atStart => exact ⟨(y480), (0), (t479), (by first | rfl | (simp; done) | (simp [*]; done)), H', ⟨Nat.le_refl _⟩, ⟨by refine rx ?_; exact HO477.out⟩, ⟨by refine rx ?_; exact HO482.out⟩, ⟨ib HI0.out⟩, ⟨kb HK.out⟩, (hbi HB)⟩
 case round =>
  clear H'
  obtain ⟨x5_1, x6_1, x1001_1, rfl, HA, HK1, HO_3, HO_5, HI0, HK, HB⟩ := hrel
  cases gk with
  | zero => exact absurd HA.out (by simp [spec_l5Recipe.l0])
  | succ k1 =>
   have H := HA.out
   clear HA
   simp only [spec_l5Recipe.l0] at H
   by_cases c9 : x6_1 < (wrap64 (1 + t478))
   ·rw [if_pos c9] at H
    have c9b0 : decide (x6_1 < (wrap64 (1 + t478))) = true := decide_eq_true c9
    clear c9
    by_cases c10 : 0 ≤ x6_1
    ·rw [if_pos c10] at H
     have c10b0 : decide (0 ≤ x6_1) = true := decide_eq_true c10
     clear c10
     by_cases c11 : x6_1 < (t475.length : Int)
     ·rw [if_pos c11] at H
      have c11b0 : decide (x6_1 < (t475.length : Int)) = true := decide_eq_true c11
      clear c11
      obtain ⟨ji12, hji12⟩ : ∃ j_ : Int, (wrap64 (x6_1 + 1)) = j_ := ⟨_, rfl⟩
      replace H : (if 0 ≤ (ji12) then (if (ji12) ≤ (wrap64 (1 + t478)) then (if (wrap64 (1 + t478)) ≤ (t475.length : Int) then ((spec_l5Phase.f k1 s0_0 x1001_1 (rdOf ByteArray.empty t475 x6_1) ((t475.take ((wrap64 (1 + t478)) : Int).toNat).drop ((ji12) : Int).toNat)).bind fun bt488 => (if x5_1.length < 1353245080339 then (spec_l5Recipe.l0 k1 t475 (wrap64 (1 + t478)) (x5_1 ++ [(⟨bt488.1, bt488.2.1, bt488.2.2.1, bt488.2.2.2.1, bt488.2.2.2.2.1, bt488.2.2.2.2.2.1, bt488.2.2.2.2.2.2.1, bt488.2.2.2.2.2.2.2.1⟩ : S39)]) ji12 s0_0 bt488.2.2.2.2.2.2.2.2) else (none))) else (none)) else (none)) else (none)) = some (r1, r2) := by first | (rw [hji12] at H; exact H) | (simp only [hji12] at H ⊢; exact H)
      have hji12w : (IntKind.i64.wrap (x6_1 + 1)) = ji12 := (i64_w _).trans hji12
      by_cases c13 : 0 ≤ (ji12)
      ·rw [if_pos c13] at H
       have c13b0 := eq_true c13
       have c13b1 : decide (0 ≤ (ji12)) = true := decide_eq_true c13
       clear c13
       by_cases c14 : (ji12) ≤ (wrap64 (1 + t478))
       ·rw [if_pos c14] at H
        have c14b0 := eq_true c14
        have c14b1 : decide ((ji12) ≤ (wrap64 (1 + t478))) = true := decide_eq_true c14
        by_cases c15 : (wrap64 (1 + t478)) ≤ (t475.length : Int)
        ·rw [if_pos c15] at H
         have c15b0 := eq_true c15
         have c15b1 : decide ((wrap64 (1 + t478)) ≤ (t475.length : Int)) = true := decide_eq_true c15
         obtain ⟨y484, hy484⟩ : ∃ y_ : List ByteArray, y_ = ((t475.take ((wrap64 (1 + t478)) : Int).toNat).drop ((ji12) : Int).toNat) := ⟨_, rfl⟩
         replace H : ((spec_l5Phase.f k1 s0_0 x1001_1 (rdOf ByteArray.empty t475 x6_1) y484).bind fun bt488 => (if x5_1.length < 1353245080339 then (spec_l5Recipe.l0 k1 t475 (wrap64 (1 + t478)) (x5_1 ++ [(⟨bt488.1, bt488.2.1, bt488.2.2.1, bt488.2.2.2.1, bt488.2.2.2.2.1, bt488.2.2.2.2.2.1, bt488.2.2.2.2.2.2.1, bt488.2.2.2.2.2.2.2.1⟩ : S39)]) ji12 s0_0 bt488.2.2.2.2.2.2.2.2) else (none))) = some (r1, r2) := rpl H hy484
         have Ny484 := Aside0.mk hy484
         clear hy484
         replace H := Option.bind_eq_some_iff.mp H
         obtain ⟨⟨t488, t489, t490, t491, t492, t493, t494, t495, t496⟩, A160, H⟩ := H
         try dsimp only at H
         have A16 := Aside0.mk A160
         clear A160
         by_cases c17 : x5_1.length < 1353245080339
         ·rw [if_pos c17] at H
          have LMc17 := Aside0.mk c17
          clear c17
          obtain ⟨y497, hy497⟩ : ∃ y_ : List (S39), y_ = (x5_1 ++ [(⟨t488, t489, t490, t491, t492, t493, t494, t495⟩ : S39)]) := ⟨_, rfl⟩
          replace H : (spec_l5Recipe.l0 k1 t475 (wrap64 (1 + t478)) y497 ji12 s0_0 t496) = some (r1, r2) := rpl H hy497
          have Ny497 := Aside0.mk hy497
          clear hy497
          have H' := Aside0.mk H
          clear H
          try go_wp2
          have n0_ := Aside0.mk (Kd.R_drew HO_3.out)
          have n1_ := Aside0.mk (Kd.R_drew HO_5.out)
          have n2_ := Aside0.mk (IsS107.drew HI0.out)
          have n3_ := Aside0.mk (keep_drew HK.out)
          have n4_ := Aside0.mk (below_drew1 HB.out)
          clear HO_3
          clear HO_5
          clear HI0
          clear HK
          clear HB
          have HO_3 := n0_
          have HO_5 := n1_
          have HI0 := n2_
          have HK := n3_
          have HB := n4_
          clear n0_ n1_ n2_ n3_ n4_
          have p483 : 0 ≤ (x6_1 : Int) := oda
          have q483 : x6_1 < (t475.length : Int) := oda
          obtain ⟨ad483, e483, hx483_0⟩ := Kd.at_string (Kd.R_reads' HO_3.out).2.2 x6_1 p483 q483
          cases e483
          replace p483 := eq_true p483
          replace q483 := eq_true q483
          have q19 : ((wrap64 (1 + t478)) : Int) ≤ ((t475.length : Int) : Int) := oda
          obtain ⟨i019, hi019, _, hsz19, _⟩ := info_parts info9
          have hroom19 : t475.length ≤ co5 := (Kd.R_reads' HO_3.out).2.1
          have hC19 : Kd.C Kd.string _ (some ad483) t475.length t475 := (Kd.R_reads' HO_3.out).2.2
          have ql19 : ((ji12) : Int) ≤ ((wrap64 (1 + t478)) : Int) := oda
          have q019 : (0 : Int) ≤ ((ji12) : Int) := oda
          have hcut19 := cut_mid (P := Try.prog) 32 9 .i64 .i64 Try.underlying32 hi019 1 hsz19 (some ad483) t475.length co5 (ji12) (wrap64 (1 + t478)) q019 ql19 q19 hroom19
          have hr19 := Kd.C_mid (lo := ((ji12) : Int).toNat) (hi := ((wrap64 (1 + t478)) : Int).toNat) (c := co5) hC19 (by omega) (by omega) hroom19
          obtain ⟨A19, hA19⟩ : ∃ A1, A1 = (if co5 = ((ji12) : Int).toNat then (some ad483) else ((some ad483) : Option Addr).map (·.add (((ji12) : Int).toNat * 1))) := ⟨_, rfl⟩
          obtain ⟨c19, hc19⟩ : ∃ c1, c1 = co5 - ((ji12) : Int).toNat := ⟨_, rfl⟩
          have hy19 : y484.length = ((wrap64 (1 + t478)) : Int).toNat - ((ji12) : Int).toNat := (by rw [Ny484.out, List.length_drop, List.length_take] <;> omega)
          rw [show ((t475).take ((wrap64 (1 + t478)) : Int).toNat).drop ((ji12) : Int).toNat = y484 from Ny484.out.symm] at hr19
          replace hr19 : Kd.C Kd.string _ A19 y484.length y484 := (by rw [hA19]; exact hr19)
          rw [← hy19, ← hA19, ← hc19] at hcut19
          have HR487 := Aside0.mk hr19
          have HC487 := Aside0.mk (show y484.length ≤ c19 from by rw [hy19, hc19]; exact Nat.sub_le_sub_right (Nat.le_trans (by omega) hroom19) _)
          clear hr19 hC19 hroom19 hi019 hsz19 hc19
          have KY19 := Aside0.mk hy19
          have KA19 := Aside0.mk hA19
          clear hy19 hA19
          have KL19 := Aside0.mk (show ((wrap64 (1 + t478)) : Int).toNat ≤ t475.length from by omega)
          have KM19 := Aside0.mk (show ((ji12) : Int).toNat ≤ ((wrap64 (1 + t478)) : Int).toNat from by omega)
          replace q19 := eq_true q19
          refine start_ (n := 15) (S := fun w' => w'.cell? (ad483.add (x6_1).toNat) = some (.string (rdOf ByteArray.empty t475 x6_1))) (ds := [12, 13]) (lb 15 0) (by kernel_rfl) rfl rfl (hx483_0) (fun hHeld => ?_); refine with_tabW spec_l5Recipe.tab7 spec_l5Recipe.bits7 (fun HT_ HW_ => ?_)
          generalize wr.drew = w18 at HO_3 HO_5 HI0 HK HB HR487 hx483_0 hHeld ⊢
          refine pw HT_ 0 (some 20) (lb 15 1) ?_
          refine pw HT_ 1 (some 21) (lb 15 3) ?_
          refine pw HT_ 2 (some 22) (lb 15 7) ?_
          refine pw HT_ 3 (some 23) (lb 15 15) ?_
          refine pw HT_ 4 (some 24) (lb 15 31) ?_
          refine pw HT_ 6 (some 26) (lb 15 95) ?_
          refine pw HT_ 7 (some 27) (lb 15 223) ?_
          refine pw HT_ 8 (some 28) (lb 15 479) ?_
          refine pw HT_ 9 (some 29) (lb 15 991) ?_
          refine pw HT_ 10 (some 30) (lb 15 2015) ?_
          refine take_ (i := 5) (N := some 25) (v := ?_) (a' := ?_) (lb 15 2047) rfl rfl (take_ofW HT_.out HW_.out (by kernel_rfl)) (fun _ _ _ h => h) (Or.inl ⟨by rfl, ?_⟩) hHeld ?_ ?_
          rotate_left
          ·intro w' s0
           go_simp
           with_reducible rfl
          rotate_left
          ·simp only [Act.put, List.setIfInBounds_toArray, List.set_cons_zero, List.set_cons_succ, i64_w, i32_w]
           rfl
          refine one_ (i := 11) (N := some 31) (lb 15 4095) rfl rfl (one_of HT_.out (by kernel_rfl)) (by decide) (fun K hK => ?_)
          refine goes_ Try.func79 (by kernel_rfl) rfl #[.pointer (some ⟨g, 0, none⟩), .string (rdOf ByteArray.empty t475 x6_1), .slice A19 y484.length c19] (by rfl) rfl rfl mxp ?_
          with_reducible refine (spec_l5Phase.calls k1 g s0_0 x1001_1 (rdOf ByteArray.empty t475 x6_1) _ _ y484 t488 t489 t490 t491 t492 t493 t494 t495 t496 w0 _ ?side1 ?side2 ?side3 ?side4 ?side5 A16.out).mono ?_
          (case side1 => exact ib HI0.out)
          (case side2 => exact bi HB.out)
          (case side3 => repeat (first | exact (by repeat (first | (with_reducible exact HR487.out) | (with_reducible refine Kd.C_alloc ?_ _) | (with_reducible refine Kd.C_drewN ?_ _) | (with_reducible refine Kd.C_drew ?_) | exact HR487.out)) | (with_reducible refine Kd.C_alloc ?_ _) | (with_reducible refine Kd.C_drewN ?_ _) | (with_reducible refine Kd.C_drew ?_)))
          (case side4 => exact HC487.out)
          (case side5 => exact far_seen107 (by repeat (first | (with_reducible exact HR487.out) | (with_reducible refine Kd.C_alloc ?_ _) | (with_reducible refine Kd.C_drewN ?_ _) | (with_reducible refine Kd.C_drew ?_) | exact HR487.out)) (ib HI0.out))
          rintro e w20 ⟨rfl, hi, hb, hk⟩
          have HS0_ := keep_cell hk (hHeld) (by first | (rw [add_block]; exact Kd.own_blk (IsS107.own_ne HI0.out HO_3.out (by decide))) | (show (Addr.add _ _).block ≠ _; rw [add_block]; exact Kd.own_blk (IsS107.own_ne HI0.out HO_3.out (by decide))) | exact Kd.own_blk (IsS107.own_ne HI0.out HO_3.out (by decide)))
          refine ⟨_, rfl, ?_⟩
          have n0_ := Aside0.mk (Kd.R_mono (Kd.R_keep (IsS107.apart (show IsS107 w0 _ g s0_0 x1001_1 from ib HI0.out) (rx HO_3.out) (by decide)) hk (fun _ h => h.2)) (fun _ h => h.1))
          have n1_ := Aside0.mk (Kd.R_mono (Kd.R_keep (IsS107.apart (show IsS107 w0 _ g s0_0 x1001_1 from ib HI0.out) (rx HO_5.out) (by decide)) hk (fun _ h => h.2)) (fun _ h => h.1))
          have n2_ := kt HK hk
          have n3_ := Aside0.mk (hb)
          have n4_ := Aside0.mk (hi)
          clear HO_3
          clear HO_5
          clear HK
          clear HB
          clear HI0
          have HO_3 := n0_
          have HO_5 := n1_
          have HK := n2_
          have HB := n3_
          have HI0 := n4_
          clear n0_ n1_ n2_ n3_ n4_
          (try clear hb)
          (try clear hb2)
          (try clear hk)
          (try clear hi)
          refine hK.out _ _ (HS0_) (fun hHeld => ?_)
          clear hK K
          refine norm_ (a' := ?_) ?_ ?_
          rotate_left
          ·show Act.put _ (some 31) _ = _
           simp only [Act.put, List.setIfInBounds_toArray, List.set_cons_zero, List.set_cons_succ, i64_w, i32_w]
           rfl
          refine last_ (i := 12) (N := some 32) (lb 15 8191) rfl rfl (one_of HT_.out (by kernel_rfl)) (by decide) (fun K hK => ?_)
          refine value_ (w1 := ?_) (v := ?_) (by rfl) rfl ?_ ?_
          rotate_left 2
          ·go_simp
           constructor
           ·rfl
           ·rfl
          refine hK.out _ _ ?_
          clear hK K
          refine norm_ (a' := ?_) ?_ ?_
          rotate_left
          ·show Act.put _ (some 32) _ = _
           simp only [Act.put, List.setIfInBounds_toArray, List.set_cons_zero, List.set_cons_succ, i64_w, i32_w]
           rfl
          refine last_ (i := 13) (N := some 33) (lb 15 16383) rfl rfl (one_of HT_.out (by kernel_rfl)) (by decide) (fun K hK => ?_)
          refine Kd.R_append_step k39 w.heap.size (by rfl) (.tmp 20) (.tmp 32) 26 39 (.agg #[(.string ⟨#[]⟩), (.int .i64 0), (.string ⟨#[]⟩), (.string ⟨#[]⟩), (.int .i64 0), (.int .i64 0), (.string ⟨#[]⟩), (.string ⟨#[]⟩)]) 104 rfl Try.underlying26 info39 rfl (by decide) (by omega) u5 x5_1 (⟨t488, t489, t490, t491, t492, t493, t494, t495⟩ : S39) [.string t488, .int .i64 t489, .string t490, .string t491, .int .i64 t492, .int .i64 t493, .string t494, .string t495] (fun _ => True) (fun _ => False) rfl rfl ?aP (fun _ hk => hk.elim) ?aF ?aO (Below.refl _ _) ?aS ?aL ?_
          (case aP => exact k39_mkM _ _ _ (⟨t488, t489, t490, t491, t492, t493, t494, t495⟩ : S39))
          (case aF => exact (fun _ _ => trivial))
          (case aO => exact (rx HO_5.out))
          (case aS => exact (keep_size (w := w) (g := g) (row := none) (kb HK.out)))
          (case aL => have := LMc17.out; omega)
          intro v498 w21 ho hb hg hat
          rw [← Ny497.out] at ho
          have n0_ := Aside0.mk (Kd.R_over' (rx HO_3.out) (Kd.R_typed (rx HO_5.out)) (by decide) hg)
          have n1_ := Aside0.mk (IsS107.grown (ib HI0.out) hg (IsS107.own_ne HI0.out HO_5.out (by decide)))
          have n2_ := Aside0.mk (below_weaken (bi HB.out) HL.out hb)
          have n3_ := Aside0.mk (KeepBut.trans (kb HK.out) (KeepBut.of_grown hg g) (Kd.R_base2 HO_5.out))
          have n4_ := Aside0.mk (ho)
          clear HO_3
          clear HI0
          clear HB
          clear HK
          clear HO_5
          have HO_3 := n0_
          have HI0 := n1_
          have HB := n2_
          have HK := n3_
          have HO499 := n4_
          clear n0_ n1_ n2_ n3_ n4_
          clear ho hb hg hat
          refine hK.out _ _ ?_
          clear hK K
          refine norm_ (a' := ?_) ?_ ?_
          rotate_left
          ·show Act.put _ (some 33) _ = _
           simp only [Act.put, List.setIfInBounds_toArray, List.set_cons_zero, List.set_cons_succ, i64_w, i32_w]
           rfl
          refine pw HT_ 14 (some 5) (lb 15 32767) ?_
          refine done_ (done_of HT_.out (by kernel_rfl)) ?_
          try go_wp2
          go_roundg k1
          case measure => have := HK1.out; omega
          case rel => exact ⟨(y497), (ji12), (t496), (by first | rfl | (simp; done) | (simp only [← hji12] <;> (first | rfl | simp)) | (simp [*]; done)), H', ⟨by have := HK1.out; omega⟩, ⟨by refine rx ?_; exact HO_3.out⟩, ⟨by refine rx ?_; exact HO499.out⟩, ⟨ib HI0.out⟩, ⟨kb HK.out⟩, (hbi HB)⟩
         ·rw [if_neg c17] at H
          exact absurd H (by simp)
        ·rw [if_neg c15] at H
         exact absurd H (by simp)
       ·rw [if_neg c14] at H
        exact absurd H (by simp)
      ·rw [if_neg c13] at H
       exact absurd H (by simp)
     ·rw [if_neg c11] at H
      exact absurd H (by simp)
    ·rw [if_neg c10] at H
     exact absurd H (by simp)
   ·rw [if_neg c9] at H
    have c9b0 : decide (x6_1 < (wrap64 (1 + t478))) = false := decide_eq_false c9
    clear c9
    replace H := Option.bind_eq_some_iff.mp H
    obtain ⟨⟨t500, t501⟩, A220, H⟩ := H
    try dsimp only at H
    have A22 := Aside0.mk A220
    clear A220
    by_cases c23 : t500 = 0
    ·rw [if_pos c23] at H
     have c23b0 : (t500 == 0) = true := beq_iff_eq.mpr c23
     have c23b1 : (t500 != 0) = false := bne_eq_false_iff_eq.mpr c23
     clear c23
     have H' := Aside0.mk H
     clear H
     go_wp2_with (first | ((with_reducible refine gate_callee (f := 64) rfl ?_); refine goesL_ (some 35) rfl rfl Try.func64 (by kernel_rfl) rfl #[.pointer (some ⟨g, 0, none⟩), .int .i64 20] rfl mxp ?_; (with_reducible refine (spec_l1Rd_pick.calls k1 g s0_0 x1001_1 20 t500 t501 w0 _ ?side1 ?side2 A22.out).mono ?_); (case side1 => exact ib HI0.out); (case side2 => exact bi HB.out); rintro e w24 ⟨rfl, hi, hb, hk⟩; refine ⟨_, rfl, ?_⟩; have t_ := And.intro (Aside0.mk (Kd.R_mono (Kd.R_keep (IsS107.apart (show IsS107 w0 _ g s0_0 x1001_1 from ib HI0.out) (rx HO_3.out) (by decide)) hk (fun _ h => h.2)) (fun _ h => h.1))) <| And.intro (Aside0.mk (Kd.R_mono (Kd.R_keep (IsS107.apart (show IsS107 w0 _ g s0_0 x1001_1 from ib HI0.out) (rx HO_5.out) (by decide)) hk (fun _ h => h.2)) (fun _ h => h.1))) <| And.intro (kt HK hk) <| And.intro (Aside0.mk (hb)) <| (Aside0.mk (hi)); clear HO_3 HO_5 HK HB HI0; obtain ⟨HO_3, HO_5, HK, HB, HI0⟩ := t_; (try clear hb); (try clear hb2); (try clear hk); (try clear hi)))
     go_loopg [5, 7] k1 (fun kq v5 v7 w' => ∃ (x5_2 : List (S39)) (x7_2 : Int) (x1001_2 : Int), v7 = .int .i64 x7_2 ∧ Aside0 (spec_l5Recipe.l1 kq x5_2 x7_2 s0_0 x1001_2 = some (r1, r2)) ∧ Aside0 (kq ≤ k1) ∧ Aside0 (Kd.R k39 39 w' w.heap.size (fun _ => True) v5 x5_2) ∧ Aside0 (IsS107 w0 w' g s0_0 x1001_2) ∧ Aside0 (KeepBut w w' g none) ∧ Aside0 (Below w0.heap.size w0 w'))
     case atStart => exact ⟨(x5_1), (0), (t501), (by first | rfl | (simp; done) | (simp [*]; done)), H', ⟨Nat.le_refl _⟩, ⟨by refine rx ?_; exact HO_5.out⟩, ⟨ib HI0.out⟩, ⟨kb HK.out⟩, (hbi HB)⟩
     case round =>
      clear H'
      obtain ⟨x5_2, x7_2, x1001_2, rfl, HA, HK2, HO_5, HI0, HK, HB⟩ := hrel
      cases gk with
      | zero => exact absurd HA.out (by simp [spec_l5Recipe.l1])
      | succ k2 =>
       have H := HA.out
       clear HA
       simp only [spec_l5Recipe.l1] at H
       by_cases c25 : (x5_2.length : Int) < 12
       ·rw [if_pos c25] at H
        have c25b0 : decide ((x5_2.length : Int) < 12) = true := decide_eq_true c25
        have c25b1 : decide (x5_2.length < 12) = true := decide_eq_true (by omega)
        clear c25
        replace H := Option.bind_eq_some_iff.mp H
        obtain ⟨t502, A260, H⟩ := H
        try dsimp only at H
        have A26 := Aside0.mk A260
        clear A260
        by_cases c27 : 1 + t502.size ≤ 9223372036854775807
        ·rw [if_pos c27] at H
         have c27b0 := eq_true c27
         have c27b1 : decide (1 + t502.size ≤ 9223372036854775807) = true := decide_eq_true c27
         try have c27b2 : (9223372036854775807 < 1 + t502.size) = False := eq_false (Nat.not_lt.2 c27)
         obtain ⟨y503, hy503⟩ : ∃ y_ : List ByteArray, y_ = (([] : List ByteArray)) := ⟨_, rfl⟩
         replace H : ((spec_l5Phase.f k2 s0_0 x1001_2 ((⟨#[121]⟩ : ByteArray) ++ t502) y503).bind fun bt506 => (if x5_2.length < 1353245080339 then (spec_l5Recipe.l1 k2 (x5_2 ++ [(⟨bt506.1, bt506.2.1, bt506.2.2.1, bt506.2.2.2.1, bt506.2.2.2.2.1, bt506.2.2.2.2.2.1, bt506.2.2.2.2.2.2.1, bt506.2.2.2.2.2.2.2.1⟩ : S39)]) (wrap64 (x7_2 + 1)) s0_0 bt506.2.2.2.2.2.2.2.2) else (none))) = some (r1, r2) := rpl H hy503
         have Ny503 := Aside0.mk hy503
         clear hy503
         replace H := Option.bind_eq_some_iff.mp H
         obtain ⟨⟨t506, t507, t508, t509, t510, t511, t512, t513, t514⟩, A280, H⟩ := H
         try dsimp only at H
         have A28 := Aside0.mk A280
         clear A280
         by_cases c29 : x5_2.length < 1353245080339
         ·rw [if_pos c29] at H
          have LMc29 := Aside0.mk c29
          clear c29
          obtain ⟨y515, hy515⟩ : ∃ y_ : List (S39), y_ = (x5_2 ++ [(⟨t506, t507, t508, t509, t510, t511, t512, t513⟩ : S39)]) := ⟨_, rfl⟩
          replace H : (spec_l5Recipe.l1 k2 y515 (wrap64 (x7_2 + 1)) s0_0 t514) = some (r1, r2) := rpl H hy515
          have Ny515 := Aside0.mk hy515
          clear hy515
          have H' := Aside0.mk H
          clear H
          obtain ⟨Ao30, co30, eo30⟩ := Kd.R_slice HO_5.out
          subst eo30
          go_wp2_with (first | ((with_reducible refine gate_callee (f := 102) rfl ?_); refine goesL_ (some 45) rfl rfl Try.func102 (by kernel_rfl) rfl #[.int .i64 x7_2] rfl mxp ?_; (with_reducible refine (spec_l3Dec.calls k2 x7_2 t502 _ A26.out).mono ?_); rintro e w31 ⟨rfl, hb⟩; refine ⟨_, rfl, ?_⟩; have t_ := And.intro (Aside0.mk (Kd.R_below (rx HO_5.out) hb)) <| And.intro (Aside0.mk (IsS107.below (ib HI0.out) hb)) <| And.intro (kt HK (KeepBut.of_below hb g none)) <| (bsi HB hb); clear HO_5 HI0 HK HB; obtain ⟨HO_5, HI0, HK, HB⟩ := t_; (try clear hb); (try clear hb2); (try clear hk); (try clear hi)) | ((with_reducible refine gate_dst (N := 47) rfl ?_); refine Kd.R_lit Kd.string _ 9 ?hg (N := 47) ?hd (xs := ([] : List ByteArray)) (inner := []) (ok := fun _ => True) (okp := fun _ => True) ?hr ?hp (fun _ hk => hk) trivial (Below.refl _ _) (Nat.le_refl _) (by simp) ?_; (case hd => rfl); (case hg => rfl); (case hr => first | (go_simp; done) | (go_simp; rfl)); (case hp => exact (Reps.none _ _)); intro v504 w32 ho33 hb hg_ hnew_; clear hg_ hnew_; (first | rw [← Ny503.out] at ho33 | (simp only [Int.reduceToNat] at ho33; rw [← Ny503.out] at ho33)); have t_ := And.intro (Aside0.mk (Kd.R_below (rx HO_5.out) hb)) <| And.intro (Aside0.mk (Kd.R_lower ho33 (keep_size (w := w) (g := g) (row := none) (kb HK.out)))) <| And.intro (Aside0.mk (IsS107.below (ib HI0.out) hb)) <| And.intro (kt HK (KeepBut.of_below hb g none)) <| (bsi HB hb); clear HO_5 HI0 HK HB; obtain ⟨HO_5, HO505, HI0, HK, HB⟩ := t_; clear hb ho33; obtain ⟨Ao34, co34, eo34⟩ := Kd.R_slice HO505.out; subst eo34) | ((with_reducible refine gate_callee (f := 79) rfl ?_); refine goesL_ (some 48) rfl rfl Try.func79 (by kernel_rfl) rfl #[.pointer (some ⟨g, 0, none⟩), .string ((⟨#[121]⟩ : ByteArray) ++ t502), .slice Ao34 y503.length co34] rfl mxp ?_; (with_reducible refine (spec_l5Phase.calls k2 g s0_0 x1001_2 ((⟨#[121]⟩ : ByteArray) ++ t502) _ _ y503 t506 t507 t508 t509 t510 t511 t512 t513 t514 w0 _ ?side1 ?side2 ?side3 ?side4 ?side5 A28.out).mono ?_); (case side1 => exact ib HI0.out); (case side2 => exact bi HB.out); (case side3 => exact cx (Kd.R_reads' HO505.out).2.2); (case side4 => exact (Kd.R_reads' HO505.out).2.1); (case side5 => exact far_slice (IsS107.own_ne HI0.out HO505.out (by decide))); rintro e w35 ⟨rfl, hi, hb, hk⟩; refine ⟨_, rfl, ?_⟩; have t_ := And.intro (Aside0.mk (Kd.R_mono (Kd.R_keep (IsS107.apart (show IsS107 w0 _ g s0_0 x1001_2 from ib HI0.out) (rx HO_5.out) (by decide)) hk (fun _ h => h.2)) (fun _ h => h.1))) <| And.intro (Aside0.mk (Kd.R_mono (Kd.R_keep (IsS107.apart (show IsS107 w0 _ g s0_0 x1001_2 from ib HI0.out) (rx HO505.out) (by decide)) hk (fun _ h => h.2)) (fun _ h => h.1))) <| And.intro (kt HK hk) <| And.intro (Aside0.mk (hb)) <| (Aside0.mk (hi)); clear HO_5 HO505 HK HB HI0; obtain ⟨HO_5, HO505, HK, HB, HI0⟩ := t_; (try clear hb); (try clear hb2); (try clear hk); (try clear hi)) | ((with_reducible refine gate_builtin (b := .append) (xs := #[.tmp 42, .tmp 49]) rfl ?_); at_builtin; refine Kd.R_append k39 w.heap.size rfl (.tmp 42) (.tmp 49) 26 39 (.agg #[(.string ⟨#[]⟩), (.int .i64 0), (.string ⟨#[]⟩), (.string ⟨#[]⟩), (.int .i64 0), (.int .i64 0), (.string ⟨#[]⟩), (.string ⟨#[]⟩)]) 104 rfl Try.underlying26 info39 rfl (by decide) (by omega) (.slice Ao30 x5_2.length co30) x5_2 (⟨t506, t507, t508, t509, t510, t511, t512, t513⟩ : S39) [.string t506, .int .i64 t507, .string t508, .string t509, .int .i64 t510, .int .i64 t511, .string t512, .string t513] (fun _ => True) (fun _ => False) rfl rfl ?aP (fun _ hk => hk.elim) ?aF ?aO (Below.refl _ _) ?aS ?aL ?_; (case aP => exact k39_mkM _ _ _ (⟨t506, t507, t508, t509, t510, t511, t512, t513⟩ : S39)); (case aF => exact (fun _ _ => trivial)); (case aO => exact (rx HO_5.out)); (case aS => exact (keep_size (w := w) (g := g) (row := none) (kb HK.out))); (case aL => have := LMc29.out; omega); intro v516 w36 ho hb hg hat; rw [← Ny515.out] at ho; have t_ := And.intro (Aside0.mk (IsS107.grown (ib HI0.out) hg (IsS107.own_ne HI0.out HO_5.out (by decide)))) <| And.intro (Aside0.mk (Kd.R_over' (rx HO505.out) (Kd.R_typed (rx HO_5.out)) (by decide) hg)) <| And.intro (Aside0.mk (below_weaken (bi HB.out) HL.out hb)) <| And.intro (Aside0.mk (KeepBut.trans (kb HK.out) (KeepBut.of_grown hg g) (Kd.R_base2 HO_5.out))) <| (Aside0.mk (ho)); clear HI0 HO505 HB HK HO_5; obtain ⟨HI0, HO505, HB, HK, HO517⟩ := t_; clear ho hb hg hat))
          go_roundg k2
          case measure => have := HK1.out; have := HK2.out; omega
          case rel => exact ⟨(y515), (wrap64 (x7_2 + 1)), (t514), (by first | rfl | (simp; done) | (simp [*]; done)), H', ⟨by have := HK1.out; have := HK2.out; omega⟩, ⟨by refine rx ?_; exact HO517.out⟩, ⟨ib HI0.out⟩, ⟨kb HK.out⟩, (hbi HB)⟩
         ·rw [if_neg c29] at H
          exact absurd H (by simp)
        ·rw [if_neg c27] at H
         exact absurd H (by simp)
       ·rw [if_neg c25] at H
        have c25b0 : decide ((x5_2.length : Int) < 12) = false := decide_eq_false c25
        have c25b1 : decide (x5_2.length < 12) = false := decide_eq_false (by omega)
        clear c25
        simp only [Option.some.injEq, Prod.mk.injEq] at H
        obtain ⟨rfl, rfl⟩ := H
        obtain ⟨Ao37, co37, eo37⟩ := Kd.R_slice HO_5.out
        subst eo37
        go_wp2
        go_ret
        exact ⟨_, exq, by refine rx ?_; exact HO_5.out, ib HI0.out, bi HB.out, kb HK.out⟩
    ·rw [if_neg c23] at H
     have c23b0 : (t500 == 0) = false := beq_eq_false_iff_ne.mpr c23
     have c23b1 : (t500 != 0) = true := bne_iff_ne.mpr c23
     simp only [Option.some.injEq, Prod.mk.injEq] at H
     obtain ⟨rfl, rfl⟩ := H
     go_wp2_with (first | ((with_reducible refine gate_callee (f := 64) rfl ?_); refine goesL_ (some 35) rfl rfl Try.func64 (by kernel_rfl) rfl #[.pointer (some ⟨g, 0, none⟩), .int .i64 20] rfl mxp ?_; (with_reducible refine (spec_l1Rd_pick.calls k1 g s0_0 x1001_1 20 t500 t501 w0 _ ?side1 ?side2 A22.out).mono ?_); (case side1 => exact ib HI0.out); (case side2 => exact bi HB.out); rintro e w38 ⟨rfl, hi, hb, hk⟩; refine ⟨_, rfl, ?_⟩; have t_ := And.intro (Aside0.mk (Kd.R_mono (Kd.R_keep (IsS107.apart (show IsS107 w0 _ g s0_0 x1001_1 from ib HI0.out) (rx HO_3.out) (by decide)) hk (fun _ h => h.2)) (fun _ h => h.1))) <| And.intro (Aside0.mk (Kd.R_mono (Kd.R_keep (IsS107.apart (show IsS107 w0 _ g s0_0 x1001_1 from ib HI0.out) (rx HO_5.out) (by decide)) hk (fun _ h => h.2)) (fun _ h => h.1))) <| And.intro (kt HK hk) <| And.intro (Aside0.mk (hb)) <| (Aside0.mk (hi)); clear HO_3 HO_5 HK HB HI0; obtain ⟨HO_3, HO_5, HK, HB, HI0⟩ := t_; (try clear hb); (try clear hb2); (try clear hk); (try clear hi)))
     go_ret
     exact ⟨_, exq, by refine rx ?_; exact HO_5.out, ib HI0.out, bi HB.out, kb HK.out⟩


/-! ### spec_l5SpoilPhase: function 82 -/
def spec_l5SpoilPhase.f (k : Nat) (s0_0 : List Int) (s0_1 : Int) (a1_0 : ByteArray) (a1_1 : Int) (a1_2 : ByteArray) (a1_3 : ByteArray) (a1_4 : Int) (a1_5 : Int) (a1_6 : ByteArray) (a1_7 : ByteArray) : Option (ByteArray × Int × ByteArray × ByteArray × Int × Int × ByteArray × ByteArray × Int) := (spec_l1Rd_pick.f k s0_0 s0_1 8).bind fun bt240 => (if bt240.1 = 0 then ((spec_l1Rd_of.f k s0_0 bt240.2 (([(⟨#[]⟩ : ByteArray), (⟨#[65]⟩ : ByteArray), (⟨#[103, 111, 111, 100]⟩ : ByteArray), (⟨#[102, 49]⟩ : ByteArray), (⟨#[110, 105, 110, 101, 45, 98, 121, 116, 101, 115]⟩ : ByteArray)] : List ByteArray))).bind fun bt245 => (some (bt245.1, a1_1, a1_2, a1_3, a1_4, a1_5, a1_6, a1_7, bt245.2))) else (if bt240.1 = 1 then ((spec_l1Rd_pick.f k s0_0 bt240.2 8).bind fun bt247 => (some (a1_0, wrap64 (bt247.1 - 1), a1_2, a1_3, a1_4, a1_5, a1_6, a1_7, bt247.2))) else (if bt240.1 = 2 then ((spec_l1Rd_of.f k s0_0 bt240.2 (([(⟨#[]⟩ : ByteArray), (⟨#[65]⟩ : ByteArray), a1_3, (⟨#[103, 111, 111, 100]⟩ : ByteArray)] : List ByteArray))).bind fun bt252 => (some (a1_0, a1_1, bt252.1, a1_3, a1_4, a1_5, a1_6, a1_7, bt252.2))) else (if bt240.1 = 3 then ((spec_l1Rd_of.f k s0_0 bt240.2 (([(⟨#[]⟩ : ByteArray), (⟨#[65]⟩ : ByteArray), a1_2, (⟨#[103, 111, 111, 100]⟩ : ByteArray)] : List ByteArray))).bind fun bt257 => (some (a1_0, a1_1, a1_2, bt257.1, a1_4, a1_5, a1_6, a1_7, bt257.2))) else (if bt240.1 = 4 then ((some (([(-1), 0, 1, a1_5, wrap64 (a1_5 + 1), 1000, 1001] : List Int) : List Int)).bind fun y259 => ((spec_l1Rd_pick.f k s0_0 bt240.2 7).bind fun bt262 => (if 0 ≤ bt262.1 then (if bt262.1 < (y259.length : Int) then (some (a1_0, a1_1, a1_2, a1_3, rd y259 bt262.1, a1_5, a1_6, a1_7, bt262.2)) else (none)) else (none)))) else (if bt240.1 = 5 then ((some (([(-1), 0, 1, 1000, 1001] : List Int) : List Int)).bind fun y265 => ((spec_l1Rd_pick.f k s0_0 bt240.2 5).bind fun bt268 => (if 0 ≤ bt268.1 then (if bt268.1 < (y265.length : Int) then (some (a1_0, a1_1, a1_2, a1_3, a1_4, rd y265 bt268.1, a1_6, a1_7, bt268.2)) else (none)) else (none)))) else (if bt240.1 = 6 then ((spec_l1Rd_of.f k s0_0 bt240.2 (([(⟨#[]⟩ : ByteArray), (⟨#[98, 114, 101, 119]⟩ : ByteArray), (⟨#[102, 49]⟩ : ByteArray), (⟨#[114, 101, 115, 116]⟩ : ByteArray), (⟨#[110, 111, 110, 101]⟩ : ByteArray)] : List ByteArray))).bind fun bt274 => (some (a1_0, a1_1, a1_2, a1_3, a1_4, a1_5, bt274.1, a1_7, bt274.2))) else ((spec_l1Rd_of.f k s0_0 bt240.2 (([(⟨#[]⟩ : ByteArray), (⟨#[98, 114, 101, 119]⟩ : ByteArray), (⟨#[102, 49]⟩ : ByteArray), (⟨#[114, 101, 115, 116]⟩ : ByteArray), (⟨#[110, 111, 110, 101]⟩ : ByteArray)] : List ByteArray))).bind fun bt279 => (some (a1_0, a1_1, a1_2, a1_3, a1_4, a1_5, a1_6, bt279.1, bt279.2))))))))))
theorem spec_l5SpoilPhase.mono : ∀ a0 a1 a2 a3 a4 a5 a6 a7 a8 a9 k, LeO (spec_l5SpoilPhase.f k a0 a1 a2 a3 a4 a5 a6 a7 a8 a9) (spec_l5SpoilPhase.f (k + 1) a0 a1 a2 a3 a4 a5 a6 a7 a8 a9) := by
 intro a0 a1 a2 a3 a4 a5 a6 a7 a8 a9 k
 unfold spec_l5SpoilPhase.f
 repeat' first
   | (with_reducible exact spec_l1Rd_of.mono _ _ _ _)
   | (with_reducible exact spec_l1Rd_pick.mono _ _ _ _)
   | (with_reducible exact LeO.refl _)
   | (with_reducible exact LeO.none _)
   | (with_reducible refine LeO.ite ?_ ?_)
   | (with_reducible refine LeO.bind ?_ (fun _ => ?_))
   | exact spec_l1Rd_of.mono _ _ _ _
   | exact spec_l1Rd_pick.mono _ _ _ _
   | exact LeO.none _
   | refine LeO.ite ?_ ?_
   | refine LeO.bind ?_ (fun _ => ?_)
def spec_l5SpoilPhase.T12 : Bool × List (List Nat × List Nat) := (true, [([], []), ([0], [0]), ([], []), ([2], [2]), ([3], [3]), ([1, 4], [1, 4]), ([], []), ([6], [6]), ([5, 7], [5, 7]), ([8], [8]), ([0, 1, 2, 3, 4, 5, 6, 7, 8, 9], []), ([10, 9, 7, 0, 1, 2, 3, 4, 5, 6, 7, 8, 9], [9, 10])])
def spec_l5SpoilPhase.B12 : List Nat := [0, 1, 0, 4, 12, 31, 0, 64, 255, 511, 1023, 2047]
theorem spec_l5SpoilPhase.tab12 : rtab .any (opsOf Try.f82 12) = spec_l5SpoilPhase.T12 := by kernel_rfl
theorem spec_l5SpoilPhase.bits12 : waitsOk spec_l5SpoilPhase.T12.2 spec_l5SpoilPhase.B12 = true := by kernel_rfl
set_option maxHeartbeats 8000000 in
set_option maxRecDepth 100000 in
theorem spec_l5SpoilPhase.calls (k : Nat) (g : Nat) (s0_0 : List Int) (s0_1 : Int) (a1_0 : ByteArray) (a1_1 : Int) (a1_2 : ByteArray) (a1_3 : ByteArray) (a1_4 : Int) (a1_5 : Int) (a1_6 : ByteArray) (a1_7 : ByteArray) (r1 : ByteArray) (r2 : Int) (r3 : ByteArray) (r4 : ByteArray) (r5 : Int) (r6 : Int) (r7 : ByteArray) (r8 : ByteArray) (r9 : Int) (w0 w : World) (hI : IsS107 w0 w g s0_0 s0_1) (hB : Below w0.heap.size w0 w) (h : spec_l5SpoilPhase.f k s0_0 s0_1 a1_0 a1_1 a1_2 a1_3 a1_4 a1_5 a1_6 a1_7 = some (r1, r2, r3, r4, r5, r6, r7, r8, r9)) :
  Calls Try.prog 82 #[.pointer (some ⟨g, 0, none⟩), .agg #[.string a1_0, .int .i64 a1_1, .string a1_2, .string a1_3, .int .i64 a1_4, .int .i64 a1_5, .string a1_6, .string a1_7]] w fun e w' => e = .returned (.agg #[.string r1, .int .i64 r2, .string r3, .string r4, .int .i64 r5, .int .i64 r6, .string r7, .string r8]) ∧ IsS107 w0 w' g s0_0 r9 ∧ Below w0.heap.size w0 w' ∧ KeepBut w w' g none := by
 have hu39 := Try.underlying39
 have HI0 := Aside0.mk hI
 have HK := Aside0.mk (KeepBut.refl w g none)
 have HL := Aside0.mk hB.size
 clear hI
 have HW0 := Aside0.mk hB.size
 have HB := Aside0.mk hB
 clear hB
 have H : ((spec_l1Rd_pick.f k s0_0 s0_1 8).bind fun bt240 => (if bt240.1 = 0 then ((spec_l1Rd_of.f k s0_0 bt240.2 (([(⟨#[]⟩ : ByteArray), (⟨#[65]⟩ : ByteArray), (⟨#[103, 111, 111, 100]⟩ : ByteArray), (⟨#[102, 49]⟩ : ByteArray), (⟨#[110, 105, 110, 101, 45, 98, 121, 116, 101, 115]⟩ : ByteArray)] : List ByteArray))).bind fun bt245 => (some (bt245.1, a1_1, a1_2, a1_3, a1_4, a1_5, a1_6, a1_7, bt245.2))) else (if bt240.1 = 1 then ((spec_l1Rd_pick.f k s0_0 bt240.2 8).bind fun bt247 => (some (a1_0, wrap64 (bt247.1 - 1), a1_2, a1_3, a1_4, a1_5, a1_6, a1_7, bt247.2))) else (if bt240.1 = 2 then ((spec_l1Rd_of.f k s0_0 bt240.2 (([(⟨#[]⟩ : ByteArray), (⟨#[65]⟩ : ByteArray), a1_3, (⟨#[103, 111, 111, 100]⟩ : ByteArray)] : List ByteArray))).bind fun bt252 => (some (a1_0, a1_1, bt252.1, a1_3, a1_4, a1_5, a1_6, a1_7, bt252.2))) else (if bt240.1 = 3 then ((spec_l1Rd_of.f k s0_0 bt240.2 (([(⟨#[]⟩ : ByteArray), (⟨#[65]⟩ : ByteArray), a1_2, (⟨#[103, 111, 111, 100]⟩ : ByteArray)] : List ByteArray))).bind fun bt257 => (some (a1_0, a1_1, a1_2, bt257.1, a1_4, a1_5, a1_6, a1_7, bt257.2))) else (if bt240.1 = 4 then ((some (([(-1), 0, 1, a1_5, wrap64 (a1_5 + 1), 1000, 1001] : List Int) : List Int)).bind fun y259 => ((spec_l1Rd_pick.f k s0_0 bt240.2 7).bind fun bt262 => (if 0 ≤ bt262.1 then (if bt262.1 < (y259.length : Int) then (some (a1_0, a1_1, a1_2, a1_3, rd y259 bt262.1, a1_5, a1_6, a1_7, bt262.2)) else (none)) else (none)))) else (if bt240.1 = 5 then ((some (([(-1), 0, 1, 1000, 1001] : List Int) : List Int)).bind fun y265 => ((spec_l1Rd_pick.f k s0_0 bt240.2 5).bind fun bt268 => (if 0 ≤ bt268.1 then (if bt268.1 < (y265.length : Int) then (some (a1_0, a1_1, a1_2, a1_3, a1_4, rd y265 bt268.1, a1_6, a1_7, bt268.2)) else (none)) else (none)))) else (if bt240.1 = 6 then ((spec_l1Rd_of.f k s0_0 bt240.2 (([(⟨#[]⟩ : ByteArray), (⟨#[98, 114, 101, 119]⟩ : ByteArray), (⟨#[102, 49]⟩ : ByteArray), (⟨#[114, 101, 115, 116]⟩ : ByteArray), (⟨#[110, 111, 110, 101]⟩ : ByteArray)] : List ByteArray))).bind fun bt274 => (some (a1_0, a1_1, a1_2, a1_3, a1_4, a1_5, bt274.1, a1_7, bt274.2))) else ((spec_l1Rd_of.f k s0_0 bt240.2 (([(⟨#[]⟩ : ByteArray), (⟨#[98, 114, 101, 119]⟩ : ByteArray), (⟨#[102, 49]⟩ : ByteArray), (⟨#[114, 101, 115, 116]⟩ : ByteArray), (⟨#[110, 111, 110, 101]⟩ : ByteArray)] : List ByteArray))).bind fun bt279 => (some (a1_0, a1_1, a1_2, a1_3, a1_4, a1_5, a1_6, bt279.1, bt279.2))))))))))) = some (r1, r2, r3, r4, r5, r6, r7, r8, r9) := h
 clear h
 replace H := Option.bind_eq_some_iff.mp H
 obtain ⟨⟨t240, t241⟩, A30, H⟩ := H
 try dsimp only at H
 have A3 := Aside0.mk A30
 clear A30
 by_cases c4 : t240 = 0
 ·rw [if_pos c4] at H
  have c4b0 : (t240 == 0) = true := beq_iff_eq.mpr c4
  have c4b1 : (t240 != 0) = false := bne_eq_false_iff_eq.mpr c4
  clear c4
  obtain ⟨y242, hy242⟩ : ∃ y_ : List ByteArray, y_ = (([(⟨#[]⟩ : ByteArray), (⟨#[65]⟩ : ByteArray), (⟨#[103, 111, 111, 100]⟩ : ByteArray), (⟨#[102, 49]⟩ : ByteArray), (⟨#[110, 105, 110, 101, 45, 98, 121, 116, 101, 115]⟩ : ByteArray)] : List ByteArray)) := ⟨_, rfl⟩
  replace H : ((spec_l1Rd_of.f k s0_0 t241 y242).bind fun bt245 => (some (bt245.1, a1_1, a1_2, a1_3, a1_4, a1_5, a1_6, a1_7, bt245.2))) = some (r1, r2, r3, r4, r5, r6, r7, r8, r9) := rpl H hy242
  have Ny242 := Aside0.mk hy242
  clear hy242
  replace H := Option.bind_eq_some_iff.mp H
  obtain ⟨⟨t245, t246⟩, A50, H⟩ := H
  try dsimp only at H
  have A5 := Aside0.mk A50
  clear A50
  simp only [Option.some.injEq, Prod.mk.injEq] at H
  obtain ⟨rfl, rfl, rfl, rfl, rfl, rfl, rfl, rfl, rfl⟩ := H
  go_enter Try.func82, Try.ntmps82
  go_wp2_with (first | ((with_reducible refine gate_dst (N := 3) rfl ?_); refine box_event ?hg (N := 3) ?hd (cs := #[.string a1_0, .int .i64 a1_1, .string a1_2, .string a1_3, .int .i64 a1_4, .int .i64 a1_5, .string a1_6, .string a1_7]) (t := 39) ?hr ?_; (case hd => rfl); (case hg => rfl); (case hr => first | (go_simp; done) | (go_simp; rfl)); intro gb238 hg w6 hbox hb; have t_ := And.intro (Aside0.mk (IsS107.below (ib HI0.out) hb)) <| And.intro (kt HK (KeepBut.of_below hb g none)) <| And.intro (bsi HB hb) <| And.intro (Aside0.mk (hbox)) <| And.intro (Aside0.mk ((by rw [hg]; exact (keep_size (w := w) (g := g) (row := none) (kb HK.out)) : w.heap.size ≤ gb238))) <| And.intro (Aside0.mk ((Nat.le_trans HW0.out (by rw [hg]; exact (keep_size (w := w) (g := g) (row := none) (kb HK.out)) : w.heap.size ≤ gb238) : w0.heap.size ≤ gb238))) <| And.intro (Aside0.mk ((by rw [hg]; exact Nat.ne_of_lt (IsS107.lt (show IsS107 w0 _ g s0_0 s0_1 from ib HI0.out)) : g ≠ gb238))) <| (Aside0.mk ((by rw [hg]; exact Nat.ne_of_gt (IsS107.lt (show IsS107 w0 _ g s0_0 s0_1 from ib HI0.out)) : gb238 ≠ g))); clear HI0 HK HB; obtain ⟨HI0, HK, HB, BK238, GW238, GE238, NB0_238, NB238_0⟩ := t_; clear hb hbox hg) | ((with_reducible refine gate_dst (N := 4) rfl ?_); refine box_event ?hg (N := 4) ?hd (cs := #[.string (⟨#[]⟩ : ByteArray), .int .i64 0, .string (⟨#[]⟩ : ByteArray), .string (⟨#[]⟩ : ByteArray), .int .i64 0, .int .i64 0, .string (⟨#[]⟩ : ByteArray), .string (⟨#[]⟩ : ByteArray)]) (t := 39) ?hr ?_; (case hd => rfl); (case hg => rfl); (case hr => first | (go_simp; done) | (go_simp; rfl)); intro gb239 hg w7 hbox hb; have t_ := And.intro (Aside0.mk (IsS107.below (ib HI0.out) hb)) <| And.intro (up BK238 hb) <| And.intro (kt HK (KeepBut.of_below hb g none)) <| And.intro (bsi HB hb) <| And.intro (Aside0.mk (hbox)) <| And.intro (Aside0.mk ((by rw [hg]; exact (keep_size (w := w) (g := g) (row := none) (kb HK.out)) : w.heap.size ≤ gb239))) <| And.intro (Aside0.mk ((Nat.le_trans HW0.out (by rw [hg]; exact (keep_size (w := w) (g := g) (row := none) (kb HK.out)) : w.heap.size ≤ gb239) : w0.heap.size ≤ gb239))) <| And.intro (nlt' hg BK238) <| And.intro (ngt' hg BK238) <| And.intro (Aside0.mk ((by rw [hg]; exact Nat.ne_of_lt (IsS107.lt (show IsS107 w0 _ g s0_0 s0_1 from ib HI0.out)) : g ≠ gb239))) <| (Aside0.mk ((by rw [hg]; exact Nat.ne_of_gt (IsS107.lt (show IsS107 w0 _ g s0_0 s0_1 from ib HI0.out)) : gb239 ≠ g))); clear HI0 BK238 HK HB; obtain ⟨HI0, BK238, HK, HB, BK239, GW239, GE239, NB238_239, NB239_238, NB0_239, NB239_0⟩ := t_; clear hb hbox hg) | ((with_reducible refine gate_callee (f := 64) rfl ?_); refine goesL_ (some 6) rfl rfl Try.func64 (by kernel_rfl) rfl #[.pointer (some ⟨g, 0, none⟩), .int .i64 8] rfl mxp ?_; (with_reducible refine (spec_l1Rd_pick.calls k g s0_0 s0_1 8 t240 t241 w0 _ ?side1 ?side2 A3.out).mono ?_); (case side1 => exact ib HI0.out); (case side2 => exact bi HB.out); rintro e w8 ⟨rfl, hi, hb, hk⟩; refine ⟨_, rfl, ?_⟩; have t_ := And.intro (kp BK238 hk NB238_0) <| And.intro (kp BK239 hk NB239_0) <| And.intro (kt HK hk) <| And.intro (Aside0.mk (hb)) <| (Aside0.mk (hi)); clear BK238 BK239 HK HB HI0; obtain ⟨BK238, BK239, HK, HB, HI0⟩ := t_; (try clear hb); (try clear hb2); (try clear hk); (try clear hi)) | ((with_reducible refine gate_dst (N := 14) rfl ?_); refine Kd.R_lit Kd.string _ 9 ?hg (N := 14) ?hd (xs := ([(⟨#[]⟩ : ByteArray), (⟨#[65]⟩ : ByteArray), (⟨#[103, 111, 111, 100]⟩ : ByteArray), (⟨#[102, 49]⟩ : ByteArray), (⟨#[110, 105, 110, 101, 45, 98, 121, 116, 101, 115]⟩ : ByteArray)] : List ByteArray)) (inner := [.string (⟨#[]⟩ : ByteArray), .string (⟨#[65]⟩ : ByteArray), .string (⟨#[103, 111, 111, 100]⟩ : ByteArray), .string (⟨#[102, 49]⟩ : ByteArray), .string (⟨#[110, 105, 110, 101, 45, 98, 121, 116, 101, 115]⟩ : ByteArray)]) (ok := fun _ => True) (okp := fun _ => True) ?hr ?hp (fun _ hk => hk) trivial (Below.refl _ _) (Nat.le_refl _) (by simp) ?_; (case hd => rfl); (case hg => rfl); (case hr => first | (go_simp; done) | (go_simp; rfl)); (case hp => exact (Reps.one (show Kd.M Kd.string _ _ _ (⟨#[]⟩ : ByteArray) [.string (⟨#[]⟩ : ByteArray)] from rfl) (Reps.one (show Kd.M Kd.string _ _ _ (⟨#[65]⟩ : ByteArray) [.string (⟨#[65]⟩ : ByteArray)] from rfl) (Reps.one (show Kd.M Kd.string _ _ _ (⟨#[103, 111, 111, 100]⟩ : ByteArray) [.string (⟨#[103, 111, 111, 100]⟩ : ByteArray)] from rfl) (Reps.one (show Kd.M Kd.string _ _ _ (⟨#[102, 49]⟩ : ByteArray) [.string (⟨#[102, 49]⟩ : ByteArray)] from rfl) (Reps.one (show Kd.M Kd.string _ _ _ (⟨#[110, 105, 110, 101, 45, 98, 121, 116, 101, 115]⟩ : ByteArray) [.string (⟨#[110, 105, 110, 101, 45, 98, 121, 116, 101, 115]⟩ : ByteArray)] from rfl) (Reps.none _ _))))))); intro v243 w9 ho10 hb hg_ hnew_; clear hg_ hnew_; (first | rw [← Ny242.out] at ho10 | (simp only [Int.reduceToNat] at ho10; rw [← Ny242.out] at ho10)); have t_ := And.intro (Aside0.mk (Kd.R_lower ho10 (keep_size (w := w) (g := g) (row := none) (kb HK.out)))) <| And.intro (Aside0.mk (IsS107.below (ib HI0.out) hb)) <| And.intro (up BK238 hb) <| And.intro (up BK239 hb) <| And.intro (kt HK (KeepBut.of_below hb g none)) <| (bsi HB hb); clear HI0 BK238 BK239 HK HB; obtain ⟨HO244, HI0, BK238, BK239, HK, HB⟩ := t_; clear hb ho10; obtain ⟨Ao11, co11, eo11⟩ := Kd.R_slice HO244.out; subst eo11) | ((with_reducible refine gate_callee (f := 80) rfl ?_); refine goesL_ (some 15) rfl rfl Try.func80 (by kernel_rfl) rfl #[.pointer (some ⟨g, 0, none⟩), .slice Ao11 y242.length co11] rfl mxp ?_; (with_reducible refine (spec_l1Rd_of.calls k g s0_0 t241 _ _ y242 t245 t246 w0 _ ?side1 ?side2 ?side3 ?side4 ?side5 A5.out).mono ?_); (case side1 => exact ib HI0.out); (case side2 => exact bi HB.out); (case side3 => exact cx (Kd.R_reads' HO244.out).2.2); (case side4 => exact (Kd.R_reads' HO244.out).2.1); (case side5 => exact far_slice (IsS107.own_ne HI0.out HO244.out (by decide))); rintro e w12 ⟨rfl, hi, hb, hk⟩; refine ⟨_, rfl, ?_⟩; have t_ := And.intro (kp BK238 hk NB238_0) <| And.intro (kp BK239 hk NB239_0) <| And.intro (Aside0.mk (Kd.R_mono (Kd.R_keep (IsS107.apart (show IsS107 w0 _ g s0_0 t241 from ib HI0.out) (rx HO244.out) (by decide)) hk (fun _ h => h.2)) (fun _ h => h.1))) <| And.intro (kt HK hk) <| And.intro (Aside0.mk (hb)) <| (Aside0.mk (hi)); clear BK238 BK239 HO244 HK HB HI0; obtain ⟨BK238, BK239, HO244, HK, HB, HI0⟩ := t_; (try clear hb); (try clear hb2); (try clear hk); (try clear hi); have hnb13 := NB238_239.out; have hnc13 := NB239_238.out; have hnb14 := NB238_0.out; have hnc14 := NB0_238.out; have hcz15_0 := b0 BK238; have hcz15_1 := b1 BK238; have hcz15_2 := b2 BK238; have hcz15_3 := b3 BK238; have hcz15_4 := b4 BK238; have hcz15_5 := b5 BK238; have hcz15_6 := b6 BK238; have hcz15_7 := b7 BK238; have hfz15_0 := fz BK238 0; have hfz15_1 := fz BK238 1; have hfz15_2 := fz BK238 2; have hfz15_3 := fz BK238 3; have hfz15_4 := fz BK238 4; have hfz15_5 := fz BK238 5; have hfz15_6 := fz BK238 6; have hfz15_7 := fz BK238 7; have hnb16 := NB239_0.out; have hnc16 := NB0_239.out; have hcz17_0 := b0 BK239; have hcz17_1 := b1 BK239; have hcz17_2 := b2 BK239; have hcz17_3 := b3 BK239; have hcz17_4 := b4 BK239; have hcz17_5 := b5 BK239; have hcz17_6 := b6 BK239; have hcz17_7 := b7 BK239; have hfz17_0 := fz BK239 0; have hfz17_1 := fz BK239 1; have hfz17_2 := fz BK239 2; have hfz17_3 := fz BK239 3; have hfz17_4 := fz BK239 4; have hfz17_5 := fz BK239 5; have hfz17_6 := fz BK239 6; have hfz17_7 := fz BK239 7))
  refine bodyPost_ret (results_cell_row rfl _ _ gb239 39 #[.string t245, .int .i64 a1_1, .string a1_2, .string a1_3, .int .i64 a1_4, .int .i64 a1_5, .string a1_6, .string a1_7] (0, 0) _ rfl (by refine bx ?_; refine blk_put (cs := #[.string t245, .int .i64 a1_1, .string a1_2, .string a1_3, .int .i64 a1_4, .int .i64 a1_5, .string a1_6, .string (⟨#[]⟩ : ByteArray)]) ?_ 7 _ rfl; refine bx ?_; refine blk_put (cs := #[.string t245, .int .i64 a1_1, .string a1_2, .string a1_3, .int .i64 a1_4, .int .i64 a1_5, .string (⟨#[]⟩ : ByteArray), .string (⟨#[]⟩ : ByteArray)]) ?_ 6 _ rfl; refine bx ?_; refine blk_put (cs := #[.string t245, .int .i64 a1_1, .string a1_2, .string a1_3, .int .i64 a1_4, .int .i64 0, .string (⟨#[]⟩ : ByteArray), .string (⟨#[]⟩ : ByteArray)]) ?_ 5 _ rfl; refine bx ?_; refine blk_put (cs := #[.string t245, .int .i64 a1_1, .string a1_2, .string a1_3, .int .i64 0, .int .i64 0, .string (⟨#[]⟩ : ByteArray), .string (⟨#[]⟩ : ByteArray)]) ?_ 4 _ rfl; refine bx ?_; refine blk_put (cs := #[.string t245, .int .i64 a1_1, .string a1_2, .string (⟨#[]⟩ : ByteArray), .int .i64 0, .int .i64 0, .string (⟨#[]⟩ : ByteArray), .string (⟨#[]⟩ : ByteArray)]) ?_ 3 _ rfl; refine bx ?_; refine blk_put (cs := #[.string t245, .int .i64 a1_1, .string (⟨#[]⟩ : ByteArray), .string (⟨#[]⟩ : ByteArray), .int .i64 0, .int .i64 0, .string (⟨#[]⟩ : ByteArray), .string (⟨#[]⟩ : ByteArray)]) ?_ 2 _ rfl; refine bx ?_; refine blk_put (cs := #[.string t245, .int .i64 0, .string (⟨#[]⟩ : ByteArray), .string (⟨#[]⟩ : ByteArray), .int .i64 0, .int .i64 0, .string (⟨#[]⟩ : ByteArray), .string (⟨#[]⟩ : ByteArray)]) ?_ 1 _ rfl; refine bx ?_; refine blk_put (cs := #[.string (⟨#[]⟩ : ByteArray), .int .i64 0, .string (⟨#[]⟩ : ByteArray), .string (⟨#[]⟩ : ByteArray), .int .i64 0, .int .i64 0, .string (⟨#[]⟩ : ByteArray), .string (⟨#[]⟩ : ByteArray)]) ?_ 0 _ rfl; refine bx ?_; refine blk_far ?_ NB239_238.out _; refine bx ?_; exact BK239.out) Try.underlying39 rfl (by kernel_rfl)) rfl ?_
  exact ⟨exq, ib HI0.out, bi HB.out, kb HK.out⟩
 ·rw [if_neg c4] at H
  have c4b0 : (t240 == 0) = false := beq_eq_false_iff_ne.mpr c4
  have c4b1 : (t240 != 0) = true := bne_iff_ne.mpr c4
  by_cases c18 : t240 = 1
  ·rw [if_pos c18] at H
   have c18b0 : (t240 == 1) = true := beq_iff_eq.mpr c18
   have c18b1 : (t240 != 1) = false := bne_eq_false_iff_eq.mpr c18
   clear c18
   replace H := Option.bind_eq_some_iff.mp H
   obtain ⟨⟨t247, t248⟩, A190, H⟩ := H
   try dsimp only at H
   have A19 := Aside0.mk A190
   clear A190
   simp only [Option.some.injEq, Prod.mk.injEq] at H
   obtain ⟨rfl, rfl, rfl, rfl, rfl, rfl, rfl, rfl, rfl⟩ := H
   go_enter Try.func82, Try.ntmps82
   go_wp2_with (first | ((with_reducible refine gate_dst (N := 3) rfl ?_); refine box_event ?hg (N := 3) ?hd (cs := #[.string a1_0, .int .i64 a1_1, .string a1_2, .string a1_3, .int .i64 a1_4, .int .i64 a1_5, .string a1_6, .string a1_7]) (t := 39) ?hr ?_; (case hd => rfl); (case hg => rfl); (case hr => first | (go_simp; done) | (go_simp; rfl)); intro gb238 hg w20 hbox hb; have t_ := And.intro (Aside0.mk (IsS107.below (ib HI0.out) hb)) <| And.intro (kt HK (KeepBut.of_below hb g none)) <| And.intro (bsi HB hb) <| And.intro (Aside0.mk (hbox)) <| And.intro (Aside0.mk ((by rw [hg]; exact (keep_size (w := w) (g := g) (row := none) (kb HK.out)) : w.heap.size ≤ gb238))) <| And.intro (Aside0.mk ((Nat.le_trans HW0.out (by rw [hg]; exact (keep_size (w := w) (g := g) (row := none) (kb HK.out)) : w.heap.size ≤ gb238) : w0.heap.size ≤ gb238))) <| And.intro (Aside0.mk ((by rw [hg]; exact Nat.ne_of_lt (IsS107.lt (show IsS107 w0 _ g s0_0 s0_1 from ib HI0.out)) : g ≠ gb238))) <| (Aside0.mk ((by rw [hg]; exact Nat.ne_of_gt (IsS107.lt (show IsS107 w0 _ g s0_0 s0_1 from ib HI0.out)) : gb238 ≠ g))); clear HI0 HK HB; obtain ⟨HI0, HK, HB, BK238, GW238, GE238, NB0_238, NB238_0⟩ := t_; clear hb hbox hg) | ((with_reducible refine gate_dst (N := 4) rfl ?_); refine box_event ?hg (N := 4) ?hd (cs := #[.string (⟨#[]⟩ : ByteArray), .int .i64 0, .string (⟨#[]⟩ : ByteArray), .string (⟨#[]⟩ : ByteArray), .int .i64 0, .int .i64 0, .string (⟨#[]⟩ : ByteArray), .string (⟨#[]⟩ : ByteArray)]) (t := 39) ?hr ?_; (case hd => rfl); (case hg => rfl); (case hr => first | (go_simp; done) | (go_simp; rfl)); intro gb239 hg w21 hbox hb; have t_ := And.intro (Aside0.mk (IsS107.below (ib HI0.out) hb)) <| And.intro (up BK238 hb) <| And.intro (kt HK (KeepBut.of_below hb g none)) <| And.intro (bsi HB hb) <| And.intro (Aside0.mk (hbox)) <| And.intro (Aside0.mk ((by rw [hg]; exact (keep_size (w := w) (g := g) (row := none) (kb HK.out)) : w.heap.size ≤ gb239))) <| And.intro (Aside0.mk ((Nat.le_trans HW0.out (by rw [hg]; exact (keep_size (w := w) (g := g) (row := none) (kb HK.out)) : w.heap.size ≤ gb239) : w0.heap.size ≤ gb239))) <| And.intro (nlt' hg BK238) <| And.intro (ngt' hg BK238) <| And.intro (Aside0.mk ((by rw [hg]; exact Nat.ne_of_lt (IsS107.lt (show IsS107 w0 _ g s0_0 s0_1 from ib HI0.out)) : g ≠ gb239))) <| (Aside0.mk ((by rw [hg]; exact Nat.ne_of_gt (IsS107.lt (show IsS107 w0 _ g s0_0 s0_1 from ib HI0.out)) : gb239 ≠ g))); clear HI0 BK238 HK HB; obtain ⟨HI0, BK238, HK, HB, BK239, GW239, GE239, NB238_239, NB239_238, NB0_239, NB239_0⟩ := t_; clear hb hbox hg) | ((with_reducible refine gate_callee (f := 64) rfl ?_); refine goesL_ (some 6) rfl rfl Try.func64 (by kernel_rfl) rfl #[.pointer (some ⟨g, 0, none⟩), .int .i64 8] rfl mxp ?_; (with_reducible refine (spec_l1Rd_pick.calls k g s0_0 s0_1 8 t240 t241 w0 _ ?side1 ?side2 A3.out).mono ?_); (case side1 => exact ib HI0.out); (case side2 => exact bi HB.out); rintro e w22 ⟨rfl, hi, hb, hk⟩; refine ⟨_, rfl, ?_⟩; have t_ := And.intro (kp BK238 hk NB238_0) <| And.intro (kp BK239 hk NB239_0) <| And.intro (kt HK hk) <| And.intro (Aside0.mk (hb)) <| (Aside0.mk (hi)); clear BK238 BK239 HK HB HI0; obtain ⟨BK238, BK239, HK, HB, HI0⟩ := t_; (try clear hb); (try clear hb2); (try clear hk); (try clear hi)) | ((with_reducible refine gate_callee (f := 64) rfl ?_); refine goesL_ (some 20) rfl rfl Try.func64 (by kernel_rfl) rfl #[.pointer (some ⟨g, 0, none⟩), .int .i64 8] rfl mxp ?_; (with_reducible refine (spec_l1Rd_pick.calls k g s0_0 t241 8 t247 t248 w0 _ ?side1 ?side2 A19.out).mono ?_); (case side1 => exact ib HI0.out); (case side2 => exact bi HB.out); rintro e w23 ⟨rfl, hi, hb, hk⟩; refine ⟨_, rfl, ?_⟩; have t_ := And.intro (kp BK238 hk NB238_0) <| And.intro (kp BK239 hk NB239_0) <| And.intro (kt HK hk) <| And.intro (Aside0.mk (hb)) <| (Aside0.mk (hi)); clear BK238 BK239 HK HB HI0; obtain ⟨BK238, BK239, HK, HB, HI0⟩ := t_; (try clear hb); (try clear hb2); (try clear hk); (try clear hi); have hnb24 := NB238_239.out; have hnc24 := NB239_238.out; have hnb25 := NB238_0.out; have hnc25 := NB0_238.out; have hcz26_0 := b0 BK238; have hcz26_1 := b1 BK238; have hcz26_2 := b2 BK238; have hcz26_3 := b3 BK238; have hcz26_4 := b4 BK238; have hcz26_5 := b5 BK238; have hcz26_6 := b6 BK238; have hcz26_7 := b7 BK238; have hfz26_0 := fz BK238 0; have hfz26_1 := fz BK238 1; have hfz26_2 := fz BK238 2; have hfz26_3 := fz BK238 3; have hfz26_4 := fz BK238 4; have hfz26_5 := fz BK238 5; have hfz26_6 := fz BK238 6; have hfz26_7 := fz BK238 7; have hnb27 := NB239_0.out; have hnc27 := NB0_239.out; have hcz28_0 := b0 BK239; have hcz28_1 := b1 BK239; have hcz28_2 := b2 BK239; have hcz28_3 := b3 BK239; have hcz28_4 := b4 BK239; have hcz28_5 := b5 BK239; have hcz28_6 := b6 BK239; have hcz28_7 := b7 BK239; have hfz28_0 := fz BK239 0; have hfz28_1 := fz BK239 1; have hfz28_2 := fz BK239 2; have hfz28_3 := fz BK239 3; have hfz28_4 := fz BK239 4; have hfz28_5 := fz BK239 5; have hfz28_6 := fz BK239 6; have hfz28_7 := fz BK239 7))
   refine bodyPost_ret (results_cell_row rfl _ _ gb239 39 #[.string a1_0, .int .i64 (wrap64 (t247 - 1)), .string a1_2, .string a1_3, .int .i64 a1_4, .int .i64 a1_5, .string a1_6, .string a1_7] (0, 0) _ rfl (by refine bx ?_; refine blk_put (cs := #[.string a1_0, .int .i64 (wrap64 (t247 - 1)), .string a1_2, .string a1_3, .int .i64 a1_4, .int .i64 a1_5, .string a1_6, .string (⟨#[]⟩ : ByteArray)]) ?_ 7 _ rfl; refine bx ?_; refine blk_put (cs := #[.string a1_0, .int .i64 (wrap64 (t247 - 1)), .string a1_2, .string a1_3, .int .i64 a1_4, .int .i64 a1_5, .string (⟨#[]⟩ : ByteArray), .string (⟨#[]⟩ : ByteArray)]) ?_ 6 _ rfl; refine bx ?_; refine blk_put (cs := #[.string a1_0, .int .i64 (wrap64 (t247 - 1)), .string a1_2, .string a1_3, .int .i64 a1_4, .int .i64 0, .string (⟨#[]⟩ : ByteArray), .string (⟨#[]⟩ : ByteArray)]) ?_ 5 _ rfl; refine bx ?_; refine blk_put (cs := #[.string a1_0, .int .i64 (wrap64 (t247 - 1)), .string a1_2, .string a1_3, .int .i64 0, .int .i64 0, .string (⟨#[]⟩ : ByteArray), .string (⟨#[]⟩ : ByteArray)]) ?_ 4 _ rfl; refine bx ?_; refine blk_put (cs := #[.string a1_0, .int .i64 (wrap64 (t247 - 1)), .string a1_2, .string (⟨#[]⟩ : ByteArray), .int .i64 0, .int .i64 0, .string (⟨#[]⟩ : ByteArray), .string (⟨#[]⟩ : ByteArray)]) ?_ 3 _ rfl; refine bx ?_; refine blk_put (cs := #[.string a1_0, .int .i64 (wrap64 (t247 - 1)), .string (⟨#[]⟩ : ByteArray), .string (⟨#[]⟩ : ByteArray), .int .i64 0, .int .i64 0, .string (⟨#[]⟩ : ByteArray), .string (⟨#[]⟩ : ByteArray)]) ?_ 2 _ rfl; refine bx ?_; refine blk_put (cs := #[.string a1_0, .int .i64 0, .string (⟨#[]⟩ : ByteArray), .string (⟨#[]⟩ : ByteArray), .int .i64 0, .int .i64 0, .string (⟨#[]⟩ : ByteArray), .string (⟨#[]⟩ : ByteArray)]) ?_ 1 _ rfl; refine bx ?_; refine blk_put (cs := #[.string (⟨#[]⟩ : ByteArray), .int .i64 0, .string (⟨#[]⟩ : ByteArray), .string (⟨#[]⟩ : ByteArray), .int .i64 0, .int .i64 0, .string (⟨#[]⟩ : ByteArray), .string (⟨#[]⟩ : ByteArray)]) ?_ 0 _ rfl; refine bx ?_; refine blk_far ?_ NB239_238.out _; refine bx ?_; exact BK239.out) Try.underlying39 rfl (by kernel_rfl)) rfl ?_
   exact ⟨exq, ib HI0.out, bi HB.out, kb HK.out⟩
  ·rw [if_neg c18] at H
   have c18b0 : (t240 == 1) = false := beq_eq_false_iff_ne.mpr c18
   have c18b1 : (t240 != 1) = true := bne_iff_ne.mpr c18
   by_cases c29 : t240 = 2
   ·rw [if_pos c29] at H
    have c29b0 : (t240 == 2) = true := beq_iff_eq.mpr c29
    have c29b1 : (t240 != 2) = false := bne_eq_false_iff_eq.mpr c29
    clear c29
    obtain ⟨y249, hy249⟩ : ∃ y_ : List ByteArray, y_ = (([(⟨#[]⟩ : ByteArray), (⟨#[65]⟩ : ByteArray), a1_3, (⟨#[103, 111, 111, 100]⟩ : ByteArray)] : List ByteArray)) := ⟨_, rfl⟩
    replace H : ((spec_l1Rd_of.f k s0_0 t241 y249).bind fun bt252 => (some (a1_0, a1_1, bt252.1, a1_3, a1_4, a1_5, a1_6, a1_7, bt252.2))) = some (r1, r2, r3, r4, r5, r6, r7, r8, r9) := rpl H hy249
    have Ny249 := Aside0.mk hy249
    clear hy249
    replace H := Option.bind_eq_some_iff.mp H
    obtain ⟨⟨t252, t253⟩, A300, H⟩ := H
    try dsimp only at H
    have A30 := Aside0.mk A300
    clear A300
    simp only [Option.some.injEq, Prod.mk.injEq] at H
    obtain ⟨rfl, rfl, rfl, rfl, rfl, rfl, rfl, rfl, rfl⟩ := H
    go_enter Try.func82, Try.ntmps82
    go_wp2_with (first | ((with_reducible refine gate_dst (N := 3) rfl ?_); refine box_event ?hg (N := 3) ?hd (cs := #[.string a1_0, .int .i64 a1_1, .string a1_2, .string a1_3, .int .i64 a1_4, .int .i64 a1_5, .string a1_6, .string a1_7]) (t := 39) ?hr ?_; (case hd => rfl); (case hg => rfl); (case hr => first | (go_simp; done) | (go_simp; rfl)); intro gb238 hg w31 hbox hb; have t_ := And.intro (Aside0.mk (IsS107.below (ib HI0.out) hb)) <| And.intro (kt HK (KeepBut.of_below hb g none)) <| And.intro (bsi HB hb) <| And.intro (Aside0.mk (hbox)) <| And.intro (Aside0.mk ((by rw [hg]; exact (keep_size (w := w) (g := g) (row := none) (kb HK.out)) : w.heap.size ≤ gb238))) <| And.intro (Aside0.mk ((Nat.le_trans HW0.out (by rw [hg]; exact (keep_size (w := w) (g := g) (row := none) (kb HK.out)) : w.heap.size ≤ gb238) : w0.heap.size ≤ gb238))) <| And.intro (Aside0.mk ((by rw [hg]; exact Nat.ne_of_lt (IsS107.lt (show IsS107 w0 _ g s0_0 s0_1 from ib HI0.out)) : g ≠ gb238))) <| (Aside0.mk ((by rw [hg]; exact Nat.ne_of_gt (IsS107.lt (show IsS107 w0 _ g s0_0 s0_1 from ib HI0.out)) : gb238 ≠ g))); clear HI0 HK HB; obtain ⟨HI0, HK, HB, BK238, GW238, GE238, NB0_238, NB238_0⟩ := t_; clear hb hbox hg) | ((with_reducible refine gate_dst (N := 4) rfl ?_); refine box_event ?hg (N := 4) ?hd (cs := #[.string (⟨#[]⟩ : ByteArray), .int .i64 0, .string (⟨#[]⟩ : ByteArray), .string (⟨#[]⟩ : ByteArray), .int .i64 0, .int .i64 0, .string (⟨#[]⟩ : ByteArray), .string (⟨#[]⟩ : ByteArray)]) (t := 39) ?hr ?_; (case hd => rfl); (case hg => rfl); (case hr => first | (go_simp; done) | (go_simp; rfl)); intro gb239 hg w32 hbox hb; have t_ := And.intro (Aside0.mk (IsS107.below (ib HI0.out) hb)) <| And.intro (up BK238 hb) <| And.intro (kt HK (KeepBut.of_below hb g none)) <| And.intro (bsi HB hb) <| And.intro (Aside0.mk (hbox)) <| And.intro (Aside0.mk ((by rw [hg]; exact (keep_size (w := w) (g := g) (row := none) (kb HK.out)) : w.heap.size ≤ gb239))) <| And.intro (Aside0.mk ((Nat.le_trans HW0.out (by rw [hg]; exact (keep_size (w := w) (g := g) (row := none) (kb HK.out)) : w.heap.size ≤ gb239) : w0.heap.size ≤ gb239))) <| And.intro (nlt' hg BK238) <| And.intro (ngt' hg BK238) <| And.intro (Aside0.mk ((by rw [hg]; exact Nat.ne_of_lt (IsS107.lt (show IsS107 w0 _ g s0_0 s0_1 from ib HI0.out)) : g ≠ gb239))) <| (Aside0.mk ((by rw [hg]; exact Nat.ne_of_gt (IsS107.lt (show IsS107 w0 _ g s0_0 s0_1 from ib HI0.out)) : gb239 ≠ g))); clear HI0 BK238 HK HB; obtain ⟨HI0, BK238, HK, HB, BK239, GW239, GE239, NB238_239, NB239_238, NB0_239, NB239_0⟩ := t_; clear hb hbox hg) | ((with_reducible refine gate_callee (f := 64) rfl ?_); refine goesL_ (some 6) rfl rfl Try.func64 (by kernel_rfl) rfl #[.pointer (some ⟨g, 0, none⟩), .int .i64 8] rfl mxp ?_; (with_reducible refine (spec_l1Rd_pick.calls k g s0_0 s0_1 8 t240 t241 w0 _ ?side1 ?side2 A3.out).mono ?_); (case side1 => exact ib HI0.out); (case side2 => exact bi HB.out); rintro e w33 ⟨rfl, hi, hb, hk⟩; refine ⟨_, rfl, ?_⟩; have t_ := And.intro (kp BK238 hk NB238_0) <| And.intro (kp BK239 hk NB239_0) <| And.intro (kt HK hk) <| And.intro (Aside0.mk (hb)) <| (Aside0.mk (hi)); clear BK238 BK239 HK HB HI0; obtain ⟨BK238, BK239, HK, HB, HI0⟩ := t_; (try clear hb); (try clear hb2); (try clear hk); (try clear hi); have hnb34 := NB238_239.out; have hnc34 := NB239_238.out; have hnb35 := NB238_0.out; have hnc35 := NB0_238.out; have hcz36_0 := b0 BK238; have hcz36_1 := b1 BK238; have hcz36_2 := b2 BK238; have hcz36_3 := b3 BK238; have hcz36_4 := b4 BK238; have hcz36_5 := b5 BK238; have hcz36_6 := b6 BK238; have hcz36_7 := b7 BK238; have hfz36_0 := fz BK238 0; have hfz36_1 := fz BK238 1; have hfz36_2 := fz BK238 2; have hfz36_3 := fz BK238 3; have hfz36_4 := fz BK238 4; have hfz36_5 := fz BK238 5; have hfz36_6 := fz BK238 6; have hfz36_7 := fz BK238 7) | ((with_reducible refine gate_dst (N := 28) rfl ?_); refine Kd.R_lit Kd.string _ 9 ?hg (N := 28) ?hd (xs := ([(⟨#[]⟩ : ByteArray), (⟨#[65]⟩ : ByteArray), a1_3, (⟨#[103, 111, 111, 100]⟩ : ByteArray)] : List ByteArray)) (inner := [.string (⟨#[]⟩ : ByteArray), .string (⟨#[65]⟩ : ByteArray), .string a1_3, .string (⟨#[103, 111, 111, 100]⟩ : ByteArray)]) (ok := fun _ => True) (okp := fun _ => True) ?hr ?hp (fun _ hk => hk) trivial (Below.refl _ _) (Nat.le_refl _) (by simp) ?_; (case hd => rfl); (case hg => rfl); (case hr => first | (go_simp; done) | (go_simp; rfl)); (case hp => exact (Reps.one (show Kd.M Kd.string _ _ _ (⟨#[]⟩ : ByteArray) [.string (⟨#[]⟩ : ByteArray)] from rfl) (Reps.one (show Kd.M Kd.string _ _ _ (⟨#[65]⟩ : ByteArray) [.string (⟨#[65]⟩ : ByteArray)] from rfl) (Reps.one (show Kd.M Kd.string _ _ _ a1_3 [.string a1_3] from rfl) (Reps.one (show Kd.M Kd.string _ _ _ (⟨#[103, 111, 111, 100]⟩ : ByteArray) [.string (⟨#[103, 111, 111, 100]⟩ : ByteArray)] from rfl) (Reps.none _ _)))))); intro v250 w37 ho38 hb hg_ hnew_; clear hg_ hnew_; (first | rw [← Ny249.out] at ho38 | (simp only [Int.reduceToNat] at ho38; rw [← Ny249.out] at ho38)); have t_ := And.intro (Aside0.mk (Kd.R_lower ho38 (keep_size (w := w) (g := g) (row := none) (kb HK.out)))) <| And.intro (Aside0.mk (IsS107.below (ib HI0.out) hb)) <| And.intro (up BK238 hb) <| And.intro (up BK239 hb) <| And.intro (kt HK (KeepBut.of_below hb g none)) <| (bsi HB hb); clear HI0 BK238 BK239 HK HB; obtain ⟨HO251, HI0, BK238, BK239, HK, HB⟩ := t_; clear hb ho38; obtain ⟨Ao39, co39, eo39⟩ := Kd.R_slice HO251.out; subst eo39) | ((with_reducible refine gate_callee (f := 80) rfl ?_); refine goesL_ (some 29) rfl rfl Try.func80 (by kernel_rfl) rfl #[.pointer (some ⟨g, 0, none⟩), .slice Ao39 y249.length co39] rfl mxp ?_; (with_reducible refine (spec_l1Rd_of.calls k g s0_0 t241 _ _ y249 t252 t253 w0 _ ?side1 ?side2 ?side3 ?side4 ?side5 A30.out).mono ?_); (case side1 => exact ib HI0.out); (case side2 => exact bi HB.out); (case side3 => exact cx (Kd.R_reads' HO251.out).2.2); (case side4 => exact (Kd.R_reads' HO251.out).2.1); (case side5 => exact far_slice (IsS107.own_ne HI0.out HO251.out (by decide))); rintro e w40 ⟨rfl, hi, hb, hk⟩; refine ⟨_, rfl, ?_⟩; have t_ := And.intro (kp BK238 hk NB238_0) <| And.intro (kp BK239 hk NB239_0) <| And.intro (Aside0.mk (Kd.R_mono (Kd.R_keep (IsS107.apart (show IsS107 w0 _ g s0_0 t241 from ib HI0.out) (rx HO251.out) (by decide)) hk (fun _ h => h.2)) (fun _ h => h.1))) <| And.intro (kt HK hk) <| And.intro (Aside0.mk (hb)) <| (Aside0.mk (hi)); clear BK238 BK239 HO251 HK HB HI0; obtain ⟨BK238, BK239, HO251, HK, HB, HI0⟩ := t_; (try clear hb); (try clear hb2); (try clear hk); (try clear hi); have hcz41_0 := b0 BK238; have hcz41_1 := b1 BK238; have hcz41_2 := b2 BK238; have hcz41_3 := b3 BK238; have hcz41_4 := b4 BK238; have hcz41_5 := b5 BK238; have hcz41_6 := b6 BK238; have hcz41_7 := b7 BK238; have hfz41_0 := fz BK238 0; have hfz41_1 := fz BK238 1; have hfz41_2 := fz BK238 2; have hfz41_3 := fz BK238 3; have hfz41_4 := fz BK238 4; have hfz41_5 := fz BK238 5; have hfz41_6 := fz BK238 6; have hfz41_7 := fz BK238 7; have hnb42 := NB239_0.out; have hnc42 := NB0_239.out; have hcz43_0 := b0 BK239; have hcz43_1 := b1 BK239; have hcz43_2 := b2 BK239; have hcz43_3 := b3 BK239; have hcz43_4 := b4 BK239; have hcz43_5 := b5 BK239; have hcz43_6 := b6 BK239; have hcz43_7 := b7 BK239; have hfz43_0 := fz BK239 0; have hfz43_1 := fz BK239 1; have hfz43_2 := fz BK239 2; have hfz43_3 := fz BK239 3; have hfz43_4 := fz BK239 4; have hfz43_5 := fz BK239 5; have hfz43_6 := fz BK239 6; have hfz43_7 := fz BK239 7))
    refine bodyPost_ret (results_cell_row rfl _ _ gb239 39 #[.string a1_0, .int .i64 a1_1, .string t252, .string a1_3, .int .i64 a1_4, .int .i64 a1_5, .string a1_6, .string a1_7] (0, 0) _ rfl (by refine bx ?_; refine blk_put (cs := #[.string a1_0, .int .i64 a1_1, .string t252, .string a1_3, .int .i64 a1_4, .int .i64 a1_5, .string a1_6, .string (⟨#[]⟩ : ByteArray)]) ?_ 7 _ rfl; refine bx ?_; refine blk_put (cs := #[.string a1_0, .int .i64 a1_1, .string t252, .string a1_3, .int .i64 a1_4, .int .i64 a1_5, .string (⟨#[]⟩ : ByteArray), .string (⟨#[]⟩ : ByteArray)]) ?_ 6 _ rfl; refine bx ?_; refine blk_put (cs := #[.string a1_0, .int .i64 a1_1, .string t252, .string a1_3, .int .i64 a1_4, .int .i64 0, .string (⟨#[]⟩ : ByteArray), .string (⟨#[]⟩ : ByteArray)]) ?_ 5 _ rfl; refine bx ?_; refine blk_put (cs := #[.string a1_0, .int .i64 a1_1, .string t252, .string a1_3, .int .i64 0, .int .i64 0, .string (⟨#[]⟩ : ByteArray), .string (⟨#[]⟩ : ByteArray)]) ?_ 4 _ rfl; refine bx ?_; refine blk_put (cs := #[.string a1_0, .int .i64 a1_1, .string t252, .string (⟨#[]⟩ : ByteArray), .int .i64 0, .int .i64 0, .string (⟨#[]⟩ : ByteArray), .string (⟨#[]⟩ : ByteArray)]) ?_ 3 _ rfl; refine bx ?_; refine blk_put (cs := #[.string a1_0, .int .i64 a1_1, .string (⟨#[]⟩ : ByteArray), .string (⟨#[]⟩ : ByteArray), .int .i64 0, .int .i64 0, .string (⟨#[]⟩ : ByteArray), .string (⟨#[]⟩ : ByteArray)]) ?_ 2 _ rfl; refine bx ?_; refine blk_put (cs := #[.string a1_0, .int .i64 0, .string (⟨#[]⟩ : ByteArray), .string (⟨#[]⟩ : ByteArray), .int .i64 0, .int .i64 0, .string (⟨#[]⟩ : ByteArray), .string (⟨#[]⟩ : ByteArray)]) ?_ 1 _ rfl; refine bx ?_; refine blk_put (cs := #[.string (⟨#[]⟩ : ByteArray), .int .i64 0, .string (⟨#[]⟩ : ByteArray), .string (⟨#[]⟩ : ByteArray), .int .i64 0, .int .i64 0, .string (⟨#[]⟩ : ByteArray), .string (⟨#[]⟩ : ByteArray)]) ?_ 0 _ rfl; refine bx ?_; refine blk_far ?_ NB239_238.out _; refine bx ?_; exact BK239.out) Try.underlying39 rfl (by kernel_rfl)) rfl ?_
    exact ⟨exq, ib HI0.out, bi HB.out, kb HK.out⟩
   ·rw [if_neg c29] at H
    have c29b0 : (t240 == 2) = false := beq_eq_false_iff_ne.mpr c29
    have c29b1 : (t240 != 2) = true := bne_iff_ne.mpr c29
    by_cases c44 : t240 = 3
    ·rw [if_pos c44] at H
     have c44b0 : (t240 == 3) = true := beq_iff_eq.mpr c44
     have c44b1 : (t240 != 3) = false := bne_eq_false_iff_eq.mpr c44
     clear c44
     obtain ⟨y254, hy254⟩ : ∃ y_ : List ByteArray, y_ = (([(⟨#[]⟩ : ByteArray), (⟨#[65]⟩ : ByteArray), a1_2, (⟨#[103, 111, 111, 100]⟩ : ByteArray)] : List ByteArray)) := ⟨_, rfl⟩
     replace H : ((spec_l1Rd_of.f k s0_0 t241 y254).bind fun bt257 => (some (a1_0, a1_1, a1_2, bt257.1, a1_4, a1_5, a1_6, a1_7, bt257.2))) = some (r1, r2, r3, r4, r5, r6, r7, r8, r9) := rpl H hy254
     have Ny254 := Aside0.mk hy254
     clear hy254
     replace H := Option.bind_eq_some_iff.mp H
     obtain ⟨⟨t257, t258⟩, A450, H⟩ := H
     try dsimp only at H
     have A45 := Aside0.mk A450
     clear A450
     simp only [Option.some.injEq, Prod.mk.injEq] at H
     obtain ⟨rfl, rfl, rfl, rfl, rfl, rfl, rfl, rfl, rfl⟩ := H
     go_enter Try.func82, Try.ntmps82
     go_wp2_with (first | ((with_reducible refine gate_dst (N := 3) rfl ?_); refine box_event ?hg (N := 3) ?hd (cs := #[.string a1_0, .int .i64 a1_1, .string a1_2, .string a1_3, .int .i64 a1_4, .int .i64 a1_5, .string a1_6, .string a1_7]) (t := 39) ?hr ?_; (case hd => rfl); (case hg => rfl); (case hr => first | (go_simp; done) | (go_simp; rfl)); intro gb238 hg w46 hbox hb; have t_ := And.intro (Aside0.mk (IsS107.below (ib HI0.out) hb)) <| And.intro (kt HK (KeepBut.of_below hb g none)) <| And.intro (bsi HB hb) <| And.intro (Aside0.mk (hbox)) <| And.intro (Aside0.mk ((by rw [hg]; exact (keep_size (w := w) (g := g) (row := none) (kb HK.out)) : w.heap.size ≤ gb238))) <| And.intro (Aside0.mk ((Nat.le_trans HW0.out (by rw [hg]; exact (keep_size (w := w) (g := g) (row := none) (kb HK.out)) : w.heap.size ≤ gb238) : w0.heap.size ≤ gb238))) <| And.intro (Aside0.mk ((by rw [hg]; exact Nat.ne_of_lt (IsS107.lt (show IsS107 w0 _ g s0_0 s0_1 from ib HI0.out)) : g ≠ gb238))) <| (Aside0.mk ((by rw [hg]; exact Nat.ne_of_gt (IsS107.lt (show IsS107 w0 _ g s0_0 s0_1 from ib HI0.out)) : gb238 ≠ g))); clear HI0 HK HB; obtain ⟨HI0, HK, HB, BK238, GW238, GE238, NB0_238, NB238_0⟩ := t_; clear hb hbox hg) | ((with_reducible refine gate_dst (N := 4) rfl ?_); refine box_event ?hg (N := 4) ?hd (cs := #[.string (⟨#[]⟩ : ByteArray), .int .i64 0, .string (⟨#[]⟩ : ByteArray), .string (⟨#[]⟩ : ByteArray), .int .i64 0, .int .i64 0, .string (⟨#[]⟩ : ByteArray), .string (⟨#[]⟩ : ByteArray)]) (t := 39) ?hr ?_; (case hd => rfl); (case hg => rfl); (case hr => first | (go_simp; done) | (go_simp; rfl)); intro gb239 hg w47 hbox hb; have t_ := And.intro (Aside0.mk (IsS107.below (ib HI0.out) hb)) <| And.intro (up BK238 hb) <| And.intro (kt HK (KeepBut.of_below hb g none)) <| And.intro (bsi HB hb) <| And.intro (Aside0.mk (hbox)) <| And.intro (Aside0.mk ((by rw [hg]; exact (keep_size (w := w) (g := g) (row := none) (kb HK.out)) : w.heap.size ≤ gb239))) <| And.intro (Aside0.mk ((Nat.le_trans HW0.out (by rw [hg]; exact (keep_size (w := w) (g := g) (row := none) (kb HK.out)) : w.heap.size ≤ gb239) : w0.heap.size ≤ gb239))) <| And.intro (nlt' hg BK238) <| And.intro (ngt' hg BK238) <| And.intro (Aside0.mk ((by rw [hg]; exact Nat.ne_of_lt (IsS107.lt (show IsS107 w0 _ g s0_0 s0_1 from ib HI0.out)) : g ≠ gb239))) <| (Aside0.mk ((by rw [hg]; exact Nat.ne_of_gt (IsS107.lt (show IsS107 w0 _ g s0_0 s0_1 from ib HI0.out)) : gb239 ≠ g))); clear HI0 BK238 HK HB; obtain ⟨HI0, BK238, HK, HB, BK239, GW239, GE239, NB238_239, NB239_238, NB0_239, NB239_0⟩ := t_; clear hb hbox hg) | ((with_reducible refine gate_callee (f := 64) rfl ?_); refine goesL_ (some 6) rfl rfl Try.func64 (by kernel_rfl) rfl #[.pointer (some ⟨g, 0, none⟩), .int .i64 8] rfl mxp ?_; (with_reducible refine (spec_l1Rd_pick.calls k g s0_0 s0_1 8 t240 t241 w0 _ ?side1 ?side2 A3.out).mono ?_); (case side1 => exact ib HI0.out); (case side2 => exact bi HB.out); rintro e w48 ⟨rfl, hi, hb, hk⟩; refine ⟨_, rfl, ?_⟩; have t_ := And.intro (kp BK238 hk NB238_0) <| And.intro (kp BK239 hk NB239_0) <| And.intro (kt HK hk) <| And.intro (Aside0.mk (hb)) <| (Aside0.mk (hi)); clear BK238 BK239 HK HB HI0; obtain ⟨BK238, BK239, HK, HB, HI0⟩ := t_; (try clear hb); (try clear hb2); (try clear hk); (try clear hi); have hnb49 := NB238_239.out; have hnc49 := NB239_238.out; have hnb50 := NB238_0.out; have hnc50 := NB0_238.out; have hcz51_0 := b0 BK238; have hcz51_1 := b1 BK238; have hcz51_2 := b2 BK238; have hcz51_3 := b3 BK238; have hcz51_4 := b4 BK238; have hcz51_5 := b5 BK238; have hcz51_6 := b6 BK238; have hcz51_7 := b7 BK238; have hfz51_0 := fz BK238 0; have hfz51_1 := fz BK238 1; have hfz51_2 := fz BK238 2; have hfz51_3 := fz BK238 3; have hfz51_4 := fz BK238 4; have hfz51_5 := fz BK238 5; have hfz51_6 := fz BK238 6; have hfz51_7 := fz BK238 7) | ((with_reducible refine gate_dst (N := 36) rfl ?_); refine Kd.R_lit Kd.string _ 9 ?hg (N := 36) ?hd (xs := ([(⟨#[]⟩ : ByteArray), (⟨#[65]⟩ : ByteArray), a1_2, (⟨#[103, 111, 111, 100]⟩ : ByteArray)] : List ByteArray)) (inner := [.string (⟨#[]⟩ : ByteArray), .string (⟨#[65]⟩ : ByteArray), .string a1_2, .string (⟨#[103, 111, 111, 100]⟩ : ByteArray)]) (ok := fun _ => True) (okp := fun _ => True) ?hr ?hp (fun _ hk => hk) trivial (Below.refl _ _) (Nat.le_refl _) (by simp) ?_; (case hd => rfl); (case hg => rfl); (case hr => first | (go_simp; done) | (go_simp; rfl)); (case hp => exact (Reps.one (show Kd.M Kd.string _ _ _ (⟨#[]⟩ : ByteArray) [.string (⟨#[]⟩ : ByteArray)] from rfl) (Reps.one (show Kd.M Kd.string _ _ _ (⟨#[65]⟩ : ByteArray) [.string (⟨#[65]⟩ : ByteArray)] from rfl) (Reps.one (show Kd.M Kd.string _ _ _ a1_2 [.string a1_2] from rfl) (Reps.one (show Kd.M Kd.string _ _ _ (⟨#[103, 111, 111, 100]⟩ : ByteArray) [.string (⟨#[103, 111, 111, 100]⟩ : ByteArray)] from rfl) (Reps.none _ _)))))); intro v255 w52 ho53 hb hg_ hnew_; clear hg_ hnew_; (first | rw [← Ny254.out] at ho53 | (simp only [Int.reduceToNat] at ho53; rw [← Ny254.out] at ho53)); have t_ := And.intro (Aside0.mk (Kd.R_lower ho53 (keep_size (w := w) (g := g) (row := none) (kb HK.out)))) <| And.intro (Aside0.mk (IsS107.below (ib HI0.out) hb)) <| And.intro (up BK238 hb) <| And.intro (up BK239 hb) <| And.intro (kt HK (KeepBut.of_below hb g none)) <| (bsi HB hb); clear HI0 BK238 BK239 HK HB; obtain ⟨HO256, HI0, BK238, BK239, HK, HB⟩ := t_; clear hb ho53; obtain ⟨Ao54, co54, eo54⟩ := Kd.R_slice HO256.out; subst eo54) | ((with_reducible refine gate_callee (f := 80) rfl ?_); refine goesL_ (some 37) rfl rfl Try.func80 (by kernel_rfl) rfl #[.pointer (some ⟨g, 0, none⟩), .slice Ao54 y254.length co54] rfl mxp ?_; (with_reducible refine (spec_l1Rd_of.calls k g s0_0 t241 _ _ y254 t257 t258 w0 _ ?side1 ?side2 ?side3 ?side4 ?side5 A45.out).mono ?_); (case side1 => exact ib HI0.out); (case side2 => exact bi HB.out); (case side3 => exact cx (Kd.R_reads' HO256.out).2.2); (case side4 => exact (Kd.R_reads' HO256.out).2.1); (case side5 => exact far_slice (IsS107.own_ne HI0.out HO256.out (by decide))); rintro e w55 ⟨rfl, hi, hb, hk⟩; refine ⟨_, rfl, ?_⟩; have t_ := And.intro (kp BK238 hk NB238_0) <| And.intro (kp BK239 hk NB239_0) <| And.intro (Aside0.mk (Kd.R_mono (Kd.R_keep (IsS107.apart (show IsS107 w0 _ g s0_0 t241 from ib HI0.out) (rx HO256.out) (by decide)) hk (fun _ h => h.2)) (fun _ h => h.1))) <| And.intro (kt HK hk) <| And.intro (Aside0.mk (hb)) <| (Aside0.mk (hi)); clear BK238 BK239 HO256 HK HB HI0; obtain ⟨BK238, BK239, HO256, HK, HB, HI0⟩ := t_; (try clear hb); (try clear hb2); (try clear hk); (try clear hi); have hcz56_0 := b0 BK238; have hcz56_1 := b1 BK238; have hcz56_2 := b2 BK238; have hcz56_3 := b3 BK238; have hcz56_4 := b4 BK238; have hcz56_5 := b5 BK238; have hcz56_6 := b6 BK238; have hcz56_7 := b7 BK238; have hfz56_0 := fz BK238 0; have hfz56_1 := fz BK238 1; have hfz56_2 := fz BK238 2; have hfz56_3 := fz BK238 3; have hfz56_4 := fz BK238 4; have hfz56_5 := fz BK238 5; have hfz56_6 := fz BK238 6; have hfz56_7 := fz BK238 7; have hnb57 := NB239_0.out; have hnc57 := NB0_239.out; have hcz58_0 := b0 BK239; have hcz58_1 := b1 BK239; have hcz58_2 := b2 BK239; have hcz58_3 := b3 BK239; have hcz58_4 := b4 BK239; have hcz58_5 := b5 BK239; have hcz58_6 := b6 BK239; have hcz58_7 := b7 BK239; have hfz58_0 := fz BK239 0; have hfz58_1 := fz BK239 1; have hfz58_2 := fz BK239 2; have hfz58_3 := fz BK239 3; have hfz58_4 := fz BK239 4; have hfz58_5 := fz BK239 5; have hfz58_6 := fz BK239 6; have hfz58_7 := fz BK239 7))
     refine bodyPost_ret (results_cell_row rfl _ _ gb239 39 #[.string a1_0, .int .i64 a1_1, .string a1_2, .string t257, .int .i64 a1_4, .int .i64 a1_5, .string a1_6, .string a1_7] (0, 0) _ rfl (by refine bx ?_; refine blk_put (cs := #[.string a1_0, .int .i64 a1_1, .string a1_2, .string t257, .int .i64 a1_4, .int .i64 a1_5, .string a1_6, .string (⟨#[]⟩ : ByteArray)]) ?_ 7 _ rfl; refine bx ?_; refine blk_put (cs := #[.string a1_0, .int .i64 a1_1, .string a1_2, .string t257, .int .i64 a1_4, .int .i64 a1_5, .string (⟨#[]⟩ : ByteArray), .string (⟨#[]⟩ : ByteArray)]) ?_ 6 _ rfl; refine bx ?_; refine blk_put (cs := #[.string a1_0, .int .i64 a1_1, .string a1_2, .string t257, .int .i64 a1_4, .int .i64 0, .string (⟨#[]⟩ : ByteArray), .string (⟨#[]⟩ : ByteArray)]) ?_ 5 _ rfl; refine bx ?_; refine blk_put (cs := #[.string a1_0, .int .i64 a1_1, .string a1_2, .string t257, .int .i64 0, .int .i64 0, .string (⟨#[]⟩ : ByteArray), .string (⟨#[]⟩ : ByteArray)]) ?_ 4 _ rfl; refine bx ?_; refine blk_put (cs := #[.string a1_0, .int .i64 a1_1, .string a1_2, .string (⟨#[]⟩ : ByteArray), .int .i64 0, .int .i64 0, .string (⟨#[]⟩ : ByteArray), .string (⟨#[]⟩ : ByteArray)]) ?_ 3 _ rfl; refine bx ?_; refine blk_put (cs := #[.string a1_0, .int .i64 a1_1, .string (⟨#[]⟩ : ByteArray), .string (⟨#[]⟩ : ByteArray), .int .i64 0, .int .i64 0, .string (⟨#[]⟩ : ByteArray), .string (⟨#[]⟩ : ByteArray)]) ?_ 2 _ rfl; refine bx ?_; refine blk_put (cs := #[.string a1_0, .int .i64 0, .string (⟨#[]⟩ : ByteArray), .string (⟨#[]⟩ : ByteArray), .int .i64 0, .int .i64 0, .string (⟨#[]⟩ : ByteArray), .string (⟨#[]⟩ : ByteArray)]) ?_ 1 _ rfl; refine bx ?_; refine blk_put (cs := #[.string (⟨#[]⟩ : ByteArray), .int .i64 0, .string (⟨#[]⟩ : ByteArray), .string (⟨#[]⟩ : ByteArray), .int .i64 0, .int .i64 0, .string (⟨#[]⟩ : ByteArray), .string (⟨#[]⟩ : ByteArray)]) ?_ 0 _ rfl; refine bx ?_; refine blk_far ?_ NB239_238.out _; refine bx ?_; exact BK239.out) Try.underlying39 rfl (by kernel_rfl)) rfl ?_
     exact ⟨exq, ib HI0.out, bi HB.out, kb HK.out⟩
    ·rw [if_neg c44] at H
     have c44b0 : (t240 == 3) = false := beq_eq_false_iff_ne.mpr c44
     have c44b1 : (t240 != 3) = true := bne_iff_ne.mpr c44
     by_cases c59 : t240 = 4
     ·rw [if_pos c59] at H
      have c59b0 : (t240 == 4) = true := beq_iff_eq.mpr c59
      have c59b1 : (t240 != 4) = false := bne_eq_false_iff_eq.mpr c59
      clear c59
      obtain ⟨y259, hy259⟩ : ∃ y_ : List Int, y_ = (([(-1), 0, 1, a1_5, wrap64 (a1_5 + 1), 1000, 1001] : List Int)) := ⟨_, rfl⟩
      replace H : ((spec_l1Rd_pick.f k s0_0 t241 7).bind fun bt262 => (if 0 ≤ bt262.1 then (if bt262.1 < (y259.length : Int) then (some (a1_0, a1_1, a1_2, a1_3, rd y259 bt262.1, a1_5, a1_6, a1_7, bt262.2)) else (none)) else (none))) = some (r1, r2, r3, r4, r5, r6, r7, r8, r9) := rpl H hy259
      have Ny259 := Aside0.mk hy259
      clear hy259
      replace H := Option.bind_eq_some_iff.mp H
      obtain ⟨⟨t262, t263⟩, A600, H⟩ := H
      try dsimp only at H
      have A60 := Aside0.mk A600
      clear A600
      by_cases c61 : 0 ≤ t262
      ·rw [if_pos c61] at H
       have c61b0 : decide (0 ≤ t262) = true := decide_eq_true c61
       clear c61
       by_cases c62 : t262 < (y259.length : Int)
       ·rw [if_pos c62] at H
        have c62b0 : decide (t262 < (y259.length : Int)) = true := decide_eq_true c62
        clear c62
        simp only [Option.some.injEq, Prod.mk.injEq] at H
        obtain ⟨rfl, rfl, rfl, rfl, rfl, rfl, rfl, rfl, rfl⟩ := H
        go_enter Try.func82, Try.ntmps82
        try go_wp2_with (first | ((with_reducible refine gate_dst (N := 3) rfl ?_); refine box_event ?hg (N := 3) ?hd (cs := #[.string a1_0, .int .i64 a1_1, .string a1_2, .string a1_3, .int .i64 a1_4, .int .i64 a1_5, .string a1_6, .string a1_7]) (t := 39) ?hr ?_; (case hd => rfl); (case hg => rfl); (case hr => first | (go_simp; done) | (go_simp; rfl)); intro gb238 hg w63 hbox hb; have t_ := And.intro (Aside0.mk (IsS107.below (ib HI0.out) hb)) <| And.intro (kt HK (KeepBut.of_below hb g none)) <| And.intro (bsi HB hb) <| And.intro (Aside0.mk (hbox)) <| And.intro (Aside0.mk ((by rw [hg]; exact (keep_size (w := w) (g := g) (row := none) (kb HK.out)) : w.heap.size ≤ gb238))) <| And.intro (Aside0.mk ((Nat.le_trans HW0.out (by rw [hg]; exact (keep_size (w := w) (g := g) (row := none) (kb HK.out)) : w.heap.size ≤ gb238) : w0.heap.size ≤ gb238))) <| And.intro (Aside0.mk ((by rw [hg]; exact Nat.ne_of_lt (IsS107.lt (show IsS107 w0 _ g s0_0 s0_1 from ib HI0.out)) : g ≠ gb238))) <| (Aside0.mk ((by rw [hg]; exact Nat.ne_of_gt (IsS107.lt (show IsS107 w0 _ g s0_0 s0_1 from ib HI0.out)) : gb238 ≠ g))); clear HI0 HK HB; obtain ⟨HI0, HK, HB, BK238, GW238, GE238, NB0_238, NB238_0⟩ := t_; clear hb hbox hg) | ((with_reducible refine gate_dst (N := 4) rfl ?_); refine box_event ?hg (N := 4) ?hd (cs := #[.string (⟨#[]⟩ : ByteArray), .int .i64 0, .string (⟨#[]⟩ : ByteArray), .string (⟨#[]⟩ : ByteArray), .int .i64 0, .int .i64 0, .string (⟨#[]⟩ : ByteArray), .string (⟨#[]⟩ : ByteArray)]) (t := 39) ?hr ?_; (case hd => rfl); (case hg => rfl); (case hr => first | (go_simp; done) | (go_simp; rfl)); intro gb239 hg w64 hbox hb; have t_ := And.intro (Aside0.mk (IsS107.below (ib HI0.out) hb)) <| And.intro (up BK238 hb) <| And.intro (kt HK (KeepBut.of_below hb g none)) <| And.intro (bsi HB hb) <| And.intro (Aside0.mk (hbox)) <| And.intro (Aside0.mk ((by rw [hg]; exact (keep_size (w := w) (g := g) (row := none) (kb HK.out)) : w.heap.size ≤ gb239))) <| And.intro (Aside0.mk ((Nat.le_trans HW0.out (by rw [hg]; exact (keep_size (w := w) (g := g) (row := none) (kb HK.out)) : w.heap.size ≤ gb239) : w0.heap.size ≤ gb239))) <| And.intro (nlt' hg BK238) <| And.intro (ngt' hg BK238) <| And.intro (Aside0.mk ((by rw [hg]; exact Nat.ne_of_lt (IsS107.lt (show IsS107 w0 _ g s0_0 s0_1 from ib HI0.out)) : g ≠ gb239))) <| (Aside0.mk ((by rw [hg]; exact Nat.ne_of_gt (IsS107.lt (show IsS107 w0 _ g s0_0 s0_1 from ib HI0.out)) : gb239 ≠ g))); clear HI0 BK238 HK HB; obtain ⟨HI0, BK238, HK, HB, BK239, GW239, GE239, NB238_239, NB239_238, NB0_239, NB239_0⟩ := t_; clear hb hbox hg) | ((with_reducible refine gate_callee (f := 64) rfl ?_); refine goesL_ (some 6) rfl rfl Try.func64 (by kernel_rfl) rfl #[.pointer (some ⟨g, 0, none⟩), .int .i64 8] rfl mxp ?_; (with_reducible refine (spec_l1Rd_pick.calls k g s0_0 s0_1 8 t240 t241 w0 _ ?side1 ?side2 A3.out).mono ?_); (case side1 => exact ib HI0.out); (case side2 => exact bi HB.out); rintro e w65 ⟨rfl, hi, hb, hk⟩; refine ⟨_, rfl, ?_⟩; have t_ := And.intro (kp BK238 hk NB238_0) <| And.intro (kp BK239 hk NB239_0) <| And.intro (kt HK hk) <| And.intro (Aside0.mk (hb)) <| (Aside0.mk (hi)); clear BK238 BK239 HK HB HI0; obtain ⟨BK238, BK239, HK, HB, HI0⟩ := t_; (try clear hb); (try clear hb2); (try clear hk); (try clear hi)))
        have pi264 : (0 ≤ (t262 : Int)) = True := eq_true (oda)
        have qi264 : (t262 < (y259.length : Int)) = True := eq_true (oda)
        have n0_ := Aside0.mk (blk_drew BK238.out)
        have n1_ := Aside0.mk (blk_drew BK239.out)
        have n2_ := Aside0.mk (IsS107.drew HI0.out)
        have n3_ := Aside0.mk (keep_drew HK.out)
        have n4_ := Aside0.mk (below_drew1 HB.out)
        clear BK238
        clear BK239
        clear HI0
        clear HK
        clear HB
        have BK238 := n0_
        have BK239 := n1_
        have HI0 := n2_
        have HK := n3_
        have HB := n4_
        clear n0_ n1_ n2_ n3_ n4_
        refine start_ (n := 12) (S := fun w' => w'.cell? ⟨gb238, 0, none⟩ = some (.string a1_0) ∧ w'.cell? ⟨gb238, 1, none⟩ = some (.int .i64 a1_1) ∧ w'.cell? ⟨gb238, 2, none⟩ = some (.string a1_2) ∧ w'.cell? ⟨gb238, 3, none⟩ = some (.string a1_3) ∧ w'.cell? ⟨gb238, 4, none⟩ = some (.int .i64 a1_4) ∧ w'.cell? ⟨gb238, 5, none⟩ = some (.int .i64 a1_5) ∧ w'.cell? ⟨gb238, 6, none⟩ = some (.string a1_6) ∧ w'.cell? ⟨gb238, 7, none⟩ = some (.string a1_7)) (ds := [11]) (lb 12 0) (by kernel_rfl) rfl rfl ⟨(blk_cell BK238.out 0).trans rfl, (blk_cell BK238.out 1).trans rfl, (blk_cell BK238.out 2).trans rfl, (blk_cell BK238.out 3).trans rfl, (blk_cell BK238.out 4).trans rfl, (blk_cell BK238.out 5).trans rfl, (blk_cell BK238.out 6).trans rfl, (blk_cell BK238.out 7).trans rfl⟩ (fun hHeld => ?_); refine with_tabW spec_l5SpoilPhase.tab12 spec_l5SpoilPhase.bits12 (fun HT_ HW_ => ?_)
        generalize w65.drew = w66 at BK238 BK239 HI0 HK HB hHeld ⊢
        refine pw HT_ 0 (some 41) (lb 12 1) ?_
        refine pw HT_ 2 (some 43) (lb 12 5) ?_
        refine pw HT_ 6 (some 47) (lb 12 69) ?_
        refine tw HT_ HW_ hHeld 1 (some 42) (lb 12 71) ?_
        refine tw HT_ HW_ hHeld 3 (some 44) (lb 12 79) ?_
        refine pw HT_ 4 (some 45) (lb 12 95) ?_
        refine join_ (σ := Value × Addr) 4 (lb 12 255) (fun s_ => [(46, s_.1), (48, .int .i64 t262)]) (fun s_ w' => (w'.cell? ⟨gb238, 0, none⟩ = some (.string a1_0) ∧ w'.cell? ⟨gb238, 1, none⟩ = some (.int .i64 a1_1) ∧ w'.cell? ⟨gb238, 2, none⟩ = some (.string a1_2) ∧ w'.cell? ⟨gb238, 3, none⟩ = some (.string a1_3) ∧ w'.cell? ⟨gb238, 4, none⟩ = some (.int .i64 a1_4) ∧ w'.cell? ⟨gb238, 5, none⟩ = some (.int .i64 a1_5) ∧ w'.cell? ⟨gb238, 6, none⟩ = some (.string a1_6) ∧ w'.cell? ⟨gb238, 7, none⟩ = some (.string a1_7)) ∧ (Kd.R (Kd.int .i64) 3 w' w.heap.size (fun _ => True) s_.1 y259) ∧ (∃ c_, (s_.1 : Value) = .slice (some s_.2) y259.length c_) ∧ (w'.heap[gb238]? = some (.cells #[.string a1_0, .int .i64 a1_1, .string a1_2, .string a1_3, .int .i64 a1_4, .int .i64 a1_5, .string a1_6, .string a1_7] 39 (0, 0))) ∧ (w'.heap[gb239]? = some (.cells #[.string (⟨#[]⟩ : ByteArray), .int .i64 0, .string (⟨#[]⟩ : ByteArray), .string (⟨#[]⟩ : ByteArray), .int .i64 0, .int .i64 0, .string (⟨#[]⟩ : ByteArray), .string (⟨#[]⟩ : ByteArray)] 39 (0, 0))) ∧ (IsS107 w0 w' g s0_0 t263) ∧ (KeepBut w w' g none) ∧ (Below w0.heap.size w0 w')) ?_ ?_
        rotate_left
        ·intro hCont
         refine two_ (i := 5) (j := 7) (Ni := some 46) (Nj := some 48) (lb 12 127) (lb 12 223) rfl rfl rfl rfl (two_of HT_.out (by kernel_rfl)) (by decide) (by decide) (fun K hK => ?_) (fun K hK => ?_)
         ·skip
          refine Kd.R_lit_step (Kd.int .i64) _ 3 ?hg (N := 46) ?hd (xs := ([(-1), 0, 1, a1_5, wrap64 (a1_5 + 1), 1000, 1001] : List Int)) (inner := [.int .i64 (-1), .int .i64 0, .int .i64 1, .int .i64 a1_5, .int .i64 (wrap64 (a1_5 + 1)), .int .i64 1000, .int .i64 1001]) (ok := fun _ => True) (okp := fun _ => True) ?hr ?hp (fun _ hk => hk) trivial (Below.refl _ _) (Nat.le_refl _) (by simp) ?_; (case hd => rfl); (case hg => rfl); (case hr => first | (go_simp; done) | (go_simp; rfl)); (case hp => exact (Reps.one (show Kd.M (Kd.int .i64) _ _ _ (-1) [.int .i64 (-1)] from rfl) (Reps.one (show Kd.M (Kd.int .i64) _ _ _ 0 [.int .i64 0] from rfl) (Reps.one (show Kd.M (Kd.int .i64) _ _ _ 1 [.int .i64 1] from rfl) (Reps.one (show Kd.M (Kd.int .i64) _ _ _ a1_5 [.int .i64 a1_5] from rfl) (Reps.one (show Kd.M (Kd.int .i64) _ _ _ (wrap64 (a1_5 + 1)) [.int .i64 (wrap64 (a1_5 + 1))] from rfl) (Reps.one (show Kd.M (Kd.int .i64) _ _ _ 1000 [.int .i64 1000] from rfl) (Reps.one (show Kd.M (Kd.int .i64) _ _ _ 1001 [.int .i64 1001] from rfl) (Reps.none _ _)))))))))
          intro v260 w67 ho68 hb hg_ hnew_
          clear hg_ hnew_
          (first | rw [← Ny259.out] at ho68 | (simp only [Int.reduceToNat] at ho68; rw [← Ny259.out] at ho68))
          have n0_ := Aside0.mk (Kd.R_lower ho68 (keep_size (w := w) (g := g) (row := none) (kb HK.out)))
          have n1_ := Aside0.mk (IsS107.below (ib HI0.out) hb)
          have n2_ := up BK238 hb
          have n3_ := up BK239 hb
          have n4_ := kt HK (KeepBut.of_below hb g none)
          have n5_ := bsi HB hb
          clear HI0
          clear BK238
          clear BK239
          clear HK
          clear HB
          have HO261 := n0_
          have HI0 := n1_
          have BK238 := n2_
          have BK239 := n3_
          have HK := n4_
          have HB := n5_
          clear n0_ n1_ n2_ n3_ n4_ n5_
          clear hb ho68
          obtain ⟨Ao69, co69, eo69⟩ := Kd.R_slice HO261.out
          subst eo69
          obtain ⟨ado69, fo69, _⟩ := Kd.at_int (Kd.R_reads' HO261.out).2.2 0 (by decide) (by rw [Ny259.out]; simp)
          cases fo69
          refine hK.out _ _ ⟨(blk_cell BK238.out 0).trans rfl, (blk_cell BK238.out 1).trans rfl, (blk_cell BK238.out 2).trans rfl, (blk_cell BK238.out 3).trans rfl, (blk_cell BK238.out 4).trans rfl, (blk_cell BK238.out 5).trans rfl, (blk_cell BK238.out 6).trans rfl, (blk_cell BK238.out 7).trans rfl⟩ (fun hHeld => ?_)
          clear hK K
          refine norm_ (a' := ?_) ?_ ?_
          rotate_left
          ·show Act.put _ (some 46) _ = _
           simp only [Act.put, List.setIfInBounds_toArray, List.set_cons_zero, List.set_cons_succ, i64_w, i32_w]
           rfl
          refine one_ (i := 7) (N := some 48) (lb 12 255) rfl rfl (one_of HT_.out (by kernel_rfl)) (by decide) (fun K hK => ?_)
          refine goes_ Try.func64 (by kernel_rfl) rfl #[.pointer (some ⟨g, 0, none⟩), .int .i64 7] (by rfl) rfl rfl mxp ?_
          with_reducible refine (spec_l1Rd_pick.calls k g s0_0 t241 7 t262 t263 w0 _ ?side1 ?side2 A60.out).mono ?_
          (case side1 => exact ib HI0.out)
          (case side2 => exact bi HB.out)
          rintro e w70 ⟨rfl, hi, hb, hk⟩
          refine ⟨_, rfl, ?_⟩
          have n0_ := kp BK238 hk NB238_0
          have n1_ := kp BK239 hk NB239_0
          have n2_ := Aside0.mk (Kd.R_mono (Kd.R_keep (IsS107.apart (show IsS107 w0 _ g s0_0 t241 from ib HI0.out) (rx HO261.out) (by decide)) hk (fun _ h => h.2)) (fun _ h => h.1))
          have n3_ := kt HK hk
          have n4_ := Aside0.mk (hb)
          have n5_ := Aside0.mk (hi)
          clear BK238
          clear BK239
          clear HO261
          clear HK
          clear HB
          clear HI0
          have BK238 := n0_
          have BK239 := n1_
          have HO261 := n2_
          have HK := n3_
          have HB := n4_
          have HI0 := n5_
          clear n0_ n1_ n2_ n3_ n4_ n5_
          (try clear hb)
          (try clear hb2)
          (try clear hk)
          (try clear hi)
          refine hK.out _ _ ⟨(blk_cell BK238.out 0).trans rfl, (blk_cell BK238.out 1).trans rfl, (blk_cell BK238.out 2).trans rfl, (blk_cell BK238.out 3).trans rfl, (blk_cell BK238.out 4).trans rfl, (blk_cell BK238.out 5).trans rfl, (blk_cell BK238.out 6).trans rfl, (blk_cell BK238.out 7).trans rfl⟩ (fun hHeld => ?_)
          clear hK K
          refine norm_ (a' := ?_) ?_ ?_
          rotate_left
          ·show Act.put _ (some 48) _ = _
           simp only [Act.put, List.setIfInBounds_toArray, List.set_cons_zero, List.set_cons_succ, i64_w, i32_w]
           rfl
          exact norm_ (by simp only [putAll, Act.put, List.setIfInBounds_toArray, List.set_cons_zero, List.set_cons_succ]) (hCont (.slice (some ado69) y259.length co69, ado69) _ ⟨hHeld, (rx HO261.out), ⟨_, rfl⟩, (bx BK238.out), (bx BK239.out), (ib HI0.out), (kb HK.out), (bi HB.out)⟩)
         ·skip
          refine goes_ Try.func64 (by kernel_rfl) rfl #[.pointer (some ⟨g, 0, none⟩), .int .i64 7] (by rfl) rfl rfl mxp ?_
          with_reducible refine (spec_l1Rd_pick.calls k g s0_0 t241 7 t262 t263 w0 _ ?side1 ?side2 A60.out).mono ?_
          (case side1 => exact ib HI0.out)
          (case side2 => exact bi HB.out)
          rintro e w67 ⟨rfl, hi, hb, hk⟩
          refine ⟨_, rfl, ?_⟩
          have n0_ := kp BK238 hk NB238_0
          have n1_ := kp BK239 hk NB239_0
          have n2_ := kt HK hk
          have n3_ := Aside0.mk (hb)
          have n4_ := Aside0.mk (hi)
          clear BK238
          clear BK239
          clear HK
          clear HB
          clear HI0
          have BK238 := n0_
          have BK239 := n1_
          have HK := n2_
          have HB := n3_
          have HI0 := n4_
          clear n0_ n1_ n2_ n3_ n4_
          (try clear hb)
          (try clear hb2)
          (try clear hk)
          (try clear hi)
          refine hK.out _ _ ⟨(blk_cell BK238.out 0).trans rfl, (blk_cell BK238.out 1).trans rfl, (blk_cell BK238.out 2).trans rfl, (blk_cell BK238.out 3).trans rfl, (blk_cell BK238.out 4).trans rfl, (blk_cell BK238.out 5).trans rfl, (blk_cell BK238.out 6).trans rfl, (blk_cell BK238.out 7).trans rfl⟩ (fun hHeld => ?_)
          clear hK K
          refine norm_ (a' := ?_) ?_ ?_
          rotate_left
          ·show Act.put _ (some 48) _ = _
           simp only [Act.put, List.setIfInBounds_toArray, List.set_cons_zero, List.set_cons_succ, i64_w, i32_w]
           rfl
          refine one_ (i := 5) (N := some 46) (lb 12 255) rfl rfl (one_of HT_.out (by kernel_rfl)) (by decide) (fun K hK => ?_)
          refine Kd.R_lit_step (Kd.int .i64) _ 3 ?hg (N := 46) ?hd (xs := ([(-1), 0, 1, a1_5, wrap64 (a1_5 + 1), 1000, 1001] : List Int)) (inner := [.int .i64 (-1), .int .i64 0, .int .i64 1, .int .i64 a1_5, .int .i64 (wrap64 (a1_5 + 1)), .int .i64 1000, .int .i64 1001]) (ok := fun _ => True) (okp := fun _ => True) ?hr ?hp (fun _ hk => hk) trivial (Below.refl _ _) (Nat.le_refl _) (by simp) ?_; (case hd => rfl); (case hg => rfl); (case hr => first | (go_simp; done) | (go_simp; rfl)); (case hp => exact (Reps.one (show Kd.M (Kd.int .i64) _ _ _ (-1) [.int .i64 (-1)] from rfl) (Reps.one (show Kd.M (Kd.int .i64) _ _ _ 0 [.int .i64 0] from rfl) (Reps.one (show Kd.M (Kd.int .i64) _ _ _ 1 [.int .i64 1] from rfl) (Reps.one (show Kd.M (Kd.int .i64) _ _ _ a1_5 [.int .i64 a1_5] from rfl) (Reps.one (show Kd.M (Kd.int .i64) _ _ _ (wrap64 (a1_5 + 1)) [.int .i64 (wrap64 (a1_5 + 1))] from rfl) (Reps.one (show Kd.M (Kd.int .i64) _ _ _ 1000 [.int .i64 1000] from rfl) (Reps.one (show Kd.M (Kd.int .i64) _ _ _ 1001 [.int .i64 1001] from rfl) (Reps.none _ _)))))))))
          intro v260 w68 ho69 hb hg_ hnew_
          clear hg_ hnew_
          (first | rw [← Ny259.out] at ho69 | (simp only [Int.reduceToNat] at ho69; rw [← Ny259.out] at ho69))
          have n0_ := Aside0.mk (Kd.R_lower ho69 (keep_size (w := w) (g := g) (row := none) (kb HK.out)))
          have n1_ := Aside0.mk (IsS107.below (ib HI0.out) hb)
          have n2_ := up BK238 hb
          have n3_ := up BK239 hb
          have n4_ := kt HK (KeepBut.of_below hb g none)
          have n5_ := bsi HB hb
          clear HI0
          clear BK238
          clear BK239
          clear HK
          clear HB
          have HO261 := n0_
          have HI0 := n1_
          have BK238 := n2_
          have BK239 := n3_
          have HK := n4_
          have HB := n5_
          clear n0_ n1_ n2_ n3_ n4_ n5_
          clear hb ho69
          obtain ⟨Ao70, co70, eo70⟩ := Kd.R_slice HO261.out
          subst eo70
          obtain ⟨ado70, fo70, _⟩ := Kd.at_int (Kd.R_reads' HO261.out).2.2 0 (by decide) (by rw [Ny259.out]; simp)
          cases fo70
          refine hK.out _ _ ⟨(blk_cell BK238.out 0).trans rfl, (blk_cell BK238.out 1).trans rfl, (blk_cell BK238.out 2).trans rfl, (blk_cell BK238.out 3).trans rfl, (blk_cell BK238.out 4).trans rfl, (blk_cell BK238.out 5).trans rfl, (blk_cell BK238.out 6).trans rfl, (blk_cell BK238.out 7).trans rfl⟩ (fun hHeld => ?_)
          clear hK K
          refine norm_ (a' := ?_) ?_ ?_
          rotate_left
          ·show Act.put _ (some 46) _ = _
           simp only [Act.put, List.setIfInBounds_toArray, List.set_cons_zero, List.set_cons_succ, i64_w, i32_w]
           rfl
          exact norm_ (by simp only [putAll, Act.put, List.setIfInBounds_toArray, List.set_cons_zero, List.set_cons_succ]) (hCont (.slice (some ado70) y259.length co70, ado70) _ ⟨hHeld, (rx HO261.out), ⟨_, rfl⟩, (bx BK238.out), (bx BK239.out), (ib HI0.out), (kb HK.out), (bi HB.out)⟩)
        rintro ⟨v260, adz_v260⟩ w71 ⟨hS_, h0_, h1_, h2_, h3_, h4_, h5_, h6_⟩
        have n0_ : Aside0 (Kd.R (Kd.int .i64) 3 w71 w.heap.size (fun _ => True) v260 y259) := ⟨h0_⟩
        have n1_ : Aside0 (∃ c_, (v260 : Value) = .slice (some adz_v260) y259.length c_) := ⟨h1_⟩
        have n2_ : Aside0 (w71.heap[gb238]? = some (.cells #[.string a1_0, .int .i64 a1_1, .string a1_2, .string a1_3, .int .i64 a1_4, .int .i64 a1_5, .string a1_6, .string a1_7] 39 (0, 0))) := ⟨h2_⟩
        have n3_ : Aside0 (w71.heap[gb239]? = some (.cells #[.string (⟨#[]⟩ : ByteArray), .int .i64 0, .string (⟨#[]⟩ : ByteArray), .string (⟨#[]⟩ : ByteArray), .int .i64 0, .int .i64 0, .string (⟨#[]⟩ : ByteArray), .string (⟨#[]⟩ : ByteArray)] 39 (0, 0))) := ⟨h3_⟩
        have n4_ : Aside0 (IsS107 w0 w71 g s0_0 t263) := ⟨h4_⟩
        have n5_ : Aside0 (KeepBut w w71 g none) := ⟨h5_⟩
        have n6_ : Aside0 (Below w0.heap.size w0 w71) := ⟨h6_⟩
        clear BK238
        clear BK239
        clear HI0
        clear HK
        clear HB
        clear h0_ h1_ h2_ h3_ h4_ h5_ h6_
        have HO261 := n0_
        have HA_HO261 := n1_
        have BK238 := n2_
        have BK239 := n3_
        have HI0 := n4_
        have HK := n5_
        have HB := n6_
        clear n0_ n1_ n2_ n3_ n4_ n5_ n6_
        have hHeld : w71.cell? ⟨gb238, 0, none⟩ = some (.string a1_0) ∧ w71.cell? ⟨gb238, 1, none⟩ = some (.int .i64 a1_1) ∧ w71.cell? ⟨gb238, 2, none⟩ = some (.string a1_2) ∧ w71.cell? ⟨gb238, 3, none⟩ = some (.string a1_3) ∧ w71.cell? ⟨gb238, 4, none⟩ = some (.int .i64 a1_4) ∧ w71.cell? ⟨gb238, 5, none⟩ = some (.int .i64 a1_5) ∧ w71.cell? ⟨gb238, 6, none⟩ = some (.string a1_6) ∧ w71.cell? ⟨gb238, 7, none⟩ = some (.string a1_7) := hS_
        obtain ⟨co72, eo72⟩ := HA_HO261.out
        clear HA_HO261
        subst eo72
        refine norm_ (a' := ?_) ?_ ?_
        rotate_left
        ·simp only [putAll, Act.put, List.setIfInBounds_toArray, List.set_cons_zero, List.set_cons_succ]
         rfl
        refine pw HT_ 8 (some 49) (lb 12 511) ?_
        refine one_ (i := 9) (N := some 50) (lb 12 1023) rfl rfl (one_of HT_.out (by kernel_rfl)) (by decide) (fun K hK => ?_)
        (have p264 : 0 ≤ (t262 : Int) := oda; have q264 : t262 < (y259.length : Int) := oda; obtain ⟨ad264, e264, hx264_0⟩ := Kd.at_int (Kd.R_reads' HO261.out).2.2 t262 p264 q264; obtain rfl : adz_v260 = ad264 := (by injection e264))
        refine value_ (w1 := ?_) (v := ?_) (by rfl) rfl ?_ ?_
        rotate_left 2
        ·go_simp
         constructor
         ·rfl
         ·rfl
        clear hx264_0
        refine hK.out _ _ ⟨(blk_cell BK238.out 0).trans rfl, (blk_cell BK238.out 1).trans rfl, (blk_cell BK238.out 2).trans rfl, (blk_cell BK238.out 3).trans rfl, (blk_cell BK238.out 4).trans rfl, (blk_cell BK238.out 5).trans rfl, (blk_cell BK238.out 6).trans rfl, (blk_cell BK238.out 7).trans rfl⟩ (fun hHeld => ?_)
        clear hK K
        refine norm_ (a' := ?_) ?_ ?_
        rotate_left
        ·show Act.put _ (some 50) _ = _
         simp only [Act.put, List.setIfInBounds_toArray, List.set_cons_zero, List.set_cons_succ, i64_w, i32_w]
         rfl
        refine pw HT_ 10 (some 51) (lb 12 2047) ?_
        refine last_ (i := 11) (N := none) (lb 12 4095) rfl rfl (one_of HT_.out (by kernel_rfl)) (by decide) (fun K hK => ?_)
        have hs73 : w71.cell? ⟨gb238, 4, none⟩ = some (.int .i64 a1_4) := (blk_cell BK238.out 4).trans rfl
        have hfs73 := blk_frozen BK238.out 4
        have hns73_1 := NB239_238.out
        have hms73_1 := NB238_239.out
        refine skip_ (w1 := ?_) (by rfl) rfl ?_ ?_
        rotate_left
        ·go_simp
         rfl
        refine hK.out _ _ ?_
        clear hK K
        refine done_ (done_of HT_.out (by kernel_rfl)) ?_
        have hnb74 := NB238_239.out
        have hnc74 := NB239_238.out
        have hnb75 := NB238_0.out
        have hnc75 := NB0_238.out
        have hcz76_0 := b0 BK238
        have hcz76_1 := b1 BK238
        have hcz76_2 := b2 BK238
        have hcz76_3 := b3 BK238
        have hcz76_4 := b4 BK238
        have hcz76_5 := b5 BK238
        have hcz76_6 := b6 BK238
        have hcz76_7 := b7 BK238
        have hfz76_0 := fz BK238 0
        have hfz76_1 := fz BK238 1
        have hfz76_2 := fz BK238 2
        have hfz76_3 := fz BK238 3
        have hfz76_4 := fz BK238 4
        have hfz76_5 := fz BK238 5
        have hfz76_6 := fz BK238 6
        have hfz76_7 := fz BK238 7
        have hnb77 := NB239_0.out
        have hnc77 := NB0_239.out
        have hcz78_0 := b0 BK239
        have hcz78_1 := b1 BK239
        have hcz78_2 := b2 BK239
        have hcz78_3 := b3 BK239
        have hcz78_4 := b4 BK239
        have hcz78_5 := b5 BK239
        have hcz78_6 := b6 BK239
        have hcz78_7 := b7 BK239
        have hfz78_0 := fz BK239 0
        have hfz78_1 := fz BK239 1
        have hfz78_2 := fz BK239 2
        have hfz78_3 := fz BK239 3
        have hfz78_4 := fz BK239 4
        have hfz78_5 := fz BK239 5
        have hfz78_6 := fz BK239 6
        have hfz78_7 := fz BK239 7
        try go_wp2
        refine bodyPost_ret (results_cell_row rfl _ _ gb239 39 #[.string a1_0, .int .i64 a1_1, .string a1_2, .string a1_3, .int .i64 (rd y259 t262), .int .i64 a1_5, .string a1_6, .string a1_7] (0, 0) _ rfl (by refine bx ?_; refine blk_put (cs := #[.string a1_0, .int .i64 a1_1, .string a1_2, .string a1_3, .int .i64 (rd y259 t262), .int .i64 a1_5, .string a1_6, .string (⟨#[]⟩ : ByteArray)]) ?_ 7 _ rfl; refine bx ?_; refine blk_put (cs := #[.string a1_0, .int .i64 a1_1, .string a1_2, .string a1_3, .int .i64 (rd y259 t262), .int .i64 a1_5, .string (⟨#[]⟩ : ByteArray), .string (⟨#[]⟩ : ByteArray)]) ?_ 6 _ rfl; refine bx ?_; refine blk_put (cs := #[.string a1_0, .int .i64 a1_1, .string a1_2, .string a1_3, .int .i64 (rd y259 t262), .int .i64 0, .string (⟨#[]⟩ : ByteArray), .string (⟨#[]⟩ : ByteArray)]) ?_ 5 _ rfl; refine bx ?_; refine blk_put (cs := #[.string a1_0, .int .i64 a1_1, .string a1_2, .string a1_3, .int .i64 0, .int .i64 0, .string (⟨#[]⟩ : ByteArray), .string (⟨#[]⟩ : ByteArray)]) ?_ 4 _ rfl; refine bx ?_; refine blk_put (cs := #[.string a1_0, .int .i64 a1_1, .string a1_2, .string (⟨#[]⟩ : ByteArray), .int .i64 0, .int .i64 0, .string (⟨#[]⟩ : ByteArray), .string (⟨#[]⟩ : ByteArray)]) ?_ 3 _ rfl; refine bx ?_; refine blk_put (cs := #[.string a1_0, .int .i64 a1_1, .string (⟨#[]⟩ : ByteArray), .string (⟨#[]⟩ : ByteArray), .int .i64 0, .int .i64 0, .string (⟨#[]⟩ : ByteArray), .string (⟨#[]⟩ : ByteArray)]) ?_ 2 _ rfl; refine bx ?_; refine blk_put (cs := #[.string a1_0, .int .i64 0, .string (⟨#[]⟩ : ByteArray), .string (⟨#[]⟩ : ByteArray), .int .i64 0, .int .i64 0, .string (⟨#[]⟩ : ByteArray), .string (⟨#[]⟩ : ByteArray)]) ?_ 1 _ rfl; refine bx ?_; refine blk_put (cs := #[.string (⟨#[]⟩ : ByteArray), .int .i64 0, .string (⟨#[]⟩ : ByteArray), .string (⟨#[]⟩ : ByteArray), .int .i64 0, .int .i64 0, .string (⟨#[]⟩ : ByteArray), .string (⟨#[]⟩ : ByteArray)]) ?_ 0 _ rfl; refine bx ?_; refine blk_far ?_ NB239_238.out _; refine bx ?_; exact BK239.out) Try.underlying39 rfl (by kernel_rfl)) rfl ?_
        exact ⟨exq, ib HI0.out, bi HB.out, kb HK.out⟩
       ·rw [if_neg c62] at H
        exact absurd H (by simp)
      ·rw [if_neg c61] at H
       exact absurd H (by simp)
     ·rw [if_neg c59] at H
      have c59b0 : (t240 == 4) = false := beq_eq_false_iff_ne.mpr c59
      have c59b1 : (t240 != 4) = true := bne_iff_ne.mpr c59
      by_cases c79 : t240 = 5
      ·rw [if_pos c79] at H
       have c79b0 : (t240 == 5) = true := beq_iff_eq.mpr c79
       have c79b1 : (t240 != 5) = false := bne_eq_false_iff_eq.mpr c79
       clear c79
       obtain ⟨y265, hy265⟩ : ∃ y_ : List Int, y_ = (([(-1), 0, 1, 1000, 1001] : List Int)) := ⟨_, rfl⟩
       replace H : ((spec_l1Rd_pick.f k s0_0 t241 5).bind fun bt268 => (if 0 ≤ bt268.1 then (if bt268.1 < (y265.length : Int) then (some (a1_0, a1_1, a1_2, a1_3, a1_4, rd y265 bt268.1, a1_6, a1_7, bt268.2)) else (none)) else (none))) = some (r1, r2, r3, r4, r5, r6, r7, r8, r9) := rpl H hy265
       have Ny265 := Aside0.mk hy265
       clear hy265
       replace H := Option.bind_eq_some_iff.mp H
       obtain ⟨⟨t268, t269⟩, A800, H⟩ := H
       try dsimp only at H
       have A80 := Aside0.mk A800
       clear A800
       by_cases c81 : 0 ≤ t268
       ·rw [if_pos c81] at H
        have c81b0 : decide (0 ≤ t268) = true := decide_eq_true c81
        clear c81
        by_cases c82 : t268 < (y265.length : Int)
        ·rw [if_pos c82] at H
         have c82b0 : decide (t268 < (y265.length : Int)) = true := decide_eq_true c82
         clear c82
         simp only [Option.some.injEq, Prod.mk.injEq] at H
         obtain ⟨rfl, rfl, rfl, rfl, rfl, rfl, rfl, rfl, rfl⟩ := H
         go_enter Try.func82, Try.ntmps82
         go_wp2_with (first | ((with_reducible refine gate_dst (N := 3) rfl ?_); refine box_event ?hg (N := 3) ?hd (cs := #[.string a1_0, .int .i64 a1_1, .string a1_2, .string a1_3, .int .i64 a1_4, .int .i64 a1_5, .string a1_6, .string a1_7]) (t := 39) ?hr ?_; (case hd => rfl); (case hg => rfl); (case hr => first | (go_simp; done) | (go_simp; rfl)); intro gb238 hg w83 hbox hb; have t_ := And.intro (Aside0.mk (IsS107.below (ib HI0.out) hb)) <| And.intro (kt HK (KeepBut.of_below hb g none)) <| And.intro (bsi HB hb) <| And.intro (Aside0.mk (hbox)) <| And.intro (Aside0.mk ((by rw [hg]; exact (keep_size (w := w) (g := g) (row := none) (kb HK.out)) : w.heap.size ≤ gb238))) <| And.intro (Aside0.mk ((Nat.le_trans HW0.out (by rw [hg]; exact (keep_size (w := w) (g := g) (row := none) (kb HK.out)) : w.heap.size ≤ gb238) : w0.heap.size ≤ gb238))) <| And.intro (Aside0.mk ((by rw [hg]; exact Nat.ne_of_lt (IsS107.lt (show IsS107 w0 _ g s0_0 s0_1 from ib HI0.out)) : g ≠ gb238))) <| (Aside0.mk ((by rw [hg]; exact Nat.ne_of_gt (IsS107.lt (show IsS107 w0 _ g s0_0 s0_1 from ib HI0.out)) : gb238 ≠ g))); clear HI0 HK HB; obtain ⟨HI0, HK, HB, BK238, GW238, GE238, NB0_238, NB238_0⟩ := t_; clear hb hbox hg) | ((with_reducible refine gate_dst (N := 4) rfl ?_); refine box_event ?hg (N := 4) ?hd (cs := #[.string (⟨#[]⟩ : ByteArray), .int .i64 0, .string (⟨#[]⟩ : ByteArray), .string (⟨#[]⟩ : ByteArray), .int .i64 0, .int .i64 0, .string (⟨#[]⟩ : ByteArray), .string (⟨#[]⟩ : ByteArray)]) (t := 39) ?hr ?_; (case hd => rfl); (case hg => rfl); (case hr => first | (go_simp; done) | (go_simp; rfl)); intro gb239 hg w84 hbox hb; have t_ := And.intro (Aside0.mk (IsS107.below (ib HI0.out) hb)) <| And.intro (up BK238 hb) <| And.intro (kt HK (KeepBut.of_below hb g none)) <| And.intro (bsi HB hb) <| And.intro (Aside0.mk (hbox)) <| And.intro (Aside0.mk ((by rw [hg]; exact (keep_size (w := w) (g := g) (row := none) (kb HK.out)) : w.heap.size ≤ gb239))) <| And.intro (Aside0.mk ((Nat.le_trans HW0.out (by rw [hg]; exact (keep_size (w := w) (g := g) (row := none) (kb HK.out)) : w.heap.size ≤ gb239) : w0.heap.size ≤ gb239))) <| And.intro (nlt' hg BK238) <| And.intro (ngt' hg BK238) <| And.intro (Aside0.mk ((by rw [hg]; exact Nat.ne_of_lt (IsS107.lt (show IsS107 w0 _ g s0_0 s0_1 from ib HI0.out)) : g ≠ gb239))) <| (Aside0.mk ((by rw [hg]; exact Nat.ne_of_gt (IsS107.lt (show IsS107 w0 _ g s0_0 s0_1 from ib HI0.out)) : gb239 ≠ g))); clear HI0 BK238 HK HB; obtain ⟨HI0, BK238, HK, HB, BK239, GW239, GE239, NB238_239, NB239_238, NB0_239, NB239_0⟩ := t_; clear hb hbox hg) | ((with_reducible refine gate_callee (f := 64) rfl ?_); refine goesL_ (some 6) rfl rfl Try.func64 (by kernel_rfl) rfl #[.pointer (some ⟨g, 0, none⟩), .int .i64 8] rfl mxp ?_; (with_reducible refine (spec_l1Rd_pick.calls k g s0_0 s0_1 8 t240 t241 w0 _ ?side1 ?side2 A3.out).mono ?_); (case side1 => exact ib HI0.out); (case side2 => exact bi HB.out); rintro e w85 ⟨rfl, hi, hb, hk⟩; refine ⟨_, rfl, ?_⟩; have t_ := And.intro (kp BK238 hk NB238_0) <| And.intro (kp BK239 hk NB239_0) <| And.intro (kt HK hk) <| And.intro (Aside0.mk (hb)) <| (Aside0.mk (hi)); clear BK238 BK239 HK HB HI0; obtain ⟨BK238, BK239, HK, HB, HI0⟩ := t_; (try clear hb); (try clear hb2); (try clear hk); (try clear hi)) | ((with_reducible refine gate_dst (N := 54) rfl ?_); refine Kd.R_lit (Kd.int .i64) _ 3 ?hg (N := 54) ?hd (xs := ([(-1), 0, 1, 1000, 1001] : List Int)) (inner := [.int .i64 (-1), .int .i64 0, .int .i64 1, .int .i64 1000, .int .i64 1001]) (ok := fun _ => True) (okp := fun _ => True) ?hr ?hp (fun _ hk => hk) trivial (Below.refl _ _) (Nat.le_refl _) (by simp) ?_; (case hd => rfl); (case hg => rfl); (case hr => first | (go_simp; done) | (go_simp; rfl)); (case hp => exact (Reps.one (show Kd.M (Kd.int .i64) _ _ _ (-1) [.int .i64 (-1)] from rfl) (Reps.one (show Kd.M (Kd.int .i64) _ _ _ 0 [.int .i64 0] from rfl) (Reps.one (show Kd.M (Kd.int .i64) _ _ _ 1 [.int .i64 1] from rfl) (Reps.one (show Kd.M (Kd.int .i64) _ _ _ 1000 [.int .i64 1000] from rfl) (Reps.one (show Kd.M (Kd.int .i64) _ _ _ 1001 [.int .i64 1001] from rfl) (Reps.none _ _))))))); intro v266 w86 ho87 hb hg_ hnew_; clear hg_ hnew_; (first | rw [← Ny265.out] at ho87 | (simp only [Int.reduceToNat] at ho87; rw [← Ny265.out] at ho87)); have t_ := And.intro (Aside0.mk (Kd.R_lower ho87 (keep_size (w := w) (g := g) (row := none) (kb HK.out)))) <| And.intro (Aside0.mk (IsS107.below (ib HI0.out) hb)) <| And.intro (up BK238 hb) <| And.intro (up BK239 hb) <| And.intro (kt HK (KeepBut.of_below hb g none)) <| (bsi HB hb); clear HI0 BK238 BK239 HK HB; obtain ⟨HO267, HI0, BK238, BK239, HK, HB⟩ := t_; clear hb ho87) | ((with_reducible refine gate_callee (f := 64) rfl ?_); refine goesL_ (some 56) rfl rfl Try.func64 (by kernel_rfl) rfl #[.pointer (some ⟨g, 0, none⟩), .int .i64 5] rfl mxp ?_; (with_reducible refine (spec_l1Rd_pick.calls k g s0_0 t241 5 t268 t269 w0 _ ?side1 ?side2 A80.out).mono ?_); (case side1 => exact ib HI0.out); (case side2 => exact bi HB.out); rintro e w88 ⟨rfl, hi, hb, hk⟩; refine ⟨_, rfl, ?_⟩; have t_ := And.intro (kp BK238 hk NB238_0) <| And.intro (kp BK239 hk NB239_0) <| And.intro (Aside0.mk (Kd.R_mono (Kd.R_keep (IsS107.apart (show IsS107 w0 _ g s0_0 t241 from ib HI0.out) (rx HO267.out) (by decide)) hk (fun _ h => h.2)) (fun _ h => h.1))) <| And.intro (kt HK hk) <| And.intro (Aside0.mk (hb)) <| (Aside0.mk (hi)); clear BK238 BK239 HO267 HK HB HI0; obtain ⟨BK238, BK239, HO267, HK, HB, HI0⟩ := t_; (try clear hb); (try clear hb2); (try clear hk); (try clear hi); obtain ⟨Ao89, co89, eo89⟩ := Kd.R_slice HO267.out; subst eo89; have p270 : 0 ≤ (t268 : Int) := oda; have q270 : t268 < (y265.length : Int) := oda; obtain ⟨ad270, e270, hx270_0⟩ := Kd.at_int (Kd.R_reads' HO267.out).2.2 t268 p270 q270; cases e270; replace p270 := eq_true p270; replace q270 := eq_true q270; have hnb90 := NB238_239.out; have hnc90 := NB239_238.out; have hnb91 := NB238_0.out; have hnc91 := NB0_238.out; have hcz92_0 := b0 BK238; have hcz92_1 := b1 BK238; have hcz92_2 := b2 BK238; have hcz92_3 := b3 BK238; have hcz92_4 := b4 BK238; have hcz92_5 := b5 BK238; have hcz92_6 := b6 BK238; have hcz92_7 := b7 BK238; have hfz92_0 := fz BK238 0; have hfz92_1 := fz BK238 1; have hfz92_2 := fz BK238 2; have hfz92_3 := fz BK238 3; have hfz92_4 := fz BK238 4; have hfz92_5 := fz BK238 5; have hfz92_6 := fz BK238 6; have hfz92_7 := fz BK238 7; have hnb93 := NB239_0.out; have hnc93 := NB0_239.out; have hcz94_0 := b0 BK239; have hcz94_1 := b1 BK239; have hcz94_2 := b2 BK239; have hcz94_3 := b3 BK239; have hcz94_4 := b4 BK239; have hcz94_5 := b5 BK239; have hcz94_6 := b6 BK239; have hcz94_7 := b7 BK239; have hfz94_0 := fz BK239 0; have hfz94_1 := fz BK239 1; have hfz94_2 := fz BK239 2; have hfz94_3 := fz BK239 3; have hfz94_4 := fz BK239 4; have hfz94_5 := fz BK239 5; have hfz94_6 := fz BK239 6; have hfz94_7 := fz BK239 7))
         refine bodyPost_ret (results_cell_row rfl _ _ gb239 39 #[.string a1_0, .int .i64 a1_1, .string a1_2, .string a1_3, .int .i64 a1_4, .int .i64 (rd y265 t268), .string a1_6, .string a1_7] (0, 0) _ rfl (by refine bx ?_; refine blk_put (cs := #[.string a1_0, .int .i64 a1_1, .string a1_2, .string a1_3, .int .i64 a1_4, .int .i64 (rd y265 t268), .string a1_6, .string (⟨#[]⟩ : ByteArray)]) ?_ 7 _ rfl; refine bx ?_; refine blk_put (cs := #[.string a1_0, .int .i64 a1_1, .string a1_2, .string a1_3, .int .i64 a1_4, .int .i64 (rd y265 t268), .string (⟨#[]⟩ : ByteArray), .string (⟨#[]⟩ : ByteArray)]) ?_ 6 _ rfl; refine bx ?_; refine blk_put (cs := #[.string a1_0, .int .i64 a1_1, .string a1_2, .string a1_3, .int .i64 a1_4, .int .i64 0, .string (⟨#[]⟩ : ByteArray), .string (⟨#[]⟩ : ByteArray)]) ?_ 5 _ rfl; refine bx ?_; refine blk_put (cs := #[.string a1_0, .int .i64 a1_1, .string a1_2, .string a1_3, .int .i64 0, .int .i64 0, .string (⟨#[]⟩ : ByteArray), .string (⟨#[]⟩ : ByteArray)]) ?_ 4 _ rfl; refine bx ?_; refine blk_put (cs := #[.string a1_0, .int .i64 a1_1, .string a1_2, .string (⟨#[]⟩ : ByteArray), .int .i64 0, .int .i64 0, .string (⟨#[]⟩ : ByteArray), .string (⟨#[]⟩ : ByteArray)]) ?_ 3 _ rfl; refine bx ?_; refine blk_put (cs := #[.string a1_0, .int .i64 a1_1, .string (⟨#[]⟩ : ByteArray), .string (⟨#[]⟩ : ByteArray), .int .i64 0, .int .i64 0, .string (⟨#[]⟩ : ByteArray), .string (⟨#[]⟩ : ByteArray)]) ?_ 2 _ rfl; refine bx ?_; refine blk_put (cs := #[.string a1_0, .int .i64 0, .string (⟨#[]⟩ : ByteArray), .string (⟨#[]⟩ : ByteArray), .int .i64 0, .int .i64 0, .string (⟨#[]⟩ : ByteArray), .string (⟨#[]⟩ : ByteArray)]) ?_ 1 _ rfl; refine bx ?_; refine blk_put (cs := #[.string (⟨#[]⟩ : ByteArray), .int .i64 0, .string (⟨#[]⟩ : ByteArray), .string (⟨#[]⟩ : ByteArray), .int .i64 0, .int .i64 0, .string (⟨#[]⟩ : ByteArray), .string (⟨#[]⟩ : ByteArray)]) ?_ 0 _ rfl; refine bx ?_; refine blk_far ?_ NB239_238.out _; refine bx ?_; exact BK239.out) Try.underlying39 rfl (by kernel_rfl)) rfl ?_
         exact ⟨exq, ib HI0.out, bi HB.out, kb HK.out⟩
        ·rw [if_neg c82] at H
         exact absurd H (by simp)
       ·rw [if_neg c81] at H
        exact absurd H (by simp)
      ·rw [if_neg c79] at H
       have c79b0 : (t240 == 5) = false := beq_eq_false_iff_ne.mpr c79
       have c79b1 : (t240 != 5) = true := bne_iff_ne.mpr c79
       by_cases c95 : t240 = 6
       ·rw [if_pos c95] at H
        have c95b0 : (t240 == 6) = true := beq_iff_eq.mpr c95
        have c95b1 : (t240 != 6) = false := bne_eq_false_iff_eq.mpr c95
        clear c95
        obtain ⟨y271, hy271⟩ : ∃ y_ : List ByteArray, y_ = (([(⟨#[]⟩ : ByteArray), (⟨#[98, 114, 101, 119]⟩ : ByteArray), (⟨#[102, 49]⟩ : ByteArray), (⟨#[114, 101, 115, 116]⟩ : ByteArray), (⟨#[110, 111, 110, 101]⟩ : ByteArray)] : List ByteArray)) := ⟨_, rfl⟩
        replace H : ((spec_l1Rd_of.f k s0_0 t241 y271).bind fun bt274 => (some (a1_0, a1_1, a1_2, a1_3, a1_4, a1_5, bt274.1, a1_7, bt274.2))) = some (r1, r2, r3, r4, r5, r6, r7, r8, r9) := rpl H hy271
        have Ny271 := Aside0.mk hy271
        clear hy271
        replace H := Option.bind_eq_some_iff.mp H
        obtain ⟨⟨t274, t275⟩, A960, H⟩ := H
        try dsimp only at H
        have A96 := Aside0.mk A960
        clear A960
        simp only [Option.some.injEq, Prod.mk.injEq] at H
        obtain ⟨rfl, rfl, rfl, rfl, rfl, rfl, rfl, rfl, rfl⟩ := H
        go_enter Try.func82, Try.ntmps82
        go_wp2_with (first | ((with_reducible refine gate_dst (N := 3) rfl ?_); refine box_event ?hg (N := 3) ?hd (cs := #[.string a1_0, .int .i64 a1_1, .string a1_2, .string a1_3, .int .i64 a1_4, .int .i64 a1_5, .string a1_6, .string a1_7]) (t := 39) ?hr ?_; (case hd => rfl); (case hg => rfl); (case hr => first | (go_simp; done) | (go_simp; rfl)); intro gb238 hg w97 hbox hb; have t_ := And.intro (Aside0.mk (IsS107.below (ib HI0.out) hb)) <| And.intro (kt HK (KeepBut.of_below hb g none)) <| And.intro (bsi HB hb) <| And.intro (Aside0.mk (hbox)) <| And.intro (Aside0.mk ((by rw [hg]; exact (keep_size (w := w) (g := g) (row := none) (kb HK.out)) : w.heap.size ≤ gb238))) <| And.intro (Aside0.mk ((Nat.le_trans HW0.out (by rw [hg]; exact (keep_size (w := w) (g := g) (row := none) (kb HK.out)) : w.heap.size ≤ gb238) : w0.heap.size ≤ gb238))) <| And.intro (Aside0.mk ((by rw [hg]; exact Nat.ne_of_lt (IsS107.lt (show IsS107 w0 _ g s0_0 s0_1 from ib HI0.out)) : g ≠ gb238))) <| (Aside0.mk ((by rw [hg]; exact Nat.ne_of_gt (IsS107.lt (show IsS107 w0 _ g s0_0 s0_1 from ib HI0.out)) : gb238 ≠ g))); clear HI0 HK HB; obtain ⟨HI0, HK, HB, BK238, GW238, GE238, NB0_238, NB238_0⟩ := t_; clear hb hbox hg) | ((with_reducible refine gate_dst (N := 4) rfl ?_); refine box_event ?hg (N := 4) ?hd (cs := #[.string (⟨#[]⟩ : ByteArray), .int .i64 0, .string (⟨#[]⟩ : ByteArray), .string (⟨#[]⟩ : ByteArray), .int .i64 0, .int .i64 0, .string (⟨#[]⟩ : ByteArray), .string (⟨#[]⟩ : ByteArray)]) (t := 39) ?hr ?_; (case hd => rfl); (case hg => rfl); (case hr => first | (go_simp; done) | (go_simp; rfl)); intro gb239 hg w98 hbox hb; have t_ := And.intro (Aside0.mk (IsS107.below (ib HI0.out) hb)) <| And.intro (up BK238 hb) <| And.intro (kt HK (KeepBut.of_below hb g none)) <| And.intro (bsi HB hb) <| And.intro (Aside0.mk (hbox)) <| And.intro (Aside0.mk ((by rw [hg]; exact (keep_size (w := w) (g := g) (row := none) (kb HK.out)) : w.heap.size ≤ gb239))) <| And.intro (Aside0.mk ((Nat.le_trans HW0.out (by rw [hg]; exact (keep_size (w := w) (g := g) (row := none) (kb HK.out)) : w.heap.size ≤ gb239) : w0.heap.size ≤ gb239))) <| And.intro (nlt' hg BK238) <| And.intro (ngt' hg BK238) <| And.intro (Aside0.mk ((by rw [hg]; exact Nat.ne_of_lt (IsS107.lt (show IsS107 w0 _ g s0_0 s0_1 from ib HI0.out)) : g ≠ gb239))) <| (Aside0.mk ((by rw [hg]; exact Nat.ne_of_gt (IsS107.lt (show IsS107 w0 _ g s0_0 s0_1 from ib HI0.out)) : gb239 ≠ g))); clear HI0 BK238 HK HB; obtain ⟨HI0, BK238, HK, HB, BK239, GW239, GE239, NB238_239, NB239_238, NB0_239, NB239_0⟩ := t_; clear hb hbox hg) | ((with_reducible refine gate_callee (f := 64) rfl ?_); refine goesL_ (some 6) rfl rfl Try.func64 (by kernel_rfl) rfl #[.pointer (some ⟨g, 0, none⟩), .int .i64 8] rfl mxp ?_; (with_reducible refine (spec_l1Rd_pick.calls k g s0_0 s0_1 8 t240 t241 w0 _ ?side1 ?side2 A3.out).mono ?_); (case side1 => exact ib HI0.out); (case side2 => exact bi HB.out); rintro e w99 ⟨rfl, hi, hb, hk⟩; refine ⟨_, rfl, ?_⟩; have t_ := And.intro (kp BK238 hk NB238_0) <| And.intro (kp BK239 hk NB239_0) <| And.intro (kt HK hk) <| And.intro (Aside0.mk (hb)) <| (Aside0.mk (hi)); clear BK238 BK239 HK HB HI0; obtain ⟨BK238, BK239, HK, HB, HI0⟩ := t_; (try clear hb); (try clear hb2); (try clear hk); (try clear hi)) | ((with_reducible refine gate_dst (N := 63) rfl ?_); refine Kd.R_lit Kd.string _ 9 ?hg (N := 63) ?hd (xs := ([(⟨#[]⟩ : ByteArray), (⟨#[98, 114, 101, 119]⟩ : ByteArray), (⟨#[102, 49]⟩ : ByteArray), (⟨#[114, 101, 115, 116]⟩ : ByteArray), (⟨#[110, 111, 110, 101]⟩ : ByteArray)] : List ByteArray)) (inner := [.string (⟨#[]⟩ : ByteArray), .string (⟨#[98, 114, 101, 119]⟩ : ByteArray), .string (⟨#[102, 49]⟩ : ByteArray), .string (⟨#[114, 101, 115, 116]⟩ : ByteArray), .string (⟨#[110, 111, 110, 101]⟩ : ByteArray)]) (ok := fun _ => True) (okp := fun _ => True) ?hr ?hp (fun _ hk => hk) trivial (Below.refl _ _) (Nat.le_refl _) (by simp) ?_; (case hd => rfl); (case hg => rfl); (case hr => first | (go_simp; done) | (go_simp; rfl)); (case hp => exact (Reps.one (show Kd.M Kd.string _ _ _ (⟨#[]⟩ : ByteArray) [.string (⟨#[]⟩ : ByteArray)] from rfl) (Reps.one (show Kd.M Kd.string _ _ _ (⟨#[98, 114, 101, 119]⟩ : ByteArray) [.string (⟨#[98, 114, 101, 119]⟩ : ByteArray)] from rfl) (Reps.one (show Kd.M Kd.string _ _ _ (⟨#[102, 49]⟩ : ByteArray) [.string (⟨#[102, 49]⟩ : ByteArray)] from rfl) (Reps.one (show Kd.M Kd.string _ _ _ (⟨#[114, 101, 115, 116]⟩ : ByteArray) [.string (⟨#[114, 101, 115, 116]⟩ : ByteArray)] from rfl) (Reps.one (show Kd.M Kd.string _ _ _ (⟨#[110, 111, 110, 101]⟩ : ByteArray) [.string (⟨#[110, 111, 110, 101]⟩ : ByteArray)] from rfl) (Reps.none _ _))))))); intro v272 w100 ho101 hb hg_ hnew_; clear hg_ hnew_; (first | rw [← Ny271.out] at ho101 | (simp only [Int.reduceToNat] at ho101; rw [← Ny271.out] at ho101)); have t_ := And.intro (Aside0.mk (Kd.R_lower ho101 (keep_size (w := w) (g := g) (row := none) (kb HK.out)))) <| And.intro (Aside0.mk (IsS107.below (ib HI0.out) hb)) <| And.intro (up BK238 hb) <| And.intro (up BK239 hb) <| And.intro (kt HK (KeepBut.of_below hb g none)) <| (bsi HB hb); clear HI0 BK238 BK239 HK HB; obtain ⟨HO273, HI0, BK238, BK239, HK, HB⟩ := t_; clear hb ho101; obtain ⟨Ao102, co102, eo102⟩ := Kd.R_slice HO273.out; subst eo102) | ((with_reducible refine gate_callee (f := 80) rfl ?_); refine goesL_ (some 64) rfl rfl Try.func80 (by kernel_rfl) rfl #[.pointer (some ⟨g, 0, none⟩), .slice Ao102 y271.length co102] rfl mxp ?_; (with_reducible refine (spec_l1Rd_of.calls k g s0_0 t241 _ _ y271 t274 t275 w0 _ ?side1 ?side2 ?side3 ?side4 ?side5 A96.out).mono ?_); (case side1 => exact ib HI0.out); (case side2 => exact bi HB.out); (case side3 => exact cx (Kd.R_reads' HO273.out).2.2); (case side4 => exact (Kd.R_reads' HO273.out).2.1); (case side5 => exact far_slice (IsS107.own_ne HI0.out HO273.out (by decide))); rintro e w103 ⟨rfl, hi, hb, hk⟩; refine ⟨_, rfl, ?_⟩; have t_ := And.intro (kp BK238 hk NB238_0) <| And.intro (kp BK239 hk NB239_0) <| And.intro (Aside0.mk (Kd.R_mono (Kd.R_keep (IsS107.apart (show IsS107 w0 _ g s0_0 t241 from ib HI0.out) (rx HO273.out) (by decide)) hk (fun _ h => h.2)) (fun _ h => h.1))) <| And.intro (kt HK hk) <| And.intro (Aside0.mk (hb)) <| (Aside0.mk (hi)); clear BK238 BK239 HO273 HK HB HI0; obtain ⟨BK238, BK239, HO273, HK, HB, HI0⟩ := t_; (try clear hb); (try clear hb2); (try clear hk); (try clear hi); have hnb104 := NB238_239.out; have hnc104 := NB239_238.out; have hnb105 := NB238_0.out; have hnc105 := NB0_238.out; have hcz106_0 := b0 BK238; have hcz106_1 := b1 BK238; have hcz106_2 := b2 BK238; have hcz106_3 := b3 BK238; have hcz106_4 := b4 BK238; have hcz106_5 := b5 BK238; have hcz106_6 := b6 BK238; have hcz106_7 := b7 BK238; have hfz106_0 := fz BK238 0; have hfz106_1 := fz BK238 1; have hfz106_2 := fz BK238 2; have hfz106_3 := fz BK238 3; have hfz106_4 := fz BK238 4; have hfz106_5 := fz BK238 5; have hfz106_6 := fz BK238 6; have hfz106_7 := fz BK238 7; have hnb107 := NB239_0.out; have hnc107 := NB0_239.out; have hcz108_0 := b0 BK239; have hcz108_1 := b1 BK239; have hcz108_2 := b2 BK239; have hcz108_3 := b3 BK239; have hcz108_4 := b4 BK239; have hcz108_5 := b5 BK239; have hcz108_6 := b6 BK239; have hcz108_7 := b7 BK239; have hfz108_0 := fz BK239 0; have hfz108_1 := fz BK239 1; have hfz108_2 := fz BK239 2; have hfz108_3 := fz BK239 3; have hfz108_4 := fz BK239 4; have hfz108_5 := fz BK239 5; have hfz108_6 := fz BK239 6; have hfz108_7 := fz BK239 7))
        refine bodyPost_ret (results_cell_row rfl _ _ gb239 39 #[.string a1_0, .int .i64 a1_1, .string a1_2, .string a1_3, .int .i64 a1_4, .int .i64 a1_5, .string t274, .string a1_7] (0, 0) _ rfl (by refine bx ?_; refine blk_put (cs := #[.string a1_0, .int .i64 a1_1, .string a1_2, .string a1_3, .int .i64 a1_4, .int .i64 a1_5, .string t274, .string (⟨#[]⟩ : ByteArray)]) ?_ 7 _ rfl; refine bx ?_; refine blk_put (cs := #[.string a1_0, .int .i64 a1_1, .string a1_2, .string a1_3, .int .i64 a1_4, .int .i64 a1_5, .string (⟨#[]⟩ : ByteArray), .string (⟨#[]⟩ : ByteArray)]) ?_ 6 _ rfl; refine bx ?_; refine blk_put (cs := #[.string a1_0, .int .i64 a1_1, .string a1_2, .string a1_3, .int .i64 a1_4, .int .i64 0, .string (⟨#[]⟩ : ByteArray), .string (⟨#[]⟩ : ByteArray)]) ?_ 5 _ rfl; refine bx ?_; refine blk_put (cs := #[.string a1_0, .int .i64 a1_1, .string a1_2, .string a1_3, .int .i64 0, .int .i64 0, .string (⟨#[]⟩ : ByteArray), .string (⟨#[]⟩ : ByteArray)]) ?_ 4 _ rfl; refine bx ?_; refine blk_put (cs := #[.string a1_0, .int .i64 a1_1, .string a1_2, .string (⟨#[]⟩ : ByteArray), .int .i64 0, .int .i64 0, .string (⟨#[]⟩ : ByteArray), .string (⟨#[]⟩ : ByteArray)]) ?_ 3 _ rfl; refine bx ?_; refine blk_put (cs := #[.string a1_0, .int .i64 a1_1, .string (⟨#[]⟩ : ByteArray), .string (⟨#[]⟩ : ByteArray), .int .i64 0, .int .i64 0, .string (⟨#[]⟩ : ByteArray), .string (⟨#[]⟩ : ByteArray)]) ?_ 2 _ rfl; refine bx ?_; refine blk_put (cs := #[.string a1_0, .int .i64 0, .string (⟨#[]⟩ : ByteArray), .string (⟨#[]⟩ : ByteArray), .int .i64 0, .int .i64 0, .string (⟨#[]⟩ : ByteArray), .string (⟨#[]⟩ : ByteArray)]) ?_ 1 _ rfl; refine bx ?_; refine blk_put (cs := #[.string (⟨#[]⟩ : ByteArray), .int .i64 0, .string (⟨#[]⟩ : ByteArray), .string (⟨#[]⟩ : ByteArray), .int .i64 0, .int .i64 0, .string (⟨#[]⟩ : ByteArray), .string (⟨#[]⟩ : ByteArray)]) ?_ 0 _ rfl; refine bx ?_; refine blk_far ?_ NB239_238.out _; refine bx ?_; exact BK239.out) Try.underlying39 rfl (by kernel_rfl)) rfl ?_
        exact ⟨exq, ib HI0.out, bi HB.out, kb HK.out⟩
       ·rw [if_neg c95] at H
        have c95b0 : (t240 == 6) = false := beq_eq_false_iff_ne.mpr c95
        have c95b1 : (t240 != 6) = true := bne_iff_ne.mpr c95
        obtain ⟨y276, hy276⟩ : ∃ y_ : List ByteArray, y_ = (([(⟨#[]⟩ : ByteArray), (⟨#[98, 114, 101, 119]⟩ : ByteArray), (⟨#[102, 49]⟩ : ByteArray), (⟨#[114, 101, 115, 116]⟩ : ByteArray), (⟨#[110, 111, 110, 101]⟩ : ByteArray)] : List ByteArray)) := ⟨_, rfl⟩
        replace H : ((spec_l1Rd_of.f k s0_0 t241 y276).bind fun bt279 => (some (a1_0, a1_1, a1_2, a1_3, a1_4, a1_5, a1_6, bt279.1, bt279.2))) = some (r1, r2, r3, r4, r5, r6, r7, r8, r9) := rpl H hy276
        have Ny276 := Aside0.mk hy276
        clear hy276
        replace H := Option.bind_eq_some_iff.mp H
        obtain ⟨⟨t279, t280⟩, A1090, H⟩ := H
        try dsimp only at H
        have A109 := Aside0.mk A1090
        clear A1090
        simp only [Option.some.injEq, Prod.mk.injEq] at H
        obtain ⟨rfl, rfl, rfl, rfl, rfl, rfl, rfl, rfl, rfl⟩ := H
        go_enter Try.func82, Try.ntmps82
        go_wp2_with (first | ((with_reducible refine gate_dst (N := 3) rfl ?_); refine box_event ?hg (N := 3) ?hd (cs := #[.string a1_0, .int .i64 a1_1, .string a1_2, .string a1_3, .int .i64 a1_4, .int .i64 a1_5, .string a1_6, .string a1_7]) (t := 39) ?hr ?_; (case hd => rfl); (case hg => rfl); (case hr => first | (go_simp; done) | (go_simp; rfl)); intro gb238 hg w110 hbox hb; have t_ := And.intro (Aside0.mk (IsS107.below (ib HI0.out) hb)) <| And.intro (kt HK (KeepBut.of_below hb g none)) <| And.intro (bsi HB hb) <| And.intro (Aside0.mk (hbox)) <| And.intro (Aside0.mk ((by rw [hg]; exact (keep_size (w := w) (g := g) (row := none) (kb HK.out)) : w.heap.size ≤ gb238))) <| And.intro (Aside0.mk ((Nat.le_trans HW0.out (by rw [hg]; exact (keep_size (w := w) (g := g) (row := none) (kb HK.out)) : w.heap.size ≤ gb238) : w0.heap.size ≤ gb238))) <| And.intro (Aside0.mk ((by rw [hg]; exact Nat.ne_of_lt (IsS107.lt (show IsS107 w0 _ g s0_0 s0_1 from ib HI0.out)) : g ≠ gb238))) <| (Aside0.mk ((by rw [hg]; exact Nat.ne_of_gt (IsS107.lt (show IsS107 w0 _ g s0_0 s0_1 from ib HI0.out)) : gb238 ≠ g))); clear HI0 HK HB; obtain ⟨HI0, HK, HB, BK238, GW238, GE238, NB0_238, NB238_0⟩ := t_; clear hb hbox hg) | ((with_reducible refine gate_dst (N := 4) rfl ?_); refine box_event ?hg (N := 4) ?hd (cs := #[.string (⟨#[]⟩ : ByteArray), .int .i64 0, .string (⟨#[]⟩ : ByteArray), .string (⟨#[]⟩ : ByteArray), .int .i64 0, .int .i64 0, .string (⟨#[]⟩ : ByteArray), .string (⟨#[]⟩ : ByteArray)]) (t := 39) ?hr ?_; (case hd => rfl); (case hg => rfl); (case hr => first | (go_simp; done) | (go_simp; rfl)); intro gb239 hg w111 hbox hb; have t_ := And.intro (Aside0.mk (IsS107.below (ib HI0.out) hb)) <| And.intro (up BK238 hb) <| And.intro (kt HK (KeepBut.of_below hb g none)) <| And.intro (bsi HB hb) <| And.intro (Aside0.mk (hbox)) <| And.intro (Aside0.mk ((by rw [hg]; exact (keep_size (w := w) (g := g) (row := none) (kb HK.out)) : w.heap.size ≤ gb239))) <| And.intro (Aside0.mk ((Nat.le_trans HW0.out (by rw [hg]; exact (keep_size (w := w) (g := g) (row := none) (kb HK.out)) : w.heap.size ≤ gb239) : w0.heap.size ≤ gb239))) <| And.intro (nlt' hg BK238) <| And.intro (ngt' hg BK238) <| And.intro (Aside0.mk ((by rw [hg]; exact Nat.ne_of_lt (IsS107.lt (show IsS107 w0 _ g s0_0 s0_1 from ib HI0.out)) : g ≠ gb239))) <| (Aside0.mk ((by rw [hg]; exact Nat.ne_of_gt (IsS107.lt (show IsS107 w0 _ g s0_0 s0_1 from ib HI0.out)) : gb239 ≠ g))); clear HI0 BK238 HK HB; obtain ⟨HI0, BK238, HK, HB, BK239, GW239, GE239, NB238_239, NB239_238, NB0_239, NB239_0⟩ := t_; clear hb hbox hg) | ((with_reducible refine gate_callee (f := 64) rfl ?_); refine goesL_ (some 6) rfl rfl Try.func64 (by kernel_rfl) rfl #[.pointer (some ⟨g, 0, none⟩), .int .i64 8] rfl mxp ?_; (with_reducible refine (spec_l1Rd_pick.calls k g s0_0 s0_1 8 t240 t241 w0 _ ?side1 ?side2 A3.out).mono ?_); (case side1 => exact ib HI0.out); (case side2 => exact bi HB.out); rintro e w112 ⟨rfl, hi, hb, hk⟩; refine ⟨_, rfl, ?_⟩; have t_ := And.intro (kp BK238 hk NB238_0) <| And.intro (kp BK239 hk NB239_0) <| And.intro (kt HK hk) <| And.intro (Aside0.mk (hb)) <| (Aside0.mk (hi)); clear BK238 BK239 HK HB HI0; obtain ⟨BK238, BK239, HK, HB, HI0⟩ := t_; (try clear hb); (try clear hb2); (try clear hk); (try clear hi)) | ((with_reducible refine gate_dst (N := 8) rfl ?_); refine Kd.R_lit Kd.string _ 9 ?hg (N := 8) ?hd (xs := ([(⟨#[]⟩ : ByteArray), (⟨#[98, 114, 101, 119]⟩ : ByteArray), (⟨#[102, 49]⟩ : ByteArray), (⟨#[114, 101, 115, 116]⟩ : ByteArray), (⟨#[110, 111, 110, 101]⟩ : ByteArray)] : List ByteArray)) (inner := [.string (⟨#[]⟩ : ByteArray), .string (⟨#[98, 114, 101, 119]⟩ : ByteArray), .string (⟨#[102, 49]⟩ : ByteArray), .string (⟨#[114, 101, 115, 116]⟩ : ByteArray), .string (⟨#[110, 111, 110, 101]⟩ : ByteArray)]) (ok := fun _ => True) (okp := fun _ => True) ?hr ?hp (fun _ hk => hk) trivial (Below.refl _ _) (Nat.le_refl _) (by simp) ?_; (case hd => rfl); (case hg => rfl); (case hr => first | (go_simp; done) | (go_simp; rfl)); (case hp => exact (Reps.one (show Kd.M Kd.string _ _ _ (⟨#[]⟩ : ByteArray) [.string (⟨#[]⟩ : ByteArray)] from rfl) (Reps.one (show Kd.M Kd.string _ _ _ (⟨#[98, 114, 101, 119]⟩ : ByteArray) [.string (⟨#[98, 114, 101, 119]⟩ : ByteArray)] from rfl) (Reps.one (show Kd.M Kd.string _ _ _ (⟨#[102, 49]⟩ : ByteArray) [.string (⟨#[102, 49]⟩ : ByteArray)] from rfl) (Reps.one (show Kd.M Kd.string _ _ _ (⟨#[114, 101, 115, 116]⟩ : ByteArray) [.string (⟨#[114, 101, 115, 116]⟩ : ByteArray)] from rfl) (Reps.one (show Kd.M Kd.string _ _ _ (⟨#[110, 111, 110, 101]⟩ : ByteArray) [.string (⟨#[110, 111, 110, 101]⟩ : ByteArray)] from rfl) (Reps.none _ _))))))); intro v277 w113 ho114 hb hg_ hnew_; clear hg_ hnew_; (first | rw [← Ny276.out] at ho114 | (simp only [Int.reduceToNat] at ho114; rw [← Ny276.out] at ho114)); have t_ := And.intro (Aside0.mk (Kd.R_lower ho114 (keep_size (w := w) (g := g) (row := none) (kb HK.out)))) <| And.intro (Aside0.mk (IsS107.below (ib HI0.out) hb)) <| And.intro (up BK238 hb) <| And.intro (up BK239 hb) <| And.intro (kt HK (KeepBut.of_below hb g none)) <| (bsi HB hb); clear HI0 BK238 BK239 HK HB; obtain ⟨HO278, HI0, BK238, BK239, HK, HB⟩ := t_; clear hb ho114; obtain ⟨Ao115, co115, eo115⟩ := Kd.R_slice HO278.out; subst eo115) | ((with_reducible refine gate_callee (f := 80) rfl ?_); refine goesL_ (some 9) rfl rfl Try.func80 (by kernel_rfl) rfl #[.pointer (some ⟨g, 0, none⟩), .slice Ao115 y276.length co115] rfl mxp ?_; (with_reducible refine (spec_l1Rd_of.calls k g s0_0 t241 _ _ y276 t279 t280 w0 _ ?side1 ?side2 ?side3 ?side4 ?side5 A109.out).mono ?_); (case side1 => exact ib HI0.out); (case side2 => exact bi HB.out); (case side3 => exact cx (Kd.R_reads' HO278.out).2.2); (case side4 => exact (Kd.R_reads' HO278.out).2.1); (case side5 => exact far_slice (IsS107.own_ne HI0.out HO278.out (by decide))); rintro e w116 ⟨rfl, hi, hb, hk⟩; refine ⟨_, rfl, ?_⟩; have t_ := And.intro (kp BK238 hk NB238_0) <| And.intro (kp BK239 hk NB239_0) <| And.intro (Aside0.mk (Kd.R_mono (Kd.R_keep (IsS107.apart (show IsS107 w0 _ g s0_0 t241 from ib HI0.out) (rx HO278.out) (by decide)) hk (fun _ h => h.2)) (fun _ h => h.1))) <| And.intro (kt HK hk) <| And.intro (Aside0.mk (hb)) <| (Aside0.mk (hi)); clear BK238 BK239 HO278 HK HB HI0; obtain ⟨BK238, BK239, HO278, HK, HB, HI0⟩ := t_; (try clear hb); (try clear hb2); (try clear hk); (try clear hi); have hnb117 := NB238_239.out; have hnc117 := NB239_238.out; have hnb118 := NB238_0.out; have hnc118 := NB0_238.out; have hcz119_0 := b0 BK238; have hcz119_1 := b1 BK238; have hcz119_2 := b2 BK238; have hcz119_3 := b3 BK238; have hcz119_4 := b4 BK238; have hcz119_5 := b5 BK238; have hcz119_6 := b6 BK238; have hcz119_7 := b7 BK238; have hfz119_0 := fz BK238 0; have hfz119_1 := fz BK238 1; have hfz119_2 := fz BK238 2; have hfz119_3 := fz BK238 3; have hfz119_4 := fz BK238 4; have hfz119_5 := fz BK238 5; have hfz119_6 := fz BK238 6; have hfz119_7 := fz BK238 7; have hnb120 := NB239_0.out; have hnc120 := NB0_239.out; have hcz121_0 := b0 BK239; have hcz121_1 := b1 BK239; have hcz121_2 := b2 BK239; have hcz121_3 := b3 BK239; have hcz121_4 := b4 BK239; have hcz121_5 := b5 BK239; have hcz121_6 := b6 BK239; have hcz121_7 := b7 BK239; have hfz121_0 := fz BK239 0; have hfz121_1 := fz BK239 1; have hfz121_2 := fz BK239 2; have hfz121_3 := fz BK239 3; have hfz121_4 := fz BK239 4; have hfz121_5 := fz BK239 5; have hfz121_6 := fz BK239 6; have hfz121_7 := fz BK239 7))
        refine bodyPost_ret (results_cell_row rfl _ _ gb239 39 #[.string a1_0, .int .i64 a1_1, .string a1_2, .string a1_3, .int .i64 a1_4, .int .i64 a1_5, .string a1_6, .string t279] (0, 0) _ rfl (by refine bx ?_; refine blk_put (cs := #[.string a1_0, .int .i64 a1_1, .string a1_2, .string a1_3, .int .i64 a1_4, .int .i64 a1_5, .string a1_6, .string (⟨#[]⟩ : ByteArray)]) ?_ 7 _ rfl; refine bx ?_; refine blk_put (cs := #[.string a1_0, .int .i64 a1_1, .string a1_2, .string a1_3, .int .i64 a1_4, .int .i64 a1_5, .string (⟨#[]⟩ : ByteArray), .string (⟨#[]⟩ : ByteArray)]) ?_ 6 _ rfl; refine bx ?_; refine blk_put (cs := #[.string a1_0, .int .i64 a1_1, .string a1_2, .string a1_3, .int .i64 a1_4, .int .i64 0, .string (⟨#[]⟩ : ByteArray), .string (⟨#[]⟩ : ByteArray)]) ?_ 5 _ rfl; refine bx ?_; refine blk_put (cs := #[.string a1_0, .int .i64 a1_1, .string a1_2, .string a1_3, .int .i64 0, .int .i64 0, .string (⟨#[]⟩ : ByteArray), .string (⟨#[]⟩ : ByteArray)]) ?_ 4 _ rfl; refine bx ?_; refine blk_put (cs := #[.string a1_0, .int .i64 a1_1, .string a1_2, .string (⟨#[]⟩ : ByteArray), .int .i64 0, .int .i64 0, .string (⟨#[]⟩ : ByteArray), .string (⟨#[]⟩ : ByteArray)]) ?_ 3 _ rfl; refine bx ?_; refine blk_put (cs := #[.string a1_0, .int .i64 a1_1, .string (⟨#[]⟩ : ByteArray), .string (⟨#[]⟩ : ByteArray), .int .i64 0, .int .i64 0, .string (⟨#[]⟩ : ByteArray), .string (⟨#[]⟩ : ByteArray)]) ?_ 2 _ rfl; refine bx ?_; refine blk_put (cs := #[.string a1_0, .int .i64 0, .string (⟨#[]⟩ : ByteArray), .string (⟨#[]⟩ : ByteArray), .int .i64 0, .int .i64 0, .string (⟨#[]⟩ : ByteArray), .string (⟨#[]⟩ : ByteArray)]) ?_ 1 _ rfl; refine bx ?_; refine blk_put (cs := #[.string (⟨#[]⟩ : ByteArray), .int .i64 0, .string (⟨#[]⟩ : ByteArray), .string (⟨#[]⟩ : ByteArray), .int .i64 0, .int .i64 0, .string (⟨#[]⟩ : ByteArray), .string (⟨#[]⟩ : ByteArray)]) ?_ 0 _ rfl; refine bx ?_; refine blk_far ?_ NB239_238.out _; refine bx ?_; exact BK239.out) Try.underlying39 rfl (by kernel_rfl)) rfl ?_
        exact ⟨exq, ib HI0.out, bi HB.out, kb HK.out⟩

end Go.Proofs.Ytdkologncoofdaa.P
