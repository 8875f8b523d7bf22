/- Part 5 of the texts that the law FnExactRecRun reaches: contracts of the functions and plain lemmas. -/
import Derived.Test.YtdkologncoofdaaCFnExactRecRun2
import Derived.Test.YtdkologncoofdaaCFnExactRecRun3
import Derived.Test.YtdkologncoofdaaCFnExactRecRun4
-- Px69
namespace Go.Proofs.Ytdkologncoofdaa.P
open Go.RowKit Go.Proofs.YtdkologncoofdaaW.PrintWords Go.Proofs.YtdkologncoofdaaW.PrintLast Go.Proofs.YtdkologncoofdaaW.PrintMore
attribute [local go_sem] max2_int min2_int max_two min_two max_three min_three max_four min_four   -- for this text's walks alone
set_option linter.unusedVariables false
set_option linter.unusedSimpArgs false

/-! ### spec_RecRun: function 22 -/
mutual
def spec_RecRun.l0 : Nat → List (S39) → List (S43) → List ByteArray → Int → ByteArray → Int → Int → Option (ByteArray × Int × Int × List ByteArray)
  | 0, _, _, _, _, _, _, _ => none
  | k + 1, x0, x1, x7, x8, x811000, x811001, x811002 => (spec_RecOk.f k x0).bind fun t814 => (if t814 = true then ((spec_l2At.f k x0 x811000).bind fun t815 => (spec_RecRun.j1 k x0 x1 x7 x8 (decide (t815 ≥ 0)) x811000 x811001 x811002)) else (spec_RecRun.j1 k x0 x1 x7 x8 false x811000 x811001 x811002))
def spec_RecRun.j1 : Nat → List (S39) → List (S43) → List ByteArray → Int → Bool → ByteArray → Int → Int → Option (ByteArray × Int × Int × List ByteArray)
  | 0, _, _, _, _, _, _, _, _ => none
  | k + 1, x0, x1, x7, x8, x23, x811000, x811001, x811002 => if x23 = true then (if x8 < (x1.length : Int) then (if 0 ≤ x8 then (if x7.length < 8796093022208 then ((spec_RecGo.f k x0 x811000 x811001 x811002 ((rd_T43 x1 x8).f0) ((rd_T43 x1 x8).f1)).bind fun bt821 => (spec_RecRun.l0 k x0 x1 (x7 ++ [x811000]) (wrap64 (x8 + 1)) bt821.1 bt821.2.1 bt821.2.2.1)) else (none)) else (none)) else (if x7.length < 8796093022208 then ((spec_RecGo.f k x0 x811000 x811001 x811002 1001 false).bind fun bt829 => (spec_RecRun.l0 k x0 x1 (x7 ++ [x811000]) (wrap64 (x8 + 1)) bt829.1 bt829.2.1 bt829.2.2.1)) else (none))) else (some (x811000, x811001, x811002, x7))
end
def spec_RecRun.f (k : Nat) (l0 : List (S39)) (l1 : List (S43)) : Option (ByteArray × Int × Int × List ByteArray) := (spec_RecBegin.f k l0).bind fun bt807 => (spec_RecRun.l0 k l0 l1 (([] : List ByteArray)) 0 bt807.1 bt807.2.1 bt807.2.2)
theorem spec_RecRun.mono_l : ∀ k, (∀ y0 y1 y2 y3 y4 y5 y6, LeO (spec_RecRun.l0 k y0 y1 y2 y3 y4 y5 y6) (spec_RecRun.l0 (k + 1) y0 y1 y2 y3 y4 y5 y6)) ∧ (∀ y0 y1 y2 y3 y4 y5 y6 y7, LeO (spec_RecRun.j1 k y0 y1 y2 y3 y4 y5 y6 y7) (spec_RecRun.j1 (k + 1) y0 y1 y2 y3 y4 y5 y6 y7))
  | 0 => ⟨fun _ _ _ _ _ _ _ r h => by simp [spec_RecRun.l0] at h, fun _ _ _ _ _ _ _ _ r h => by simp [spec_RecRun.j1] at h⟩
  | k + 1 => by
    obtain ⟨ih0, ih1⟩ := spec_RecRun.mono_l k
    refine ⟨?_, ?_⟩
    · intro y0 y1 y2 y3 y4 y5 y6
      unfold spec_RecRun.l0
      repeat' first
      | (with_reducible exact ih0 _ _ _ _ _ _ _)
      | (with_reducible exact ih1 _ _ _ _ _ _ _ _)
      | (with_reducible exact spec_RecBegin.mono _ _)
      | (with_reducible exact spec_RecGo.mono _ _ _ _ _ _ _)
      | (with_reducible exact spec_RecOk.mono _ _)
      | (with_reducible exact spec_l2At.mono _ _ _)
      | (with_reducible exact LeO.refl _)
      | (with_reducible exact LeO.none _)
      | (with_reducible refine LeO.ite ?_ ?_)
      | (with_reducible refine LeO.bind ?_ (fun _ => ?_))
      | exact ih0 _ _ _ _ _ _ _
      | exact ih1 _ _ _ _ _ _ _ _
      | exact spec_RecBegin.mono _ _
      | exact spec_RecGo.mono _ _ _ _ _ _ _
      | exact spec_RecOk.mono _ _
      | exact spec_l2At.mono _ _ _
      | exact LeO.none _
      | refine LeO.ite ?_ ?_
      | refine LeO.bind ?_ (fun _ => ?_)
    · intro y0 y1 y2 y3 y4 y5 y6 y7
      unfold spec_RecRun.j1
      repeat' first
      | (with_reducible exact ih0 _ _ _ _ _ _ _)
      | (with_reducible exact ih1 _ _ _ _ _ _ _ _)
      | (with_reducible exact spec_RecBegin.mono _ _)
      | (with_reducible exact spec_RecGo.mono _ _ _ _ _ _ _)
      | (with_reducible exact spec_RecOk.mono _ _)
      | (with_reducible exact spec_l2At.mono _ _ _)
      | (with_reducible exact LeO.refl _)
      | (with_reducible exact LeO.none _)
      | (with_reducible refine LeO.ite ?_ ?_)
      | (with_reducible refine LeO.bind ?_ (fun _ => ?_))
      | exact ih0 _ _ _ _ _ _ _
      | exact ih1 _ _ _ _ _ _ _ _
      | exact spec_RecBegin.mono _ _
      | exact spec_RecGo.mono _ _ _ _ _ _ _
      | exact spec_RecOk.mono _ _
      | exact spec_l2At.mono _ _ _
      | exact LeO.none _
      | refine LeO.ite ?_ ?_
      | refine LeO.bind ?_ (fun _ => ?_)
theorem spec_RecRun.mono : ∀ a0 a1 k, LeO (spec_RecRun.f k a0 a1) (spec_RecRun.f (k + 1) a0 a1) := by
  intro a0 a1 k
  obtain ⟨ih0, ih1⟩ := spec_RecRun.mono_l k
  unfold spec_RecRun.f
  repeat' first
      | (with_reducible exact ih0 _ _ _ _ _ _ _)
      | (with_reducible exact ih1 _ _ _ _ _ _ _ _)
      | (with_reducible exact spec_RecBegin.mono _ _)
      | (with_reducible exact spec_RecGo.mono _ _ _ _ _ _ _)
      | (with_reducible exact spec_RecOk.mono _ _)
      | (with_reducible exact spec_l2At.mono _ _ _)
      | (with_reducible exact LeO.refl _)
      | (with_reducible exact LeO.none _)
      | (with_reducible refine LeO.ite ?_ ?_)
      | (with_reducible refine LeO.bind ?_ (fun _ => ?_))
      | exact ih0 _ _ _ _ _ _ _
      | exact ih1 _ _ _ _ _ _ _ _
      | exact spec_RecBegin.mono _ _
      | exact spec_RecGo.mono _ _ _ _ _ _ _
      | exact spec_RecOk.mono _ _
      | exact spec_l2At.mono _ _ _
      | exact LeO.none _
      | refine LeO.ite ?_ ?_
      | refine LeO.bind ?_ (fun _ => ?_)
set_option maxHeartbeats 8000000 in
set_option maxRecDepth 100000 in
theorem spec_RecRun.calls (k : Nat) (A0 : Option Addr) (c0 : Nat) (l0 : List (S39)) (A1 : Option Addr) (c1 : Nat) (l1 : List (S43)) (r1 : ByteArray) (r2 : Int) (r3 : Int) (r4 : List ByteArray) (w : World) (hr0 : Kd.C k39 w A0 l0.length l0) (hc0 : l0.length ≤ c0) (hr1 : Kd.C k43 w A1 l1.length l1) (hc1 : l1.length ≤ c1) (h : spec_RecRun.f k l0 l1 = some (r1, r2, r3, r4)) :
    Calls Try.prog 22 #[.slice A0 l0.length c0, .slice A1 l1.length c1] w fun e w' => ∃ v3_ : Value, e = .returned (.tuple #[.agg #[.string r1, .int .i64 r2, .int .i64 r3], v3_]) ∧ Kd.R Kd.string 9 w' w.heap.size (fun _ => True) v3_ r4 ∧ Below w.heap.size w w' := by
  have hu31 := Try.underlying31
  have hu43 := Try.underlying43
  have HR0 := Aside0.mk hr0
  have HC0 := Aside0.mk hc0
  clear hr0 hc0
  have HR1 := Aside0.mk hr1
  have HC1 := Aside0.mk hc1
  clear hr1 hc1
  have HB := Aside0.mk (Below.refl w.heap.size w)
  have H : ((spec_RecBegin.f k l0).bind fun bt807 => (spec_RecRun.l0 k l0 l1 (([] : List ByteArray)) 0 bt807.1 bt807.2.1 bt807.2.2)) = some (r1, r2, r3, r4) := h
  clear h
  replace H := Option.bind_eq_some_iff.mp H
  obtain ⟨⟨t807, t808, t809⟩, A30, H⟩ := H
  replace H : (spec_RecRun.l0 k l0 l1 (([] : List ByteArray)) 0 t807 t808 t809) = some (r1, r2, r3, r4) := H
  have A3 := Aside0.mk A30
  clear A30
  obtain ⟨y811, hy811⟩ : ∃ y_ : List ByteArray, y_ = (([] : List ByteArray)) := ⟨_, rfl⟩
  replace H : (spec_RecRun.l0 k l0 l1 y811 0 t807 t808 t809) = some (r1, r2, r3, r4) := by first | (rw [hy811]; with_reducible exact H) | (have H2_ := (Option.bind_some _ _).symm.trans H; rw [hy811]; with_reducible exact H2_) | (have H2_ := (Option.bind_some _ _).symm.trans H; with_reducible exact H2_) | with_reducible exact H | (rw [hy811]; exact H) | exact H
  have Ny811 := Aside0.mk hy811
  clear hy811
  have H' := Aside0.mk H
  clear H
  go_enter Try.func22, Try.ntmps22
  go_wp2_with (first | ((with_reducible refine gate_dst (N := 4) rfl ?_); refine box_event ?hg (N := 4) ?hd (cs := #[.string (⟨#[]⟩ : ByteArray), .int .i64 0, .int .i64 0]) (t := 31) ?hr ?_; (case hd => rfl); (case hg => rfl); (case hr => first | (go_simp; done) | (go_simp; rfl)); intro gb806 hg w4 hbox hb; have n0_ := bs HB hb; have n1_ := Aside0.mk (hbox); have n2_ := Aside0.mk ((by rw [hg]; exact (below_size (bw HB.out)) : w.heap.size ≤ gb806)); have n3_ := Aside0.mk ((by rw [hg]; exact (below_size (bw HB.out)) : w.heap.size ≤ gb806)); clear HB; have HB := n0_; have BK806 := n1_; have GW806 := n2_; have GE806 := n3_; clear n0_ n1_ n2_ n3_; clear hb hbox hg) | ((with_reducible refine gate_callee (f := 42) rfl ?_); refine goesL_ (some 13) rfl rfl Try.func42 (by kernel_rfl) rfl #[.slice A0 l0.length c0] rfl mxp ?_; (with_reducible refine (spec_RecBegin.calls k _ _ l0 t807 t808 t809 _ ?side1 ?side2 A3.out).mono ?_); (case side1 => exact cx (Kd.C_below HR0.out HB.out)); (case side2 => exact HC0.out); rintro e w5 ⟨rfl, hb⟩; refine ⟨_, rfl, ?_⟩; replace BK806 := up BK806 hb; replace HB := bs HB hb; (try clear hb); (try clear hb2); (try clear hk); (try clear hi)) | ((with_reducible refine gate_dst (N := 6) rfl ?_); refine box_event ?hg (N := 6) ?hd (cs := #[.string (⟨#[]⟩ : ByteArray), .int .i64 0, .int .i64 0]) (t := 31) ?hr ?_; (case hd => rfl); (case hg => rfl); (case hr => first | (go_simp; done) | (go_simp; rfl)); intro gb810 hg w6 hbox hb; have n0_ := up BK806 hb; have n1_ := bs HB hb; have n2_ := Aside0.mk (hbox); have n3_ := Aside0.mk ((by rw [hg]; exact (below_size (bw HB.out)) : w.heap.size ≤ gb810)); have n4_ := Aside0.mk ((by rw [hg]; exact (below_size (bw HB.out)) : w.heap.size ≤ gb810)); have n5_ := Aside0.mk ((by rw [hg]; exact Nat.ne_of_lt (blk_lt (g := gb806) (o := .cells #[.string (⟨#[]⟩ : ByteArray), .int .i64 0, .int .i64 0] 31 (0, 0)) (bx BK806.out)) : gb806 ≠ gb810)); have n6_ := Aside0.mk ((by rw [hg]; exact Nat.ne_of_gt (blk_lt (g := gb806) (o := .cells #[.string (⟨#[]⟩ : ByteArray), .int .i64 0, .int .i64 0] 31 (0, 0)) (bx BK806.out)) : gb810 ≠ gb806)); clear BK806; clear HB; have BK806 := n0_; have HB := n1_; have BK810 := n2_; have GW810 := n3_; have GE810 := n4_; have NB806_810 := n5_; have NB810_806 := n6_; clear n0_ n1_ n2_ n3_ n4_ n5_ n6_; clear hb hbox hg; have hnb7 := NB810_806.out; have hnc7 := NB806_810.out; have hcz8_0 := b0 BK810; have hcz8_1 := b1 BK810; have hcz8_2 := b2 BK810; have hfz8_0 := fz BK810 0; have hfz8_1 := fz BK810 1; have hfz8_2 := fz BK810 2) | ((with_reducible refine gate_dst (N := 14) rfl ?_); refine Kd.R_lit Kd.string _ 9 ?hg (N := 14) ?hd (xs := ([] : List ByteArray)) (inner := []) (ok := fun _ => True) (okp := fun _ => True) ?hr ?hp (fun _ hk => hk) trivial (Below.refl _ _) (Nat.le_refl _) (by simp) ?_; (case hd => rfl); (case hg => rfl); (case hr => first | (go_simp; done) | (go_simp; rfl)); (case hp => exact (Reps.none _ _)); intro v812 w9 ho10 hb hg_ hnew_; clear hg_ hnew_; (first | rw [← Ny811.out] at ho10 | (simp only [Int.reduceToNat] at ho10; rw [← Ny811.out] at ho10)); have n0_ := Aside0.mk (Kd.R_lower ho10 (below_size (bw HB.out))); have n1_ := Aside0.mk (blk_below (g := gb806) (o := .cells #[.string (⟨#[]⟩ : ByteArray), .int .i64 0, .int .i64 0] 31 (0, 0)) (by refine bx ?_; refine blk_far ?_ NB806_810.out _; refine bx ?_; refine blk_far ?_ NB806_810.out _; refine bx ?_; refine blk_far ?_ NB806_810.out _; refine bx ?_; exact BK806.out) hb); have n2_ := Aside0.mk (blk_below (g := gb810) (o := .cells #[.string t807, .int .i64 t808, .int .i64 t809] 31 (0, 0)) (by refine bx ?_; refine blk_put (cs := #[.string t807, .int .i64 t808, .int .i64 0]) ?_ 2 _ rfl; refine bx ?_; refine blk_put (cs := #[.string t807, .int .i64 0, .int .i64 0]) ?_ 1 _ rfl; refine bx ?_; refine blk_put (cs := #[.string (⟨#[]⟩ : ByteArray), .int .i64 0, .int .i64 0]) ?_ 0 _ rfl; refine bx ?_; exact BK810.out) hb); have n3_ := bs HB hb; clear BK806; clear BK810; clear HB; have HO813 := n0_; have BK806 := n1_; have BK810 := n2_; have HB := n3_; clear n0_ n1_ n2_ n3_; clear hb ho10))
  go_loopg [7, 8] k (fun kq v7 v8 w' => ∃ (x7_1 : List ByteArray) (x8_1 : Int) (x811000_1 : ByteArray) (x811001_1 : Int) (x811002_1 : Int), v8 = .int .i64 x8_1 ∧ Aside0 (spec_RecRun.l0 kq l0 l1 x7_1 x8_1 x811000_1 x811001_1 x811002_1 = some (r1, r2, r3, r4)) ∧ Aside0 (kq ≤ k) ∧ Aside0 (Kd.R Kd.string 9 w' w.heap.size (fun _ => True) v7 x7_1) ∧ Aside0 (w'.heap[gb806]? = some (.cells #[.string (⟨#[]⟩ : ByteArray), .int .i64 0, .int .i64 0] 31 (0, 0))) ∧ Aside0 (w'.heap[gb810]? = some (.cells #[.string x811000_1, .int .i64 x811001_1, .int .i64 x811002_1] 31 (0, 0))) ∧ Aside0 (Below w.heap.size w w'))
  case atStart => exact ⟨(y811), (0), (t807), (t808), (t809), (by first | rfl | (simp; done) | (simp [*]; done)), H', ⟨Nat.le_refl _⟩, ⟨by refine rx ?_; exact HO813.out⟩, (bk BK806), (bk BK810), (hbw HB)⟩
  case round =>
    clear H'
    try clear c1
    try clear c2
    try clear p2
    try clear c4
    try clear c7
    try clear hcz8_0
    try clear hcz8_1
    try clear hcz8_2
    try clear hfz8_0
    try clear hfz8_1
    try clear hfz8_2
    obtain ⟨x7_1, x8_1, x811000_1, x811001_1, x811002_1, rfl, HA, HK1, HO_7, BK806, BK810, HB⟩ := hrel
    cases gk with
    | zero => exact absurd HA.out (by simp [spec_RecRun.l0])
    | succ k1 =>
      have H := HA.out
      clear HA
      simp only [spec_RecRun.l0] at H
      have HC11 := Aside0.mk H
      clear H
      go_upto_region 4 with (fail)
      go_cut [23] (fun v23 wc => ∃ (kq : Nat) (x23_10 : Bool), v23 = .bool x23_10 ∧ Aside0 (spec_RecRun.j1 kq l0 l1 x7_1 x8_1 x23_10 x811000_1 x811001_1 x811002_1 = some (r1, r2, r3, r4)) ∧ Aside0 (kq ≤ k1) ∧ Aside0 (Kd.R Kd.string 9 wc w.heap.size (fun _ => True) u7 x7_1) ∧ Aside0 (wc.heap[gb806]? = some (.cells #[.string (⟨#[]⟩ : ByteArray), .int .i64 0, .int .i64 0] 31 (0, 0))) ∧ Aside0 (wc.heap[gb810]? = some (.cells #[.string x811000_1, .int .i64 x811001_1, .int .i64 x811002_1] 31 (0, 0))) ∧ Aside0 (Below w.heap.size w wc))
      case first =>
        have H := HC11.out
        clear HC11
        replace H := Option.bind_eq_some_iff.mp H
        obtain ⟨t814, A120, H⟩ := H
        replace H : (if t814 = true then ((spec_l2At.f k1 l0 x811000_1).bind fun t815 => (spec_RecRun.j1 k1 l0 l1 x7_1 x8_1 (decide (t815 ≥ 0)) x811000_1 x811001_1 x811002_1)) else (spec_RecRun.j1 k1 l0 l1 x7_1 x8_1 false x811000_1 x811001_1 x811002_1)) = some (r1, r2, r3, r4) := H
        have A12 := Aside0.mk A120
        clear A120
        by_cases c13 : t814 = true
        · subst c13
          have H1 : ((spec_l2At.f k1 l0 x811000_1).bind fun t815 => (spec_RecRun.j1 k1 l0 l1 x7_1 x8_1 (decide (t815 ≥ 0)) x811000_1 x811001_1 x811002_1)) = some (r1, r2, r3, r4) := by rw [if_pos rfl] at H; exact H
          clear H
          have H := H1
          clear H1
          replace H := Option.bind_eq_some_iff.mp H
          obtain ⟨t815, A140, H⟩ := H
          replace H : (spec_RecRun.j1 k1 l0 l1 x7_1 x8_1 (decide (t815 ≥ 0)) x811000_1 x811001_1 x811002_1) = some (r1, r2, r3, r4) := H
          have A14 := Aside0.mk A140
          clear A140
          have H' := Aside0.mk H
          clear H
          go_wp2_with (first | ((with_reducible refine gate_callee (f := 24) rfl ?_); refine goesL_ (some 16) rfl rfl Try.func24 (by kernel_rfl) rfl #[.slice A0 l0.length c0] rfl mxp ?_; (with_reducible refine (spec_RecOk.calls k1 _ _ l0 true _ ?side1 ?side2 A12.out).mono ?_); (case side1 => exact cx (Kd.C_below HR0.out HB.out)); (case side2 => exact HC0.out); rintro e w15 ⟨rfl, hb⟩; refine ⟨_, rfl, ?_⟩; have n0_ := Aside0.mk (Kd.R_below (rx HO_7.out) hb); have n1_ := up BK806 hb; have n2_ := up BK810 hb; have n3_ := bs HB hb; clear HO_7; clear BK806; clear BK810; clear HB; have HO_7 := n0_; have BK806 := n1_; have BK810 := n2_; have HB := n3_; clear n0_ n1_ n2_ n3_; (try clear hb); (try clear hb2); (try clear hk); (try clear hi); have hnb16 := NB810_806.out; have hnc16 := NB806_810.out; have hcz17_0 := b0 BK810; have hcz17_1 := b1 BK810; have hcz17_2 := b2 BK810; have hfz17_0 := fz BK810 0; have hfz17_1 := fz BK810 1; have hfz17_2 := fz BK810 2) | (go_at_call 66; (with_reducible refine (spec_l2At.calls k1 _ _ l0 x811000_1 t815 _ ?side1 ?side2 A14.out).mono ?_); (case side1 => exact cx (Kd.C_below HR0.out HB.out)); (case side2 => exact HC0.out); rintro e w' ⟨rfl, ⟨nd, rfl⟩⟩))
          go_meet
          case rel => exact ⟨_, (decide (t815 ≥ 0)), (by first | rfl | (simp; done) | (simp [*]; done)), H', ⟨by have := HK1.out; first | omega | exact Nat.le_refl _⟩, ⟨by refine rx ?_; exact HO_7.out⟩, (bk BK806), (bk BK810), (hbw HB)⟩
        · replace c13 := Bool.eq_false_iff.mpr c13
          subst c13
          have H1 : (spec_RecRun.j1 k1 l0 l1 x7_1 x8_1 false x811000_1 x811001_1 x811002_1) = some (r1, r2, r3, r4) := by rw [if_neg (show ¬ (false = true) by decide)] at H; exact H
          clear H
          have H := H1
          clear H1
          have H' := Aside0.mk H
          clear H
          go_wp2_with (first | ((with_reducible refine gate_callee (f := 24) rfl ?_); refine goesL_ (some 16) rfl rfl Try.func24 (by kernel_rfl) rfl #[.slice A0 l0.length c0] rfl mxp ?_; (with_reducible refine (spec_RecOk.calls k1 _ _ l0 false _ ?side1 ?side2 A12.out).mono ?_); (case side1 => exact cx (Kd.C_below HR0.out HB.out)); (case side2 => exact HC0.out); rintro e w18 ⟨rfl, hb⟩; refine ⟨_, rfl, ?_⟩; have n0_ := Aside0.mk (Kd.R_below (rx HO_7.out) hb); have n1_ := up BK806 hb; have n2_ := up BK810 hb; have n3_ := bs HB hb; clear HO_7; clear BK806; clear BK810; clear HB; have HO_7 := n0_; have BK806 := n1_; have BK810 := n2_; have HB := n3_; clear n0_ n1_ n2_ n3_; (try clear hb); (try clear hb2); (try clear hk); (try clear hi)))
          go_meet
          case rel => exact ⟨_, (false), (by first | rfl | (simp; done) | (simp [*]; done)), H', ⟨by have := HK1.out; first | omega | exact Nat.le_refl _⟩, ⟨by refine rx ?_; exact HO_7.out⟩, (bk BK806), (bk BK810), (hbw HB)⟩
      case rest =>
        clear HC11
        try clear c1
        try clear c2
        try clear p2
        try clear c4
        try clear c7
        try clear c13
        try clear c16
        try clear hcz17_0
        try clear hcz17_1
        try clear hcz17_2
        try clear hcz8_0
        try clear hcz8_1
        try clear hcz8_2
        try clear hfz17_0
        try clear hfz17_1
        try clear hfz17_2
        try clear hfz8_0
        try clear hfz8_1
        try clear hfz8_2
        try clear p2
        obtain ⟨kq, x23_10, rfl, HA, HJ10, HO_7, BK806, BK810, HB⟩ := hcut
        cases kq with
        | zero => exact absurd HA.out (by simp [spec_RecRun.j1])
        | succ kj10 =>
          have H := HA.out
          clear HA
          simp only [spec_RecRun.j1] at H
          by_cases c19 : x23_10 = true
          · subst c19
            have H1 : (if x8_1 < (l1.length : Int) then (if 0 ≤ x8_1 then (if x7_1.length < 8796093022208 then ((spec_RecGo.f kj10 l0 x811000_1 x811001_1 x811002_1 ((rd_T43 l1 x8_1).f0) ((rd_T43 l1 x8_1).f1)).bind fun bt821 => (spec_RecRun.l0 kj10 l0 l1 (x7_1 ++ [x811000_1]) (wrap64 (x8_1 + 1)) bt821.1 bt821.2.1 bt821.2.2.1)) else (none)) else (none)) else (if x7_1.length < 8796093022208 then ((spec_RecGo.f kj10 l0 x811000_1 x811001_1 x811002_1 1001 false).bind fun bt829 => (spec_RecRun.l0 kj10 l0 l1 (x7_1 ++ [x811000_1]) (wrap64 (x8_1 + 1)) bt829.1 bt829.2.1 bt829.2.2.1)) else (none))) = some (r1, r2, r3, r4) := by rw [if_pos rfl] at H; exact H
            clear H
            have H := H1
            clear H1
            by_cases c20 : x8_1 < (l1.length : Int)
            · rw [if_pos c20] at H
              have c20b0 : decide (x8_1 < (l1.length : Int)) = true := decide_eq_true c20
              clear c20
              by_cases c21 : 0 ≤ x8_1
              · rw [if_pos c21] at H
                have c21b0 : decide (0 ≤ x8_1) = true := decide_eq_true c21
                clear c21
                by_cases c22 : x7_1.length < 8796093022208
                · rw [if_pos c22] at H
                  have LMc22 := Aside0.mk c22
                  clear c22
                  obtain ⟨y818, hy818⟩ : ∃ y_ : List ByteArray, y_ = (x7_1 ++ [x811000_1]) := ⟨_, rfl⟩
                  replace H : ((spec_RecGo.f kj10 l0 x811000_1 x811001_1 x811002_1 ((rd_T43 l1 x8_1).f0) ((rd_T43 l1 x8_1).f1)).bind fun bt821 => (spec_RecRun.l0 kj10 l0 l1 y818 (wrap64 (x8_1 + 1)) bt821.1 bt821.2.1 bt821.2.2.1)) = some (r1, r2, r3, r4) := by first | (rw [hy818]; with_reducible exact H) | (have H2_ := (Option.bind_some _ _).symm.trans H; rw [hy818]; with_reducible exact H2_) | (have H2_ := (Option.bind_some _ _).symm.trans H; with_reducible exact H2_) | with_reducible exact H | (rw [hy818]; exact H) | exact H
                  have Ny818 := Aside0.mk hy818
                  clear hy818
                  replace H := Option.bind_eq_some_iff.mp H
                  obtain ⟨⟨t821, t822, t823, t824⟩, A230, H⟩ := H
                  replace H : (spec_RecRun.l0 kj10 l0 l1 y818 (wrap64 (x8_1 + 1)) t821 t822 t823) = some (r1, r2, r3, r4) := H
                  have A23 := Aside0.mk A230
                  clear A230
                  have H' := Aside0.mk H
                  clear H
                  go_wp2_with (first | ((with_reducible refine gate_dst (N := 9) rfl ?_); refine box_event ?hg (N := 9) ?hd (cs := #[.int .i64 0, .bool false]) (t := 43) ?hr ?_; (case hd => rfl); (case hg => rfl); (case hr => first | (go_simp; done) | (go_simp; rfl)); intro gb816 hg w24 hbox hb; have n0_ := Aside0.mk (Kd.R_below (rx HO_7.out) hb); have n1_ := up BK806 hb; have n2_ := up BK810 hb; have n3_ := bs HB hb; have n4_ := Aside0.mk (hbox); have n5_ := Aside0.mk ((by rw [hg]; exact (below_size (bw HB.out)) : w.heap.size ≤ gb816)); have n6_ := Aside0.mk ((by rw [hg]; exact (below_size (bw HB.out)) : w.heap.size ≤ gb816)); have n7_ := Aside0.mk ((by rw [hg]; exact Nat.ne_of_lt (blk_lt (g := gb806) (o := .cells #[.string (⟨#[]⟩ : ByteArray), .int .i64 0, .int .i64 0] 31 (0, 0)) (bx BK806.out)) : gb806 ≠ gb816)); have n8_ := Aside0.mk ((by rw [hg]; exact Nat.ne_of_gt (blk_lt (g := gb806) (o := .cells #[.string (⟨#[]⟩ : ByteArray), .int .i64 0, .int .i64 0] 31 (0, 0)) (bx BK806.out)) : gb816 ≠ gb806)); have n9_ := Aside0.mk ((by rw [hg]; exact Nat.ne_of_lt (blk_lt (g := gb810) (o := .cells #[.string x811000_1, .int .i64 x811001_1, .int .i64 x811002_1] 31 (0, 0)) (bx BK810.out)) : gb810 ≠ gb816)); have n10_ := Aside0.mk ((by rw [hg]; exact Nat.ne_of_gt (blk_lt (g := gb810) (o := .cells #[.string x811000_1, .int .i64 x811001_1, .int .i64 x811002_1] 31 (0, 0)) (bx BK810.out)) : gb816 ≠ gb810)); clear HO_7; clear BK806; clear BK810; clear HB; have HO_7 := n0_; have BK806 := n1_; have BK810 := n2_; have HB := n3_; have BK816 := n4_; have GW816 := n5_; have GE816 := n6_; have NB806_816 := n7_; have NB816_806 := n8_; have NB810_816 := n9_; have NB816_810 := n10_; clear n0_ n1_ n2_ n3_ n4_ n5_ n6_ n7_ n8_ n9_ n10_; clear hb hbox hg; have hnb25 := NB816_806.out; have hnc25 := NB806_816.out; have hnb26 := NB816_810.out; have hnc26 := NB810_816.out; have hcz27_0 := b0 BK816; have hcz27_1 := b1 BK816; have hfz27_0 := fz BK816 0; have hfz27_1 := fz BK816 1; have p817 : 0 ≤ (x8_1 : Int) := of_decide_eq_true (by first | (with_reducible assumption) | assumption); have q817 : x8_1 < (l1.length : Int) := of_decide_eq_true (by first | (with_reducible assumption) | assumption); obtain ⟨ad817, e817, hx817_0, hx817_1⟩ := at_T43 HR1.out x8_1 p817 q817; cases e817; have hn817_0 : ad817.block ≠ gb816 := Nat.ne_of_lt (Nat.lt_of_lt_of_le (by have := World.block_lt_of_cell? _ _ hx817_0; first | rwa [add_block] at this | exact this) GW816.out); have hn817_1 : ad817.block ≠ gb816 := Nat.ne_of_lt (Nat.lt_of_lt_of_le (by have := World.block_lt_of_cell? _ _ hx817_0; first | rwa [add_block] at this | exact this) GW816.out); replace hx817_0 := bcl HB hx817_0; replace hx817_1 := bcl HB hx817_1; replace hx817_0 := (cell_far (p := ⟨gb816, 0, none⟩) (by first | (rw [add_block]; exact hn817_0) | (show (Addr.add _ _).block ≠ _; rw [add_block]; exact hn817_0) | exact hn817_0) (.int .i64 1001)).trans hx817_0; replace hx817_1 := (cell_far (p := ⟨gb816, 0, none⟩) (by first | (rw [add_block]; exact hn817_0) | (show (Addr.add _ _).block ≠ _; rw [add_block]; exact hn817_0) | exact hn817_0) (.int .i64 1001)).trans hx817_1; replace hx817_0 := (cell_far (p := ⟨gb816, 1, none⟩) (by first | (rw [add_block]; exact hn817_1) | (show (Addr.add _ _).block ≠ _; rw [add_block]; exact hn817_1) | exact hn817_1) (.bool false)).trans hx817_0; replace hx817_1 := (cell_far (p := ⟨gb816, 1, none⟩) (by first | (rw [add_block]; exact hn817_1) | (show (Addr.add _ _).block ≠ _; rw [add_block]; exact hn817_1) | exact hn817_1) (.bool false)).trans hx817_1; clear hn817_0; clear hn817_1; replace p817 := eq_true p817; replace q817 := eq_true q817; have hnb28 := NB810_806.out; have hnc28 := NB806_810.out; have hcz29_0 := b0 BK810; have hcz29_1 := b1 BK810; have hcz29_2 := b2 BK810; have hfz29_0 := fz BK810 0; have hfz29_1 := fz BK810 1; have hfz29_2 := fz BK810 2) | ((with_reducible refine gate_builtin (b := .append) (xs := #[.tmp 35, .tmp 38]) rfl ?_); at_builtin; refine Kd.R_append Kd.string (w0 := w) w.heap.size rfl (.tmp 35) (.tmp 38) 32 9 (.string ⟨#[]⟩) 16 rfl Try.underlying32 info9 rfl (by decide) (by omega) u7 x7_1 x811000_1 [.string x811000_1] (fun _ => True) (fun _ => False) rfl (by first | (go_simp; done) | (go_simp; rfl)) ?aP (fun _ hk => hk.elim) ?aF ?aO ?aB ?aS ?aL ?_; (case aP => exact rfl); (case aB => exact (bw HB.out)); (case aF => exact (fun _ _ => trivial)); (case aO => exact (by refine rx ?_; exact Kd.R_mono (Kd.R_far (p := ⟨gb816, 1, none⟩) (Kd.R_far (p := ⟨gb816, 0, none⟩) (Kd.R_far (p := ⟨gb816, 1, none⟩) (Kd.R_far (p := ⟨gb816, 0, none⟩) (Kd.R_types HO_7.out BK816.out (by decide)) (fun _ hk => hk.2) (.int .i64 1001)) (fun _ hk => hk.2) (.bool false)) (fun _ hk => hk.2) (.int .i64 ((rd_T43 l1 x8_1).f0))) (fun _ hk => hk.2) (.bool ((rd_T43 l1 x8_1).f1))) (fun _ hk => trivial))); (case aS => exact (below_size (bw HB.out))); (case aL => have := LMc22.out; omega); intro v819 w30 ho hb hg hat; rw [← Ny818.out] at ho; have n0_ := Aside0.mk (blk_grown (g := gb806) (o := .cells #[.string (⟨#[]⟩ : ByteArray), .int .i64 0, .int .i64 0] 31 (0, 0)) (by refine bx ?_; refine blk_far ?_ NB806_816.out _; refine bx ?_; refine blk_far ?_ NB806_816.out _; refine bx ?_; refine blk_far ?_ NB806_816.out _; refine bx ?_; refine blk_far ?_ NB806_816.out _; refine bx ?_; exact BK806.out) hg (Kd.R_ne HO_7.out BK806.out (by decide))); have n1_ := Aside0.mk (blk_grown (g := gb810) (o := .cells #[.string x811000_1, .int .i64 x811001_1, .int .i64 x811002_1] 31 (0, 0)) (by refine bx ?_; refine blk_far ?_ NB810_816.out _; refine bx ?_; refine blk_far ?_ NB810_816.out _; refine bx ?_; refine blk_far ?_ NB810_816.out _; refine bx ?_; refine blk_far ?_ NB810_816.out _; refine bx ?_; exact BK810.out) hg (Kd.R_ne HO_7.out BK810.out (by decide))); have n2_ := Aside0.mk (blk_grown (g := gb816) (o := .cells #[.int .i64 ((rd_T43 l1 x8_1).f0), .bool ((rd_T43 l1 x8_1).f1)] 43 (0, 0)) (by refine bx ?_; refine blk_put (cs := #[.int .i64 ((rd_T43 l1 x8_1).f0), .bool false]) ?_ 1 _ rfl; refine bx ?_; refine blk_put (cs := #[.int .i64 1001, .bool false]) ?_ 0 _ rfl; refine bx ?_; refine blk_put (cs := #[.int .i64 1001, .bool false]) ?_ 1 _ rfl; refine bx ?_; refine blk_put (cs := #[.int .i64 0, .bool false]) ?_ 0 _ rfl; refine bx ?_; exact BK816.out) hg (Kd.R_ne HO_7.out BK816.out (by decide))); have n3_ := Aside0.mk (hb); have n4_ := Aside0.mk (ho); clear BK806; clear BK810; clear BK816; clear HB; clear HO_7; have BK806 := n0_; have BK810 := n1_; have BK816 := n2_; have HB := n3_; have HO820 := n4_; clear n0_ n1_ n2_ n3_ n4_; clear ho hb hg hat; have hcz31_0 := b0 BK810; have hcz31_1 := b1 BK810; have hcz31_2 := b2 BK810; have hfz31_0 := fz BK810 0; have hfz31_1 := fz BK810 1; have hfz31_2 := fz BK810 2; have hcz32_0 := b0 BK816; have hcz32_1 := b1 BK816; have hfz32_0 := fz BK816 0; have hfz32_1 := fz BK816 1) | ((with_reducible refine gate_callee (f := 47) rfl ?_); refine goesL_ (some 44) rfl rfl Try.func47 (by kernel_rfl) rfl #[.slice A0 l0.length c0, .agg #[.string x811000_1, .int .i64 x811001_1, .int .i64 x811002_1], .agg #[.int .i64 ((rd_T43 l1 x8_1).f0), .bool ((rd_T43 l1 x8_1).f1)]] rfl mxp ?_; (with_reducible refine (spec_RecGo.calls kj10 _ _ l0 x811000_1 x811001_1 x811002_1 ((rd_T43 l1 x8_1).f0) ((rd_T43 l1 x8_1).f1) t821 t822 t823 t824 _ ?side1 ?side2 A23.out).mono ?_); (case side1 => exact cx (Kd.C_below HR0.out HB.out)); (case side2 => exact HC0.out); rintro e w33 ⟨rfl, hb⟩; refine ⟨_, rfl, ?_⟩; have n0_ := Aside0.mk (Kd.R_below (rx HO820.out) hb); have n1_ := up BK806 hb; have n2_ := up BK810 hb; have n3_ := up BK816 hb; have n4_ := bs HB hb; clear HO820; clear BK806; clear BK810; clear BK816; clear HB; have HO820 := n0_; have BK806 := n1_; have BK810 := n2_; have BK816 := n3_; have HB := n4_; clear n0_ n1_ n2_ n3_ n4_; (try clear hb); (try clear hb2); (try clear hk); (try clear hi)) | ((with_reducible refine gate_dst (N := 10) rfl ?_); refine box_event ?hg (N := 10) ?hd (cs := #[.string (⟨#[]⟩ : ByteArray), .int .i64 0, .int .i64 0]) (t := 31) ?hr ?_; (case hd => rfl); (case hg => rfl); (case hr => first | (go_simp; done) | (go_simp; rfl)); intro gb825 hg w34 hbox hb; have n0_ := Aside0.mk (Kd.R_below (rx HO820.out) hb); have n1_ := up BK806 hb; have n2_ := up BK810 hb; have n3_ := up BK816 hb; have n4_ := bs HB hb; have n5_ := Aside0.mk (hbox); have n6_ := Aside0.mk ((by rw [hg]; exact (below_size (bw HB.out)) : w.heap.size ≤ gb825)); have n7_ := Aside0.mk ((by rw [hg]; exact (below_size (bw HB.out)) : w.heap.size ≤ gb825)); have n8_ := Aside0.mk ((by rw [hg]; exact Nat.ne_of_lt (blk_lt (g := gb806) (o := .cells #[.string (⟨#[]⟩ : ByteArray), .int .i64 0, .int .i64 0] 31 (0, 0)) (bx BK806.out)) : gb806 ≠ gb825)); have n9_ := Aside0.mk ((by rw [hg]; exact Nat.ne_of_gt (blk_lt (g := gb806) (o := .cells #[.string (⟨#[]⟩ : ByteArray), .int .i64 0, .int .i64 0] 31 (0, 0)) (bx BK806.out)) : gb825 ≠ gb806)); have n10_ := Aside0.mk ((by rw [hg]; exact Nat.ne_of_lt (blk_lt (g := gb810) (o := .cells #[.string x811000_1, .int .i64 x811001_1, .int .i64 x811002_1] 31 (0, 0)) (bx BK810.out)) : gb810 ≠ gb825)); have n11_ := Aside0.mk ((by rw [hg]; exact Nat.ne_of_gt (blk_lt (g := gb810) (o := .cells #[.string x811000_1, .int .i64 x811001_1, .int .i64 x811002_1] 31 (0, 0)) (bx BK810.out)) : gb825 ≠ gb810)); have n12_ := Aside0.mk ((by rw [hg]; exact Nat.ne_of_lt (blk_lt (g := gb816) (o := .cells #[.int .i64 ((rd_T43 l1 x8_1).f0), .bool ((rd_T43 l1 x8_1).f1)] 43 (0, 0)) (bx BK816.out)) : gb816 ≠ gb825)); have n13_ := Aside0.mk ((by rw [hg]; exact Nat.ne_of_gt (blk_lt (g := gb816) (o := .cells #[.int .i64 ((rd_T43 l1 x8_1).f0), .bool ((rd_T43 l1 x8_1).f1)] 43 (0, 0)) (bx BK816.out)) : gb825 ≠ gb816)); clear HO820; clear BK806; clear BK810; clear BK816; clear HB; have HO820 := n0_; have BK806 := n1_; have BK810 := n2_; have BK816 := n3_; have HB := n4_; have BK825 := n5_; have GW825 := n6_; have GE825 := n7_; have NB806_825 := n8_; have NB825_806 := n9_; have NB810_825 := n10_; have NB825_810 := n11_; have NB816_825 := n12_; have NB825_816 := n13_; clear n0_ n1_ n2_ n3_ n4_ n5_ n6_ n7_ n8_ n9_ n10_ n11_ n12_ n13_; clear hb hbox hg; have hnb35 := NB825_806.out; have hnc35 := NB806_825.out; have hnb36 := NB825_810.out; have hnc36 := NB810_825.out; have hnb37 := NB825_816.out; have hnc37 := NB816_825.out; have hcz38_0 := b0 BK825; have hcz38_1 := b1 BK825; have hcz38_2 := b2 BK825; have hfz38_0 := fz BK825 0; have hfz38_1 := fz BK825 1; have hfz38_2 := fz BK825 2; have hcz39_0 := b0 BK810; have hcz39_1 := b1 BK810; have hcz39_2 := b2 BK810; have hfz39_0 := fz BK810 0; have hfz39_1 := fz BK810 1; have hfz39_2 := fz BK810 2))
                  go_roundg kj10
                  case measure => have := HK1.out; have := HJ10.out; omega
                  case rel => exact ⟨(y818), (wrap64 (x8_1 + 1)), (t821), (t822), (t823), (by first | rfl | (simp; done) | (simp [*]; done)), H', ⟨by have := HK1.out; have := HJ10.out; omega⟩, ⟨by refine rx ?_; exact Kd.R_mono (Kd.R_far (p := ⟨gb810, 2, none⟩) (Kd.R_far (p := ⟨gb810, 1, none⟩) (Kd.R_far (p := ⟨gb810, 0, none⟩) (Kd.R_far (p := ⟨gb825, 2, none⟩) (Kd.R_far (p := ⟨gb825, 1, none⟩) (Kd.R_far (p := ⟨gb825, 0, none⟩) (Kd.R_types (Kd.R_types HO820.out BK825.out (by decide)) BK810.out (by decide)) (fun _ hk => hk.1.2) (.string t821)) (fun _ hk => hk.1.2) (.int .i64 t822)) (fun _ hk => hk.1.2) (.int .i64 t823)) (fun _ hk => hk.2) (.string t821)) (fun _ hk => hk.2) (.int .i64 t822)) (fun _ hk => hk.2) (.int .i64 t823)) (fun _ hk => trivial)⟩, ⟨by refine bx ?_; refine blk_far ?_ NB806_810.out _; refine bx ?_; refine blk_far ?_ NB806_810.out _; refine bx ?_; refine blk_far ?_ NB806_810.out _; refine bx ?_; refine blk_far ?_ NB806_825.out _; refine bx ?_; refine blk_far ?_ NB806_825.out _; refine bx ?_; refine blk_far ?_ NB806_825.out _; refine bx ?_; exact BK806.out⟩, ⟨by refine bx ?_; refine blk_put (cs := #[.string t821, .int .i64 t822, .int .i64 x811002_1]) ?_ 2 _ rfl; refine bx ?_; refine blk_put (cs := #[.string t821, .int .i64 x811001_1, .int .i64 x811002_1]) ?_ 1 _ rfl; refine bx ?_; refine blk_put (cs := #[.string x811000_1, .int .i64 x811001_1, .int .i64 x811002_1]) ?_ 0 _ rfl; refine bx ?_; refine blk_far ?_ NB810_825.out _; refine bx ?_; refine blk_far ?_ NB810_825.out _; refine bx ?_; refine blk_far ?_ NB810_825.out _; refine bx ?_; exact BK810.out⟩, (hbw HB)⟩
                · rw [if_neg c22] at H
                  exact absurd H (by simp)
              · rw [if_neg c21] at H
                exact absurd H (by simp)
            · rw [if_neg c20] at H
              have c20b0 : decide (x8_1 < (l1.length : Int)) = false := decide_eq_false c20
              clear c20
              by_cases c40 : x7_1.length < 8796093022208
              · rw [if_pos c40] at H
                have LMc40 := Aside0.mk c40
                clear c40
                obtain ⟨y826, hy826⟩ : ∃ y_ : List ByteArray, y_ = (x7_1 ++ [x811000_1]) := ⟨_, rfl⟩
                replace H : ((spec_RecGo.f kj10 l0 x811000_1 x811001_1 x811002_1 1001 false).bind fun bt829 => (spec_RecRun.l0 kj10 l0 l1 y826 (wrap64 (x8_1 + 1)) bt829.1 bt829.2.1 bt829.2.2.1)) = some (r1, r2, r3, r4) := by first | (rw [hy826]; with_reducible exact H) | (have H2_ := (Option.bind_some _ _).symm.trans H; rw [hy826]; with_reducible exact H2_) | (have H2_ := (Option.bind_some _ _).symm.trans H; with_reducible exact H2_) | with_reducible exact H | (rw [hy826]; exact H) | exact H
                have Ny826 := Aside0.mk hy826
                clear hy826
                replace H := Option.bind_eq_some_iff.mp H
                obtain ⟨⟨t829, t830, t831, t832⟩, A410, H⟩ := H
                replace H : (spec_RecRun.l0 kj10 l0 l1 y826 (wrap64 (x8_1 + 1)) t829 t830 t831) = some (r1, r2, r3, r4) := H
                have A41 := Aside0.mk A410
                clear A410
                have H' := Aside0.mk H
                clear H
                go_wp2_with (first | ((with_reducible refine gate_dst (N := 9) rfl ?_); refine box_event ?hg (N := 9) ?hd (cs := #[.int .i64 0, .bool false]) (t := 43) ?hr ?_; (case hd => rfl); (case hg => rfl); (case hr => first | (go_simp; done) | (go_simp; rfl)); intro gb816 hg w42 hbox hb; have n0_ := Aside0.mk (Kd.R_below (rx HO_7.out) hb); have n1_ := up BK806 hb; have n2_ := up BK810 hb; have n3_ := bs HB hb; have n4_ := Aside0.mk (hbox); have n5_ := Aside0.mk ((by rw [hg]; exact (below_size (bw HB.out)) : w.heap.size ≤ gb816)); have n6_ := Aside0.mk ((by rw [hg]; exact (below_size (bw HB.out)) : w.heap.size ≤ gb816)); have n7_ := Aside0.mk ((by rw [hg]; exact Nat.ne_of_lt (blk_lt (g := gb806) (o := .cells #[.string (⟨#[]⟩ : ByteArray), .int .i64 0, .int .i64 0] 31 (0, 0)) (bx BK806.out)) : gb806 ≠ gb816)); have n8_ := Aside0.mk ((by rw [hg]; exact Nat.ne_of_gt (blk_lt (g := gb806) (o := .cells #[.string (⟨#[]⟩ : ByteArray), .int .i64 0, .int .i64 0] 31 (0, 0)) (bx BK806.out)) : gb816 ≠ gb806)); have n9_ := Aside0.mk ((by rw [hg]; exact Nat.ne_of_lt (blk_lt (g := gb810) (o := .cells #[.string x811000_1, .int .i64 x811001_1, .int .i64 x811002_1] 31 (0, 0)) (bx BK810.out)) : gb810 ≠ gb816)); have n10_ := Aside0.mk ((by rw [hg]; exact Nat.ne_of_gt (blk_lt (g := gb810) (o := .cells #[.string x811000_1, .int .i64 x811001_1, .int .i64 x811002_1] 31 (0, 0)) (bx BK810.out)) : gb816 ≠ gb810)); clear HO_7; clear BK806; clear BK810; clear HB; have HO_7 := n0_; have BK806 := n1_; have BK810 := n2_; have HB := n3_; have BK816 := n4_; have GW816 := n5_; have GE816 := n6_; have NB806_816 := n7_; have NB816_806 := n8_; have NB810_816 := n9_; have NB816_810 := n10_; clear n0_ n1_ n2_ n3_ n4_ n5_ n6_ n7_ n8_ n9_ n10_; clear hb hbox hg; have hnb43 := NB816_806.out; have hnc43 := NB806_816.out; have hnb44 := NB816_810.out; have hnc44 := NB810_816.out; have hcz45_0 := b0 BK816; have hcz45_1 := b1 BK816; have hfz45_0 := fz BK816 0; have hfz45_1 := fz BK816 1; have hnb46 := NB810_806.out; have hnc46 := NB806_810.out; have hcz47_0 := b0 BK810; have hcz47_1 := b1 BK810; have hcz47_2 := b2 BK810; have hfz47_0 := fz BK810 0; have hfz47_1 := fz BK810 1; have hfz47_2 := fz BK810 2) | ((with_reducible refine gate_builtin (b := .append) (xs := #[.tmp 35, .tmp 38]) rfl ?_); at_builtin; refine Kd.R_append Kd.string (w0 := w) w.heap.size rfl (.tmp 35) (.tmp 38) 32 9 (.string ⟨#[]⟩) 16 rfl Try.underlying32 info9 rfl (by decide) (by omega) u7 x7_1 x811000_1 [.string x811000_1] (fun _ => True) (fun _ => False) rfl (by first | (go_simp; done) | (go_simp; rfl)) ?aP (fun _ hk => hk.elim) ?aF ?aO ?aB ?aS ?aL ?_; (case aP => exact rfl); (case aB => exact (bw HB.out)); (case aF => exact (fun _ _ => trivial)); (case aO => exact (by refine rx ?_; exact Kd.R_mono (Kd.R_far (p := ⟨gb816, 1, none⟩) (Kd.R_far (p := ⟨gb816, 0, none⟩) (Kd.R_types HO_7.out BK816.out (by decide)) (fun _ hk => hk.2) (.int .i64 1001)) (fun _ hk => hk.2) (.bool false)) (fun _ hk => trivial))); (case aS => exact (below_size (bw HB.out))); (case aL => have := LMc40.out; omega); intro v827 w48 ho hb hg hat; rw [← Ny826.out] at ho; have n0_ := Aside0.mk (blk_grown (g := gb806) (o := .cells #[.string (⟨#[]⟩ : ByteArray), .int .i64 0, .int .i64 0] 31 (0, 0)) (by refine bx ?_; refine blk_far ?_ NB806_816.out _; refine bx ?_; refine blk_far ?_ NB806_816.out _; refine bx ?_; exact BK806.out) hg (Kd.R_ne HO_7.out BK806.out (by decide))); have n1_ := Aside0.mk (blk_grown (g := gb810) (o := .cells #[.string x811000_1, .int .i64 x811001_1, .int .i64 x811002_1] 31 (0, 0)) (by refine bx ?_; refine blk_far ?_ NB810_816.out _; refine bx ?_; refine blk_far ?_ NB810_816.out _; refine bx ?_; exact BK810.out) hg (Kd.R_ne HO_7.out BK810.out (by decide))); have n2_ := Aside0.mk (blk_grown (g := gb816) (o := .cells #[.int .i64 1001, .bool false] 43 (0, 0)) (by refine bx ?_; refine blk_put (cs := #[.int .i64 1001, .bool false]) ?_ 1 _ rfl; refine bx ?_; refine blk_put (cs := #[.int .i64 0, .bool false]) ?_ 0 _ rfl; refine bx ?_; exact BK816.out) hg (Kd.R_ne HO_7.out BK816.out (by decide))); have n3_ := Aside0.mk (hb); have n4_ := Aside0.mk (ho); clear BK806; clear BK810; clear BK816; clear HB; clear HO_7; have BK806 := n0_; have BK810 := n1_; have BK816 := n2_; have HB := n3_; have HO828 := n4_; clear n0_ n1_ n2_ n3_ n4_; clear ho hb hg hat; have hcz49_0 := b0 BK810; have hcz49_1 := b1 BK810; have hcz49_2 := b2 BK810; have hfz49_0 := fz BK810 0; have hfz49_1 := fz BK810 1; have hfz49_2 := fz BK810 2; have hcz50_0 := b0 BK816; have hcz50_1 := b1 BK816; have hfz50_0 := fz BK816 0; have hfz50_1 := fz BK816 1) | ((with_reducible refine gate_callee (f := 47) rfl ?_); refine goesL_ (some 44) rfl rfl Try.func47 (by kernel_rfl) rfl #[.slice A0 l0.length c0, .agg #[.string x811000_1, .int .i64 x811001_1, .int .i64 x811002_1], .agg #[.int .i64 1001, .bool false]] rfl mxp ?_; (with_reducible refine (spec_RecGo.calls kj10 _ _ l0 x811000_1 x811001_1 x811002_1 1001 false t829 t830 t831 t832 _ ?side1 ?side2 A41.out).mono ?_); (case side1 => exact cx (Kd.C_below HR0.out HB.out)); (case side2 => exact HC0.out); rintro e w51 ⟨rfl, hb⟩; refine ⟨_, rfl, ?_⟩; have n0_ := Aside0.mk (Kd.R_below (rx HO828.out) hb); have n1_ := up BK806 hb; have n2_ := up BK810 hb; have n3_ := up BK816 hb; have n4_ := bs HB hb; clear HO828; clear BK806; clear BK810; clear BK816; clear HB; have HO828 := n0_; have BK806 := n1_; have BK810 := n2_; have BK816 := n3_; have HB := n4_; clear n0_ n1_ n2_ n3_ n4_; (try clear hb); (try clear hb2); (try clear hk); (try clear hi)) | ((with_reducible refine gate_dst (N := 10) rfl ?_); refine box_event ?hg (N := 10) ?hd (cs := #[.string (⟨#[]⟩ : ByteArray), .int .i64 0, .int .i64 0]) (t := 31) ?hr ?_; (case hd => rfl); (case hg => rfl); (case hr => first | (go_simp; done) | (go_simp; rfl)); intro gb833 hg w52 hbox hb; have n0_ := Aside0.mk (Kd.R_below (rx HO828.out) hb); have n1_ := up BK806 hb; have n2_ := up BK810 hb; have n3_ := up BK816 hb; have n4_ := bs HB hb; have n5_ := Aside0.mk (hbox); have n6_ := Aside0.mk ((by rw [hg]; exact (below_size (bw HB.out)) : w.heap.size ≤ gb833)); have n7_ := Aside0.mk ((by rw [hg]; exact (below_size (bw HB.out)) : w.heap.size ≤ gb833)); have n8_ := Aside0.mk ((by rw [hg]; exact Nat.ne_of_lt (blk_lt (g := gb806) (o := .cells #[.string (⟨#[]⟩ : ByteArray), .int .i64 0, .int .i64 0] 31 (0, 0)) (bx BK806.out)) : gb806 ≠ gb833)); have n9_ := Aside0.mk ((by rw [hg]; exact Nat.ne_of_gt (blk_lt (g := gb806) (o := .cells #[.string (⟨#[]⟩ : ByteArray), .int .i64 0, .int .i64 0] 31 (0, 0)) (bx BK806.out)) : gb833 ≠ gb806)); have n10_ := Aside0.mk ((by rw [hg]; exact Nat.ne_of_lt (blk_lt (g := gb810) (o := .cells #[.string x811000_1, .int .i64 x811001_1, .int .i64 x811002_1] 31 (0, 0)) (bx BK810.out)) : gb810 ≠ gb833)); have n11_ := Aside0.mk ((by rw [hg]; exact Nat.ne_of_gt (blk_lt (g := gb810) (o := .cells #[.string x811000_1, .int .i64 x811001_1, .int .i64 x811002_1] 31 (0, 0)) (bx BK810.out)) : gb833 ≠ gb810)); have n12_ := Aside0.mk ((by rw [hg]; exact Nat.ne_of_lt (blk_lt (g := gb816) (o := .cells #[.int .i64 1001, .bool false] 43 (0, 0)) (bx BK816.out)) : gb816 ≠ gb833)); have n13_ := Aside0.mk ((by rw [hg]; exact Nat.ne_of_gt (blk_lt (g := gb816) (o := .cells #[.int .i64 1001, .bool false] 43 (0, 0)) (bx BK816.out)) : gb833 ≠ gb816)); clear HO828; clear BK806; clear BK810; clear BK816; clear HB; have HO828 := n0_; have BK806 := n1_; have BK810 := n2_; have BK816 := n3_; have HB := n4_; have BK833 := n5_; have GW833 := n6_; have GE833 := n7_; have NB806_833 := n8_; have NB833_806 := n9_; have NB810_833 := n10_; have NB833_810 := n11_; have NB816_833 := n12_; have NB833_816 := n13_; clear n0_ n1_ n2_ n3_ n4_ n5_ n6_ n7_ n8_ n9_ n10_ n11_ n12_ n13_; clear hb hbox hg; have hnb53 := NB833_806.out; have hnc53 := NB806_833.out; have hnb54 := NB833_810.out; have hnc54 := NB810_833.out; have hnb55 := NB833_816.out; have hnc55 := NB816_833.out; have hcz56_0 := b0 BK833; have hcz56_1 := b1 BK833; have hcz56_2 := b2 BK833; have hfz56_0 := fz BK833 0; have hfz56_1 := fz BK833 1; have hfz56_2 := fz BK833 2; have hcz57_0 := b0 BK810; have hcz57_1 := b1 BK810; have hcz57_2 := b2 BK810; have hfz57_0 := fz BK810 0; have hfz57_1 := fz BK810 1; have hfz57_2 := fz BK810 2))
                go_roundg kj10
                case measure => have := HK1.out; have := HJ10.out; omega
                case rel => exact ⟨(y826), (wrap64 (x8_1 + 1)), (t829), (t830), (t831), (by first | rfl | (simp; done) | (simp [*]; done)), H', ⟨by have := HK1.out; have := HJ10.out; omega⟩, ⟨by refine rx ?_; exact Kd.R_mono (Kd.R_far (p := ⟨gb810, 2, none⟩) (Kd.R_far (p := ⟨gb810, 1, none⟩) (Kd.R_far (p := ⟨gb810, 0, none⟩) (Kd.R_far (p := ⟨gb833, 2, none⟩) (Kd.R_far (p := ⟨gb833, 1, none⟩) (Kd.R_far (p := ⟨gb833, 0, none⟩) (Kd.R_types (Kd.R_types HO828.out BK833.out (by decide)) BK810.out (by decide)) (fun _ hk => hk.1.2) (.string t829)) (fun _ hk => hk.1.2) (.int .i64 t830)) (fun _ hk => hk.1.2) (.int .i64 t831)) (fun _ hk => hk.2) (.string t829)) (fun _ hk => hk.2) (.int .i64 t830)) (fun _ hk => hk.2) (.int .i64 t831)) (fun _ hk => trivial)⟩, ⟨by refine bx ?_; refine blk_far ?_ NB806_810.out _; refine bx ?_; refine blk_far ?_ NB806_810.out _; refine bx ?_; refine blk_far ?_ NB806_810.out _; refine bx ?_; refine blk_far ?_ NB806_833.out _; refine bx ?_; refine blk_far ?_ NB806_833.out _; refine bx ?_; refine blk_far ?_ NB806_833.out _; refine bx ?_; exact BK806.out⟩, ⟨by refine bx ?_; refine blk_put (cs := #[.string t829, .int .i64 t830, .int .i64 x811002_1]) ?_ 2 _ rfl; refine bx ?_; refine blk_put (cs := #[.string t829, .int .i64 x811001_1, .int .i64 x811002_1]) ?_ 1 _ rfl; refine bx ?_; refine blk_put (cs := #[.string x811000_1, .int .i64 x811001_1, .int .i64 x811002_1]) ?_ 0 _ rfl; refine bx ?_; refine blk_far ?_ NB810_833.out _; refine bx ?_; refine blk_far ?_ NB810_833.out _; refine bx ?_; refine blk_far ?_ NB810_833.out _; refine bx ?_; exact BK810.out⟩, (hbw HB)⟩
              · rw [if_neg c40] at H
                exact absurd H (by simp)
          · replace c19 := Bool.eq_false_iff.mpr c19
            subst c19
            have H1 : (some (x811000_1, x811001_1, x811002_1, x7_1)) = some (r1, r2, r3, r4) := by rw [if_neg (show ¬ (false = true) by decide)] at H; exact H
            clear H
            have H := H1
            clear H1
            simp only [Option.some.injEq, Prod.mk.injEq] at H
            obtain ⟨rfl, rfl, rfl, rfl⟩ := H
            have hnb58 := NB810_806.out
            have hnc58 := NB806_810.out
            have hcz59_0 := b0 BK810
            have hcz59_1 := b1 BK810
            have hcz59_2 := b2 BK810
            have hfz59_0 := fz BK810 0
            have hfz59_1 := fz BK810 1
            have hfz59_2 := fz BK810 2
            have hcz60_0 := b0 BK806
            have hcz60_1 := b1 BK806
            have hcz60_2 := b2 BK806
            have hfz60_0 := fz BK806 0
            have hfz60_1 := fz BK806 1
            have hfz60_2 := fz BK806 2
            go_wp2
            refine bodyPost_ret (results_ct rfl _ _ gb806 31 #[.string x811000_1, .int .i64 x811001_1, .int .i64 x811002_1] (0, 0) _ rfl (by refine bx ?_; refine blk_put (cs := #[.string x811000_1, .int .i64 x811001_1, .int .i64 0]) ?_ 2 _ rfl; refine bx ?_; refine blk_put (cs := #[.string x811000_1, .int .i64 0, .int .i64 0]) ?_ 1 _ rfl; refine bx ?_; refine blk_put (cs := #[.string (⟨#[]⟩ : ByteArray), .int .i64 0, .int .i64 0]) ?_ 0 _ rfl; refine bx ?_; exact BK806.out) Try.underlying31 rfl (by kernel_rfl)) rfl ?_
            exact ⟨_, exq, by refine rx ?_; exact Kd.R_mono (Kd.R_far (p := ⟨gb806, 2, none⟩) (Kd.R_far (p := ⟨gb806, 1, none⟩) (Kd.R_far (p := ⟨gb806, 0, none⟩) (Kd.R_types HO_7.out BK806.out (by decide)) (fun _ hk => hk.2) (.string x811000_1)) (fun _ hk => hk.2) (.int .i64 x811001_1)) (fun _ hk => hk.2) (.int .i64 x811002_1)) (fun _ hk => trivial), bw HB.out⟩

end Go.Proofs.Ytdkologncoofdaa.P
-- Px70
namespace Go.Proofs.Ytdkologncoofdaa.P
open Go.RowKit Go.Proofs.YtdkologncoofdaaW.PrintWords Go.Proofs.YtdkologncoofdaaW.PrintLast Go.Proofs.YtdkologncoofdaaW.PrintMore
attribute [local go_sem] max2_int min2_int max_two min_two max_three min_three max_four min_four   -- for this text's walks alone
set_option linter.unusedVariables false
set_option linter.unusedSimpArgs false

/-! ### laws_szRecSayS: function 51 -/
def laws_szRecSayS.f (l0 : List (S66)) (a1 : Int) : Option (Int) := if (wrap64 (a1 - (l0.length : Int))) < 0 then (some (-1)) else (some (wrap64 (a1 - (l0.length : Int))))
set_option maxHeartbeats 8000000 in
set_option maxRecDepth 100000 in
theorem laws_szRecSayS.calls (A0 : Option Addr) (c0 : Nat) (l0 : List (S66)) (a1 : Int) (r : Int) (w : World) (hr0 : Kd.C k66 w A0 l0.length l0) (hc0 : l0.length ≤ c0) (h : laws_szRecSayS.f l0 a1 = some r) :
    Calls Try.prog 51 #[.slice A0 l0.length c0, .int .i64 a1] w fun e w' => e = .returned (.int .i64 r) ∧ Drawn0 w w' := by
  have HR0 := Aside0.mk hr0
  have HC0 := Aside0.mk hc0
  clear hr0 hc0
  have H : (if (wrap64 (a1 - (l0.length : Int))) < 0 then (some (-1)) else (some (wrap64 (a1 - (l0.length : Int))))) = some r := h
  clear h
  by_cases c3 : (wrap64 (a1 - (l0.length : Int))) < 0
  · rw [if_pos c3] at H
    have c3b0 : decide ((wrap64 (a1 - (l0.length : Int))) < 0) = true := decide_eq_true c3
    clear c3
    obtain rfl := Option.some.inj H
    go_enter Try.func51, Try.ntmps51
    go_wp2
    go_ret
    exact ⟨by first | rfl | (simp; done) | (simp [*]; done), by repeat (first | exact Drawn0.refl _ | apply Drawn0.step)⟩
  · rw [if_neg c3] at H
    have c3b0 : decide ((wrap64 (a1 - (l0.length : Int))) < 0) = false := decide_eq_false c3
    clear c3
    obtain rfl := Option.some.inj H
    go_enter Try.func51, Try.ntmps51
    go_wp2
    go_ret
    exact ⟨by first | rfl | (simp; done) | (simp [*]; done), by repeat (first | exact Drawn0.refl _ | apply Drawn0.step)⟩

end Go.Proofs.Ytdkologncoofdaa.P
-- Px63
namespace Go.Proofs.Ytdkologncoofdaa.P
open Go.RowKit Go.Proofs.YtdkologncoofdaaW.PrintWords Go.Proofs.YtdkologncoofdaaW.PrintLast Go.Proofs.YtdkologncoofdaaW.PrintMore
attribute [local go_sem] max2_int min2_int max_two min_two max_three min_three max_four min_four   -- for this text's walks alone
set_option linter.unusedVariables false
set_option linter.unusedSimpArgs false

/-! ### laws_toRecSay: function 49 -/
def laws_toRecSay.f (a0_0 : Int) (a0_1 : Bool) : Option (Int × Bool) := some (a0_0, a0_1)
set_option maxHeartbeats 8000000 in
set_option maxRecDepth 100000 in
theorem laws_toRecSay.calls (a0_0 : Int) (a0_1 : Bool) (r1 : Int) (r2 : Bool) (w : World) (h : laws_toRecSay.f a0_0 a0_1 = some (r1, r2)) :
    Calls Try.prog 49 #[.agg #[.int .i64 a0_0, .bool a0_1]] w fun e w' => e = .returned (.agg #[.int .i64 r1, .bool r2]) ∧ Below w.heap.size w w' := by
  have hu66 := Try.underlying66
  have hu43 := Try.underlying43
  have HB := Aside0.mk (Below.refl w.heap.size w)
  have H : (some (a0_0, a0_1)) = some (r1, r2) := h
  clear h
  simp only [Option.some.injEq, Prod.mk.injEq] at H
  obtain ⟨rfl, rfl⟩ := H
  go_enter Try.func49, Try.ntmps49
  go_wp2_with (first | ((with_reducible refine gate_dst (N := 1) rfl ?_); refine box_event ?hg (N := 1) ?hd (cs := #[.int .i64 a0_0, .bool a0_1]) (t := 66) ?hr ?_; (case hd => rfl); (case hg => rfl); (case hr => first | (go_simp; done) | (go_simp; rfl)); intro gb664 hg w2 hbox hb; have n0_ := bs HB hb; have n1_ := Aside0.mk (hbox); have n2_ := Aside0.mk ((by rw [hg]; exact (below_size (bw HB.out)) : w.heap.size ≤ gb664)); have n3_ := Aside0.mk ((by rw [hg]; exact (below_size (bw HB.out)) : w.heap.size ≤ gb664)); clear HB; have HB := n0_; have BK664 := n1_; have GW664 := n2_; have GE664 := n3_; clear n0_ n1_ n2_ n3_; clear hb hbox hg) | ((with_reducible refine gate_dst (N := 2) rfl ?_); refine box_event ?hg (N := 2) ?hd (cs := #[.int .i64 0, .bool false]) (t := 43) ?hr ?_; (case hd => rfl); (case hg => rfl); (case hr => first | (go_simp; done) | (go_simp; rfl)); intro gb665 hg w3 hbox hb; have n0_ := up BK664 hb; have n1_ := bs HB hb; have n2_ := Aside0.mk (hbox); have n3_ := Aside0.mk ((by rw [hg]; exact (below_size (bw HB.out)) : w.heap.size ≤ gb665)); have n4_ := Aside0.mk ((by rw [hg]; exact (below_size (bw HB.out)) : w.heap.size ≤ gb665)); have n5_ := Aside0.mk ((by rw [hg]; exact Nat.ne_of_lt (blk_lt (g := gb664) (o := .cells #[.int .i64 a0_0, .bool a0_1] 66 (0, 0)) (bx BK664.out)) : gb664 ≠ gb665)); have n6_ := Aside0.mk ((by rw [hg]; exact Nat.ne_of_gt (blk_lt (g := gb664) (o := .cells #[.int .i64 a0_0, .bool a0_1] 66 (0, 0)) (bx BK664.out)) : gb665 ≠ gb664)); clear BK664; clear HB; have BK664 := n0_; have HB := n1_; have BK665 := n2_; have GW665 := n3_; have GE665 := n4_; have NB664_665 := n5_; have NB665_664 := n6_; clear n0_ n1_ n2_ n3_ n4_ n5_ n6_; clear hb hbox hg) | ((with_reducible refine gate_dst (N := 3) rfl ?_); refine box_event ?hg (N := 3) ?hd (cs := #[.int .i64 0, .bool false]) (t := 43) ?hr ?_; (case hd => rfl); (case hg => rfl); (case hr => first | (go_simp; done) | (go_simp; rfl)); intro gb666 hg w4 hbox hb; have n0_ := up BK664 hb; have n1_ := up BK665 hb; have n2_ := bs HB hb; have n3_ := Aside0.mk (hbox); have n4_ := Aside0.mk ((by rw [hg]; exact (below_size (bw HB.out)) : w.heap.size ≤ gb666)); have n5_ := Aside0.mk ((by rw [hg]; exact (below_size (bw HB.out)) : w.heap.size ≤ gb666)); have n6_ := Aside0.mk ((by rw [hg]; exact Nat.ne_of_lt (blk_lt (g := gb664) (o := .cells #[.int .i64 a0_0, .bool a0_1] 66 (0, 0)) (bx BK664.out)) : gb664 ≠ gb666)); have n7_ := Aside0.mk ((by rw [hg]; exact Nat.ne_of_gt (blk_lt (g := gb664) (o := .cells #[.int .i64 a0_0, .bool a0_1] 66 (0, 0)) (bx BK664.out)) : gb666 ≠ gb664)); have n8_ := Aside0.mk ((by rw [hg]; exact Nat.ne_of_lt (blk_lt (g := gb665) (o := .cells #[.int .i64 0, .bool false] 43 (0, 0)) (bx BK665.out)) : gb665 ≠ gb666)); have n9_ := Aside0.mk ((by rw [hg]; exact Nat.ne_of_gt (blk_lt (g := gb665) (o := .cells #[.int .i64 0, .bool false] 43 (0, 0)) (bx BK665.out)) : gb666 ≠ gb665)); clear BK664; clear BK665; clear HB; have BK664 := n0_; have BK665 := n1_; have HB := n2_; have BK666 := n3_; have GW666 := n4_; have GE666 := n5_; have NB664_666 := n6_; have NB666_664 := n7_; have NB665_666 := n8_; have NB666_665 := n9_; clear n0_ n1_ n2_ n3_ n4_ n5_ n6_ n7_ n8_ n9_; clear hb hbox hg; have hnb5 := NB664_665.out; have hnc5 := NB665_664.out; have hnb6 := NB664_666.out; have hnc6 := NB666_664.out; have hcz7_0 := b0 BK664; have hcz7_1 := b1 BK664; have hfz7_0 := fz BK664 0; have hfz7_1 := fz BK664 1; have hnb8 := NB666_665.out; have hnc8 := NB665_666.out; have hcz9_0 := b0 BK666; have hcz9_1 := b1 BK666; have hfz9_0 := fz BK666 0; have hfz9_1 := fz BK666 1; have hcz10_0 := b0 BK665; have hcz10_1 := b1 BK665; have hfz10_0 := fz BK665 0; have hfz10_1 := fz BK665 1))
  refine bodyPost_ret (results_cell_row rfl _ _ gb665 43 #[.int .i64 a0_0, .bool a0_1] (0, 0) _ rfl (by refine bx ?_; refine blk_put (cs := #[.int .i64 a0_0, .bool false]) ?_ 1 _ rfl; refine bx ?_; refine blk_put (cs := #[.int .i64 0, .bool false]) ?_ 0 _ rfl; refine bx ?_; refine blk_far ?_ NB665_666.out _; refine bx ?_; refine blk_far ?_ NB665_666.out _; refine bx ?_; exact BK665.out) Try.underlying43 rfl (by kernel_rfl)) rfl ?_
  exact ⟨exq, bw HB.out⟩

end Go.Proofs.Ytdkologncoofdaa.P
-- Px71
namespace Go.Proofs.Ytdkologncoofdaa.P
open Go.RowKit Go.Proofs.YtdkologncoofdaaW.PrintWords Go.Proofs.YtdkologncoofdaaW.PrintLast Go.Proofs.YtdkologncoofdaaW.PrintMore
attribute [local go_sem] max2_int min2_int max_two min_two max_three min_three max_four min_four   -- for this text's walks alone
set_option linter.unusedVariables false
set_option linter.unusedSimpArgs false

/-! ### laws_toRecSayS: function 52 -/
def laws_toRecSayS.l0 : Nat → List (S66) → List (S43) → Int → Option ((List (S43)))
  | 0, _, _, _ => none
  | k + 1, x0, x3, x4 => if x4 < (x0.length : Int) then (if 0 ≤ x4 then ((laws_toRecSay.f ((rd_T66 x0 x4).f0) ((rd_T66 x0 x4).f1)).bind fun bt838 => (if x4 < (x3.length : Int) then (laws_toRecSayS.l0 k x0 (x3.set (x4 : Int).toNat (⟨bt838.1, bt838.2⟩ : S43)) (wrap64 (x4 + 1))) else (none))) else (none)) else (some x3)
def laws_toRecSayS.f (k : Nat) (l0 : List (S66)) : Option ((List (S43))) := if 0 ≤ (l0.length : Int) then (if ((l0.length : Int) : Int).toNat ≤ 17592186044416 then (laws_toRecSayS.l0 k l0 (List.replicate ((l0.length : Int) : Int).toNat z43) 0) else (none)) else (none)
theorem laws_toRecSayS.mono_l : ∀ k, (∀ y0 y1 y2, LeO (laws_toRecSayS.l0 k y0 y1 y2) (laws_toRecSayS.l0 (k + 1) y0 y1 y2))
  | 0 => fun _ _ _ r h => by simp [laws_toRecSayS.l0] at h
  | k + 1 => by
    have ih0 := laws_toRecSayS.mono_l k
    · intro y0 y1 y2
      unfold laws_toRecSayS.l0
      repeat' first
      | (with_reducible exact ih0 _ _ _)
      | (with_reducible exact LeO.refl _)
      | (with_reducible exact LeO.none _)
      | (with_reducible refine LeO.ite ?_ ?_)
      | (with_reducible refine LeO.bind ?_ (fun _ => ?_))
      | exact ih0 _ _ _
      | exact LeO.none _
      | refine LeO.ite ?_ ?_
      | refine LeO.bind ?_ (fun _ => ?_)
theorem laws_toRecSayS.mono : ∀ a0 k, LeO (laws_toRecSayS.f k a0) (laws_toRecSayS.f (k + 1) a0) := by
  intro a0 k
  have ih0 := laws_toRecSayS.mono_l k
  unfold laws_toRecSayS.f
  repeat' first
      | (with_reducible exact ih0 _ _ _)
      | (with_reducible exact LeO.refl _)
      | (with_reducible exact LeO.none _)
      | (with_reducible refine LeO.ite ?_ ?_)
      | (with_reducible refine LeO.bind ?_ (fun _ => ?_))
      | exact ih0 _ _ _
      | exact LeO.none _
      | refine LeO.ite ?_ ?_
      | refine LeO.bind ?_ (fun _ => ?_)
set_option maxHeartbeats 8000000 in
set_option maxRecDepth 100000 in
theorem laws_toRecSayS.calls (k : Nat) (A0 : Option Addr) (c0 : Nat) (l0 : List (S66)) (r : List (S43)) (w : World) (hr0 : Kd.C k66 w A0 l0.length l0) (hc0 : l0.length ≤ c0) (h : laws_toRecSayS.f k l0 = some r) :
    Calls Try.prog 52 #[.slice A0 l0.length c0] w fun e w' => ∃ v0_ : Value, e = .returned (v0_) ∧ Kd.R k43 43 w' w.heap.size (fun _ => True) v0_ r ∧ Below w.heap.size w w' := by
  have hu66 := Try.underlying66
  have hu43 := Try.underlying43
  have HR0 := Aside0.mk hr0
  have HC0 := Aside0.mk hc0
  clear hr0 hc0
  have HB := Aside0.mk (Below.refl w.heap.size w)
  have H : (if 0 ≤ (l0.length : Int) then (if ((l0.length : Int) : Int).toNat ≤ 17592186044416 then (laws_toRecSayS.l0 k l0 (List.replicate ((l0.length : Int) : Int).toNat z43) 0) else (none)) else (none)) = some r := h
  clear h
  by_cases c2 : 0 ≤ (l0.length : Int)
  · rw [if_pos c2] at H
    have c2b0 := eq_true c2
    have c2b1 : decide (0 ≤ (l0.length : Int)) = true := decide_eq_true c2
    clear c2
    by_cases c3 : ((l0.length : Int) : Int).toNat ≤ 17592186044416
    · rw [if_pos c3] at H
      have c3b0 := eq_true c3
      have c3b1 : decide (((l0.length : Int) : Int).toNat ≤ 17592186044416) = true := decide_eq_true c3
      clear c3
      obtain ⟨y834, hy834⟩ : ∃ y_ : List (S43), y_ = (List.replicate ((l0.length : Int) : Int).toNat z43) := ⟨_, rfl⟩
      replace H : (laws_toRecSayS.l0 k l0 y834 0) = some r := by first | (rw [hy834]; with_reducible exact H) | (have H2_ := (Option.bind_some _ _).symm.trans H; rw [hy834]; with_reducible exact H2_) | (have H2_ := (Option.bind_some _ _).symm.trans H; with_reducible exact H2_) | with_reducible exact H | (rw [hy834]; exact H) | exact H
      have Ny834 := Aside0.mk hy834
      clear hy834
      have H' := Aside0.mk H
      clear H
      go_enter Try.func52, Try.ntmps52
      go_wp2_with (first | ((with_reducible refine gate_dst (N := 7) rfl ?_); refine Kd.R_make k43 _ 43 rfl (N := 7) rfl 27 _ _ rfl (l0.length : Int) rfl rfl Try.underlying27 (.agg #[(.int .i64 0), (.bool false)]) 16 info43 rfl (by decide) (by omega) z43 (ok := fun _ => True) (okp := fun _ => True) (k43_mkM _ _ _ z43 ) (fun _ hk => hk) trivial (of_decide_eq_true (by first | (with_reducible assumption) | assumption)) (Nat.le_trans (Nat.mul_le_mul_right _ (of_decide_eq_true (by first | (with_reducible assumption) | assumption) : (l0.length : Int).toNat ≤ 17592186044416)) (by omega)) (Below.refl _ _) (Nat.le_refl _) ?_; intro v835 w4 ho5 hb hg_ hnew_; clear hg_ hnew_; (first | rw [← Ny834.out] at ho5 | (simp only [Int.reduceToNat] at ho5; rw [← Ny834.out] at ho5)); have n0_ := Aside0.mk (Kd.R_lower ho5 (below_size (bw HB.out))); have n1_ := bs HB hb; clear HB; have HO836 := n0_; have HB := n1_; clear n0_ n1_; clear hb ho5))
      go_loopg [4] k (fun kq v4 w' => ∃ (x3_1 : List (S43)) (x4_1 : Int), v4 = .int .i64 x4_1 ∧ Aside0 (laws_toRecSayS.l0 kq l0 x3_1 x4_1 = some r) ∧ Aside0 (kq ≤ k) ∧ Aside0 (Kd.R k43 43 w' w.heap.size (fun _ => True) v835 x3_1) ∧ Aside0 (Below w.heap.size w w'))
      case atStart => exact ⟨(y834), (0), (by first | rfl | (simp; done) | (simp [*]; done)), H', ⟨Nat.le_refl _⟩, ⟨by refine rx ?_; exact HO836.out⟩, (hbw HB)⟩
      case round =>
        clear H'
        try clear c2
        try clear c2b0
        try clear c2b1
        try clear p2
        try clear c3
        try clear c3b0
        try clear c3b1
        try clear c5
        obtain ⟨x3_1, x4_1, rfl, HA, HK1, HO_3, HB⟩ := hrel
        cases gk with
        | zero => exact absurd HA.out (by simp [laws_toRecSayS.l0])
        | succ k1 =>
          have H := HA.out
          clear HA
          simp only [laws_toRecSayS.l0] at H
          by_cases c6 : x4_1 < (l0.length : Int)
          · rw [if_pos c6] at H
            have c6b0 : decide (x4_1 < (l0.length : Int)) = true := decide_eq_true c6
            clear c6
            by_cases c7 : 0 ≤ x4_1
            · rw [if_pos c7] at H
              have c7b0 : decide (0 ≤ x4_1) = true := decide_eq_true c7
              clear c7
              replace H := Option.bind_eq_some_iff.mp H
              obtain ⟨⟨t838, t839⟩, A80, H⟩ := H
              replace H : (if x4_1 < (x3_1.length : Int) then (laws_toRecSayS.l0 k1 l0 (x3_1.set (x4_1 : Int).toNat (⟨t838, t839⟩ : S43)) (wrap64 (x4_1 + 1))) else (none)) = some r := H
              have A8 := Aside0.mk A80
              clear A80
              by_cases c9 : x4_1 < (x3_1.length : Int)
              · rw [if_pos c9] at H
                have c9b0 : decide (x4_1 < (x3_1.length : Int)) = true := decide_eq_true c9
                clear c9
                obtain ⟨y840, hy840⟩ : ∃ y_ : List (S43), y_ = (x3_1.set (x4_1 : Int).toNat (⟨t838, t839⟩ : S43)) := ⟨_, rfl⟩
                replace H : (laws_toRecSayS.l0 k1 l0 y840 (wrap64 (x4_1 + 1))) = some r := by first | (rw [hy840]; with_reducible exact H) | (have H2_ := (Option.bind_some _ _).symm.trans H; rw [hy840]; with_reducible exact H2_) | (have H2_ := (Option.bind_some _ _).symm.trans H; with_reducible exact H2_) | with_reducible exact H | (rw [hy840]; exact H) | exact H
                have Ny840 := Aside0.mk hy840
                clear hy840
                have H' := Aside0.mk H
                clear H
                have p837 : 0 ≤ (x4_1 : Int) := of_decide_eq_true (by first | (with_reducible assumption) | assumption)
                have q837 : x4_1 < (l0.length : Int) := of_decide_eq_true (by first | (with_reducible assumption) | assumption)
                obtain ⟨ad837, e837, hx837_0, hx837_1⟩ := at_T66 HR0.out x4_1 p837 q837
                cases e837
                replace hx837_0 := bcl HB hx837_0
                replace hx837_1 := bcl HB hx837_1
                replace p837 := eq_true p837
                replace q837 := eq_true q837
                go_wp2_with (first | ((with_reducible refine gate_callee (f := 49) rfl ?_); refine goesL_ (some 20) rfl rfl Try.func49 (by kernel_rfl) rfl #[.agg #[.int .i64 ((rd_T66 l0 x4_1).f0), .bool ((rd_T66 l0 x4_1).f1)]] rfl mxp ?_; (with_reducible refine (laws_toRecSay.calls ((rd_T66 l0 x4_1).f0) ((rd_T66 l0 x4_1).f1) t838 t839 _ A8.out).mono ?_); rintro e w11 ⟨rfl, hb⟩; refine ⟨_, rfl, ?_⟩; have n0_ := Aside0.mk (Kd.R_below (rx HO_3.out) hb); have n1_ := bs HB hb; clear HO_3; clear HB; have HO_3 := n0_; have HB := n1_; clear n0_ n1_; (try clear hb); (try clear hb2); (try clear hk); (try clear hi); have p10 : 0 ≤ (x4_1 : Int) := of_decide_eq_true (by first | (with_reducible assumption) | assumption); have q10 : (x4_1 : Int) < ((x3_1.length : Int) : Int) := of_decide_eq_true (by first | (with_reducible assumption) | assumption); obtain ⟨go10, co10, eo10, gb10, gl10, cl10, HG10⟩ := Kd.R_form HO_3.out (by omega); (first | cases eo10 | (injection eo10 with ea_ en_ ec_; (first | subst ea_ | (injection ea_ with ea_; subst ea_)); subst ec_; clear en_)); have GB10 := Aside0.mk gb10; have GG10 := Aside0.mk HG10; clear gb10 gl10 HG10; obtain ⟨ce10, hcl10, hM10, hcc10, hfr10⟩ := Kd.R_elem HO_3.out z43 (x4_1 : Int) p10 q10; obtain rfl := k43_openM hM10; have hx10_0 : w11.cell? ⟨go10, (x4_1 : Int).toNat * 2, none⟩ = some (.int .i64 ((rd_T43 x3_1 x4_1).f0)) := hcc10 0 _ rfl; have hx10_1 : w11.cell? ⟨go10, (x4_1 : Int).toNat * 2 + 1, none⟩ = some (.bool ((rd_T43 x3_1 x4_1).f1)) := hcc10 1 _ rfl; have hf10_0 : w11.frozen? ⟨go10, (x4_1 : Int).toNat * 2, none⟩ = false := hfr10 0; have hf10_1 : w11.frozen? ⟨go10, (x4_1 : Int).toNat * 2 + 1, none⟩ = false := hfr10 1; clear hcl10 hcc10 hfr10 hM10; replace p10 := eq_true p10; replace q10 := eq_true q10; have HX12 := Aside0.mk (show Kd.R k43 43 w11 w.heap.size (fun _ => True) (.slice (some ⟨go10, 0, none⟩) x3_1.length co10) x3_1 from (rx HO_3.out)); obtain ⟨ce12, hcl12, hM12, hcc12, hfr12⟩ := Kd.R_elem HX12.out z43 (x4_1 : Int) (of_decide_eq_true (by first | (with_reducible assumption) | assumption)) (by have h_ : (x4_1 : Int) < ((x3_1.length : Int) : Int) := of_decide_eq_true (by first | (with_reducible assumption) | assumption); first | exact h_ | (have e_ := (Kd.R_reads' HO_3.out).1; omega) | simpa using h_); obtain rfl := k43_openM hM12; have HP12 := Kd.R_seg HX12.out (x4_1 : Int) (of_decide_eq_true (by first | (with_reducible assumption) | assumption)) (by have h_ : (x4_1 : Int) < ((x3_1.length : Int) : Int) := of_decide_eq_true (by first | (with_reducible assumption) | assumption); first | exact h_ | (have e_ := (Kd.R_reads' HO_3.out).1; omega) | simpa using h_) (seg := [.int .i64 t838, .bool t839]) (j := 0) hcl12 hcc12 (show 2 ≤ 2 from by decide) (x' := (⟨t838, t839⟩ : S43)) (k43_mkM _ _ _ (⟨t838, t839⟩ : S43) ) (fun _ hk => hk); have hx12_0 := hcc12 0 _ rfl; (try simp only [show (k43).sz = 2 from rfl, Nat.mul_one, Nat.add_zero] at hx12_0); have hf12_0 := hfr12 0; (try simp only [show (k43).sz = 2 from rfl, Nat.mul_one, Nat.add_zero] at hf12_0); have hx12_1 := hcc12 1 _ rfl; (try simp only [show (k43).sz = 2 from rfl, Nat.mul_one, Nat.add_zero] at hx12_1); have hf12_1 := hfr12 1; (try simp only [show (k43).sz = 2 from rfl, Nat.mul_one, Nat.add_zero] at hf12_1); clear hcl12 hcc12 hfr12 hM12) | ((with_reducible refine gate_store (t := 43) (p := 21) rfl ?_); refine store_event (t := 43) (p := 21) (v := ?vo_w13) (w1 := ((w11.setCell ⟨go10, (x4_1 : Int).toNat * 2, none⟩ (.int .i64 t838)).setCell ⟨go10, (x4_1 : Int).toNat * 2 + 1, none⟩ (.bool t839))) ?hg ?ho ?hn ?hr ?_; (case ho => rfl); (case hg => rfl); (case hn => rfl); (case hr => first | (go_simp; done) | (go_simp; rfl)); intro w13 hw; have hg : w11.grownBy w13 (some go10) := (by rw [hw]; exact HP12.2); have hp_ : Kd.R k43 43 w13 w.heap.size (fun _ => True) (.slice (some ⟨go10, 0, none⟩) x3_1.length co10) y840 := (by rw [hw, Ny840.out]; exact HP12.1); clear HP12; have n0_ := Aside0.mk (hp_); have n1_ := Aside0.mk ((by rw [hw]; exact below_set (below_set (HB.out) GB10.out) GB10.out : Below w.heap.size w w13)); clear HO_3; clear HB; have HO_3 := n0_; have HB := n1_; clear n0_ n1_; clear hg hw hp_))
                go_roundg k1
                case measure => have := HK1.out; omega
                case rel => exact ⟨(y840), (wrap64 (x4_1 + 1)), (by first | rfl | (simp; done) | (simp [*]; done)), H', ⟨by have := HK1.out; omega⟩, ⟨by refine rx ?_; exact HO_3.out⟩, (hbw HB)⟩
              · rw [if_neg c9] at H
                exact absurd H (by simp)
            · rw [if_neg c7] at H
              exact absurd H (by simp)
          · rw [if_neg c6] at H
            have c6b0 : decide (x4_1 < (l0.length : Int)) = false := decide_eq_false c6
            clear c6
            obtain rfl := Option.some.inj H
            go_wp2
            go_ret
            exact ⟨_, exq, by refine rx ?_; exact HO_3.out, bw HB.out⟩
    · rw [if_neg c3] at H
      exact absurd H (by simp)
  · rw [if_neg c2] at H
    exact absurd H (by simp)

end Go.Proofs.Ytdkologncoofdaa.P
-- Px72
namespace Go.Proofs.Ytdkologncoofdaa.P
open Go.RowKit Go.Proofs.YtdkologncoofdaaW.PrintWords Go.Proofs.YtdkologncoofdaaW.PrintLast Go.Proofs.YtdkologncoofdaaW.PrintMore
attribute [local go_sem] max2_int min2_int max_two min_two max_three min_three max_four min_four   -- for this text's walks alone
set_option linter.unusedVariables false
set_option linter.unusedSimpArgs false

/-! ### laws_eqStringS: function 53 -/
def laws_eqStringS.l0 : Nat → List ByteArray → List ByteArray → Int → Option (Bool)
  | 0, _, _, _ => none
  | k + 1, x0, x1, x5 => if x5 < (x0.length : Int) then (if 0 ≤ x5 then (if x5 < (x1.length : Int) then (if (rdOf ByteArray.empty x0 x5).toList = (rdOf ByteArray.empty x1 x5).toList then (laws_eqStringS.l0 k x0 x1 (wrap64 (x5 + 1))) else (some false)) else (none)) else (none)) else (some true)
def laws_eqStringS.f (k : Nat) (l0 : List ByteArray) (l1 : List ByteArray) : Option (Bool) := if (l0.length : Int) = (l1.length : Int) then (laws_eqStringS.l0 k l0 l1 0) else (some false)
theorem laws_eqStringS.mono_l : ∀ k, (∀ y0 y1 y2, LeO (laws_eqStringS.l0 k y0 y1 y2) (laws_eqStringS.l0 (k + 1) y0 y1 y2))
  | 0 => fun _ _ _ r h => by simp [laws_eqStringS.l0] at h
  | k + 1 => by
    have ih0 := laws_eqStringS.mono_l k
    · intro y0 y1 y2
      unfold laws_eqStringS.l0
      repeat' first
      | (with_reducible exact ih0 _ _ _)
      | (with_reducible exact LeO.refl _)
      | (with_reducible exact LeO.none _)
      | (with_reducible refine LeO.ite ?_ ?_)
      | (with_reducible refine LeO.bind ?_ (fun _ => ?_))
      | exact ih0 _ _ _
      | exact LeO.none _
      | refine LeO.ite ?_ ?_
      | refine LeO.bind ?_ (fun _ => ?_)
theorem laws_eqStringS.mono : ∀ a0 a1 k, LeO (laws_eqStringS.f k a0 a1) (laws_eqStringS.f (k + 1) a0 a1) := by
  intro a0 a1 k
  have ih0 := laws_eqStringS.mono_l k
  unfold laws_eqStringS.f
  repeat' first
      | (with_reducible exact ih0 _ _ _)
      | (with_reducible exact LeO.refl _)
      | (with_reducible exact LeO.none _)
      | (with_reducible refine LeO.ite ?_ ?_)
      | (with_reducible refine LeO.bind ?_ (fun _ => ?_))
      | exact ih0 _ _ _
      | exact LeO.none _
      | refine LeO.ite ?_ ?_
      | refine LeO.bind ?_ (fun _ => ?_)
set_option maxHeartbeats 8000000 in
set_option maxRecDepth 100000 in
theorem laws_eqStringS.calls (k : Nat) (A0 : Option Addr) (c0 : Nat) (l0 : List ByteArray) (A1 : Option Addr) (c1 : Nat) (l1 : List ByteArray) (r : Bool) (w : World) (hr0 : Kd.C Kd.string w A0 l0.length l0) (hc0 : l0.length ≤ c0) (hr1 : Kd.C Kd.string w A1 l1.length l1) (hc1 : l1.length ≤ c1) (h : laws_eqStringS.f k l0 l1 = some r) :
    Calls Try.prog 53 #[.slice A0 l0.length c0, .slice A1 l1.length c1] w fun e w' => e = .returned (.bool r) ∧ Drawn0 w w' := by
  have HR0 := Aside0.mk hr0
  have HC0 := Aside0.mk hc0
  clear hr0 hc0
  have HR1 := Aside0.mk hr1
  have HC1 := Aside0.mk hc1
  clear hr1 hc1
  have H : (if (l0.length : Int) = (l1.length : Int) then (laws_eqStringS.l0 k l0 l1 0) else (some false)) = some r := h
  clear h
  by_cases c3 : (l0.length : Int) = (l1.length : Int)
  · rw [if_pos c3] at H
    have c3b0 : ((l0.length : Int) == (l1.length : Int)) = true := beq_iff_eq.mpr c3
    have c3b1 : ((l0.length : Int) != (l1.length : Int)) = false := bne_eq_false_iff_eq.mpr c3
    have c3b2 : (l0.length == l1.length) = true := by first | simpa using c3 | (simp at c3 ⊢; omega)
    clear c3
    have H' := Aside0.mk H
    clear H
    go_enter Try.func53, Try.ntmps53
    go_wp2
    repeat (go_quiet (fail); try go_wp2)
    go_loopg [5] k (fun kq v5 w' => ∃ (x5_1 : Int), v5 = .int .i64 x5_1 ∧ Aside0 (laws_eqStringS.l0 kq l0 l1 x5_1 = some r) ∧ Aside0 (kq ≤ k) ∧ Drawn0 w w')
    case atStart => exact ⟨(0), (by first | rfl | (simp; done) | (simp [*]; done)), H', ⟨Nat.le_refl _⟩, by repeat (first | exact Drawn0.refl _ | apply Drawn0.step)⟩
    case round =>
      clear H'
      try clear c1
      try clear p2
      try clear c3
      try clear c3b0
      try clear c3b1
      try clear c3b2
      obtain ⟨x5_1, rfl, HA, HK1, ⟨m1, rfl⟩⟩ := hrel
      cases gk with
      | zero => exact absurd HA.out (by simp [laws_eqStringS.l0])
      | succ k1 =>
        have H := HA.out
        clear HA
        simp only [laws_eqStringS.l0] at H
        by_cases c4 : x5_1 < (l0.length : Int)
        · rw [if_pos c4] at H
          have c4b0 : decide (x5_1 < (l0.length : Int)) = true := decide_eq_true c4
          clear c4
          by_cases c5 : 0 ≤ x5_1
          · rw [if_pos c5] at H
            have c5b0 : decide (0 ≤ x5_1) = true := decide_eq_true c5
            clear c5
            by_cases c6 : x5_1 < (l1.length : Int)
            · rw [if_pos c6] at H
              have c6b0 : decide (x5_1 < (l1.length : Int)) = true := decide_eq_true c6
              clear c6
              by_cases c7 : (rdOf ByteArray.empty l0 x5_1).toList = (rdOf ByteArray.empty l1 x5_1).toList
              · rw [if_pos c7] at H
                have c7b0 : ((rdOf ByteArray.empty l0 x5_1).toList == (rdOf ByteArray.empty l1 x5_1).toList) = true := beq_iff_eq.mpr c7
                have c7b1 : ((rdOf ByteArray.empty l0 x5_1).toList != (rdOf ByteArray.empty l1 x5_1).toList) = false := bne_eq_false_iff_eq.mpr c7
                clear c7
                have H' := Aside0.mk H
                clear H
                have p841 : 0 ≤ (x5_1 : Int) := of_decide_eq_true (by first | (with_reducible assumption) | assumption)
                have q841 : x5_1 < (l0.length : Int) := of_decide_eq_true (by first | (with_reducible assumption) | assumption)
                obtain ⟨ad841, e841, hx841_0⟩ := Kd.at_string HR0.out x5_1 p841 q841
                cases e841
                replace p841 := eq_true p841
                replace q841 := eq_true q841
                have p842 : 0 ≤ (x5_1 : Int) := of_decide_eq_true (by first | (with_reducible assumption) | assumption)
                have q842 : x5_1 < (l1.length : Int) := of_decide_eq_true (by first | (with_reducible assumption) | assumption)
                obtain ⟨ad842, e842, hx842_0⟩ := Kd.at_string HR1.out x5_1 p842 q842
                cases e842
                replace p842 := eq_true p842
                replace q842 := eq_true q842
                go_wp2
                repeat (go_quiet (fail); try go_wp2)
                go_roundg k1
                case measure => have := HK1.out; omega
                case rel => exact ⟨(wrap64 (x5_1 + 1)), (by first | rfl | (simp; done) | (simp [*]; done)), H', ⟨by have := HK1.out; omega⟩, by repeat (first | exact Drawn0.refl _ | apply Drawn0.step)⟩
              · rw [if_neg c7] at H
                have c7b0 : ((rdOf ByteArray.empty l0 x5_1).toList == (rdOf ByteArray.empty l1 x5_1).toList) = false := beq_eq_false_iff_ne.mpr c7
                have c7b1 : ((rdOf ByteArray.empty l0 x5_1).toList != (rdOf ByteArray.empty l1 x5_1).toList) = true := bne_iff_ne.mpr c7
                obtain rfl := Option.some.inj H
                have p841 : 0 ≤ (x5_1 : Int) := of_decide_eq_true (by first | (with_reducible assumption) | assumption)
                have q841 : x5_1 < (l0.length : Int) := of_decide_eq_true (by first | (with_reducible assumption) | assumption)
                obtain ⟨ad841, e841, hx841_0⟩ := Kd.at_string HR0.out x5_1 p841 q841
                cases e841
                replace p841 := eq_true p841
                replace q841 := eq_true q841
                have p842 : 0 ≤ (x5_1 : Int) := of_decide_eq_true (by first | (with_reducible assumption) | assumption)
                have q842 : x5_1 < (l1.length : Int) := of_decide_eq_true (by first | (with_reducible assumption) | assumption)
                obtain ⟨ad842, e842, hx842_0⟩ := Kd.at_string HR1.out x5_1 p842 q842
                cases e842
                replace p842 := eq_true p842
                replace q842 := eq_true q842
                go_wp2
                repeat (go_quiet (fail); try go_wp2)
                go_ret
                exact ⟨by first | rfl | (simp; done) | (simp [*]; done), by repeat (first | exact Drawn0.refl _ | apply Drawn0.step)⟩
            · rw [if_neg c6] at H
              exact absurd H (by simp)
          · rw [if_neg c5] at H
            exact absurd H (by simp)
        · rw [if_neg c4] at H
          have c4b0 : decide (x5_1 < (l0.length : Int)) = false := decide_eq_false c4
          clear c4
          obtain rfl := Option.some.inj H
          go_wp2
          repeat (go_quiet (fail); try go_wp2)
          go_ret
          exact ⟨by first | rfl | (simp; done) | (simp [*]; done), by repeat (first | exact Drawn0.refl _ | apply Drawn0.step)⟩
  · rw [if_neg c3] at H
    have c3b0 : ((l0.length : Int) == (l1.length : Int)) = false := beq_eq_false_iff_ne.mpr c3
    have c3b1 : ((l0.length : Int) != (l1.length : Int)) = true := bne_iff_ne.mpr c3
    have c3b2 : (l0.length == l1.length) = false := by first | simpa using c3 | (simp at c3 ⊢; omega)
    obtain rfl := Option.some.inj H
    go_enter Try.func53, Try.ntmps53
    go_wp2
    repeat (go_quiet (fail); try go_wp2)
    go_ret
    exact ⟨by first | rfl | (simp; done) | (simp [*]; done), by repeat (first | exact Drawn0.refl _ | apply Drawn0.step)⟩

end Go.Proofs.Ytdkologncoofdaa.P
-- Px73
namespace Go.Proofs.Ytdkologncoofdaa.P
open Go.RowKit Go.Proofs.YtdkologncoofdaaW.PrintWords Go.Proofs.YtdkologncoofdaaW.PrintLast Go.Proofs.YtdkologncoofdaaW.PrintMore
attribute [local go_sem] max2_int min2_int max_two min_two max_three min_three max_four min_four   -- for this text's walks alone
set_option linter.unusedVariables false
set_option linter.unusedSimpArgs false

/-! ### laws_eqRecSay: function 89 -/
def laws_eqRecSay.f (a0_0 : Int) (a0_1 : Bool) (a1_0 : Int) (a1_1 : Bool) : Option (Bool) := if a0_0 = a1_0 then (if (a0_1 != a1_1) = true then (some false) else (some true)) else (some false)
set_option maxHeartbeats 8000000 in
set_option maxRecDepth 100000 in
theorem laws_eqRecSay.calls (a0_0 : Int) (a0_1 : Bool) (a1_0 : Int) (a1_1 : Bool) (r : Bool) (w : World) (h : laws_eqRecSay.f a0_0 a0_1 a1_0 a1_1 = some r) :
    Calls Try.prog 89 #[.agg #[.int .i64 a0_0, .bool a0_1], .agg #[.int .i64 a1_0, .bool a1_1]] w fun e w' => e = .returned (.bool r) ∧ Below w.heap.size w w' := by
  have H := Aside0.mk h
  clear h
  go_enter Try.func89, Try.ntmps89
  go_wp2
  all_goals
    go_ret
    refine ⟨?_, by repeat (first | exact Below.refl _ _ | apply below_alloc | apply pw_below_drewN | apply below_drew1)⟩
    have h := H.out
    simp_all [laws_eqRecSay.f]

end Go.Proofs.Ytdkologncoofdaa.P
-- Px74
namespace Go.Proofs.Ytdkologncoofdaa.P
open Go.RowKit Go.Proofs.YtdkologncoofdaaW.PrintWords Go.Proofs.YtdkologncoofdaaW.PrintLast Go.Proofs.YtdkologncoofdaaW.PrintMore
attribute [local go_sem] max2_int min2_int max_two min_two max_three min_three max_four min_four   -- for this text's walks alone
set_option linter.unusedVariables false
set_option linter.unusedSimpArgs false

/-! ### laws_eqRecSayS: function 54 -/
def laws_eqRecSayS.l0 : Nat → List (S43) → List (S43) → Int → Option (Bool)
  | 0, _, _, _ => none
  | k + 1, x0, x1, x5 => if x5 < (x0.length : Int) then (if 0 ≤ x5 then (if x5 < (x1.length : Int) then ((laws_eqRecSay.f ((rd_T43 x0 x5).f0) ((rd_T43 x0 x5).f1) ((rd_T43 x1 x5).f0) ((rd_T43 x1 x5).f1)).bind fun t847 => (if t847 = true then (laws_eqRecSayS.l0 k x0 x1 (wrap64 (x5 + 1))) else (some false))) else (none)) else (none)) else (some true)
def laws_eqRecSayS.f (k : Nat) (l0 : List (S43)) (l1 : List (S43)) : Option (Bool) := if (l0.length : Int) = (l1.length : Int) then (laws_eqRecSayS.l0 k l0 l1 0) else (some false)
theorem laws_eqRecSayS.mono_l : ∀ k, (∀ y0 y1 y2, LeO (laws_eqRecSayS.l0 k y0 y1 y2) (laws_eqRecSayS.l0 (k + 1) y0 y1 y2))
  | 0 => fun _ _ _ r h => by simp [laws_eqRecSayS.l0] at h
  | k + 1 => by
    have ih0 := laws_eqRecSayS.mono_l k
    · intro y0 y1 y2
      unfold laws_eqRecSayS.l0
      repeat' first
      | (with_reducible exact ih0 _ _ _)
      | (with_reducible exact LeO.refl _)
      | (with_reducible exact LeO.none _)
      | (with_reducible refine LeO.ite ?_ ?_)
      | (with_reducible refine LeO.bind ?_ (fun _ => ?_))
      | exact ih0 _ _ _
      | exact LeO.none _
      | refine LeO.ite ?_ ?_
      | refine LeO.bind ?_ (fun _ => ?_)
theorem laws_eqRecSayS.mono : ∀ a0 a1 k, LeO (laws_eqRecSayS.f k a0 a1) (laws_eqRecSayS.f (k + 1) a0 a1) := by
  intro a0 a1 k
  have ih0 := laws_eqRecSayS.mono_l k
  unfold laws_eqRecSayS.f
  repeat' first
      | (with_reducible exact ih0 _ _ _)
      | (with_reducible exact LeO.refl _)
      | (with_reducible exact LeO.none _)
      | (with_reducible refine LeO.ite ?_ ?_)
      | (with_reducible refine LeO.bind ?_ (fun _ => ?_))
      | exact ih0 _ _ _
      | exact LeO.none _
      | refine LeO.ite ?_ ?_
      | refine LeO.bind ?_ (fun _ => ?_)
def laws_eqRecSayS.T6 : Bool × List (List Nat × List Nat) := (true, [([], []), ([], []), ([0, 1], [0, 1]), ([2], [2]), ([], []), ([], []), ([4, 5], [4, 5]), ([6], [6]), ([3, 7], [3, 7]), ([8], [8])])
def laws_eqRecSayS.B6 : List Nat := [0, 0, 3, 7, 0, 0, 48, 112, 255, 511]
theorem laws_eqRecSayS.tab6 : rtab .any (opsOf Try.f54 6) = laws_eqRecSayS.T6 := by kernel_rfl
theorem laws_eqRecSayS.bits6 : waitsOk laws_eqRecSayS.T6.2 laws_eqRecSayS.B6 = true := by kernel_rfl
set_option maxHeartbeats 8000000 in
set_option maxRecDepth 100000 in
theorem laws_eqRecSayS.calls (k : Nat) (A0 : Option Addr) (c0 : Nat) (l0 : List (S43)) (A1 : Option Addr) (c1 : Nat) (l1 : List (S43)) (r : Bool) (w : World) (hr0 : Kd.C k43 w A0 l0.length l0) (hc0 : l0.length ≤ c0) (hr1 : Kd.C k43 w A1 l1.length l1) (hc1 : l1.length ≤ c1) (h : laws_eqRecSayS.f k l0 l1 = some r) :
    Calls Try.prog 54 #[.slice A0 l0.length c0, .slice A1 l1.length c1] w fun e w' => e = .returned (.bool r) ∧ Below w.heap.size w w' := by
  have hu43 := Try.underlying43
  have HR0 := Aside0.mk hr0
  have HC0 := Aside0.mk hc0
  clear hr0 hc0
  have HR1 := Aside0.mk hr1
  have HC1 := Aside0.mk hc1
  clear hr1 hc1
  have HB := Aside0.mk (Below.refl w.heap.size w)
  have H : (if (l0.length : Int) = (l1.length : Int) then (laws_eqRecSayS.l0 k l0 l1 0) else (some false)) = some r := h
  clear h
  by_cases c3 : (l0.length : Int) = (l1.length : Int)
  · rw [if_pos c3] at H
    have c3b0 : ((l0.length : Int) == (l1.length : Int)) = true := beq_iff_eq.mpr c3
    have c3b1 : ((l0.length : Int) != (l1.length : Int)) = false := bne_eq_false_iff_eq.mpr c3
    have c3b2 : (l0.length == l1.length) = true := by first | simpa using c3 | (simp at c3 ⊢; omega)
    clear c3
    have H' := Aside0.mk H
    clear H
    go_enter Try.func54, Try.ntmps54
    go_wp2
    go_loopg [5] k (fun kq v5 w' => ∃ (x5_1 : Int), v5 = .int .i64 x5_1 ∧ Aside0 (laws_eqRecSayS.l0 kq l0 l1 x5_1 = some r) ∧ Aside0 (kq ≤ k) ∧ Aside0 (Below w.heap.size w w'))
    case atStart => exact ⟨(0), (by first | rfl | (simp; done) | (simp [*]; done)), H', ⟨Nat.le_refl _⟩, (hbw HB)⟩
    case round =>
      clear H'
      try clear c1
      try clear p2
      try clear c3
      try clear c3b0
      try clear c3b1
      try clear c3b2
      obtain ⟨x5_1, rfl, HA, HK1, HB⟩ := hrel
      cases gk with
      | zero => exact absurd HA.out (by simp [laws_eqRecSayS.l0])
      | succ k1 =>
        have H := HA.out
        clear HA
        simp only [laws_eqRecSayS.l0] at H
        by_cases c4 : x5_1 < (l0.length : Int)
        · rw [if_pos c4] at H
          have c4b0 : decide (x5_1 < (l0.length : Int)) = true := decide_eq_true c4
          clear c4
          by_cases c5 : 0 ≤ x5_1
          · rw [if_pos c5] at H
            have c5b0 : decide (0 ≤ x5_1) = true := decide_eq_true c5
            clear c5
            by_cases c6 : x5_1 < (l1.length : Int)
            · rw [if_pos c6] at H
              have c6b0 : decide (x5_1 < (l1.length : Int)) = true := decide_eq_true c6
              clear c6
              replace H := Option.bind_eq_some_iff.mp H
              obtain ⟨t847, A70, H⟩ := H
              replace H : (if t847 = true then (laws_eqRecSayS.l0 k1 l0 l1 (wrap64 (x5_1 + 1))) else (some false)) = some r := H
              have A7 := Aside0.mk A70
              clear A70
              by_cases c8 : t847 = true
              · subst c8
                have H1 : (laws_eqRecSayS.l0 k1 l0 l1 (wrap64 (x5_1 + 1))) = some r := by rw [if_pos rfl] at H; exact H
                clear H
                have H := H1
                clear H1
                have H' := Aside0.mk H
                clear H
                try go_wp2
                have n0_ := Aside0.mk (below_drew1 HB.out)
                clear HB
                have HB := n0_
                clear n0_
                have p845 : 0 ≤ (x5_1 : Int) := of_decide_eq_true (by first | (with_reducible assumption) | assumption)
                have q845 : x5_1 < (l0.length : Int) := of_decide_eq_true (by first | (with_reducible assumption) | assumption)
                obtain ⟨ad845, e845, hx845_0, hx845_1⟩ := at_T43 HR0.out x5_1 p845 q845
                have hw845_1 := hx845_1
                have hw845_0 := hx845_0
                cases e845
                replace hx845_0 := bcl HB hx845_0
                replace hx845_1 := bcl HB hx845_1
                replace p845 := eq_true p845
                replace q845 := eq_true q845
                have p846 : 0 ≤ (x5_1 : Int) := of_decide_eq_true (by first | (with_reducible assumption) | assumption)
                have q846 : x5_1 < (l1.length : Int) := of_decide_eq_true (by first | (with_reducible assumption) | assumption)
                obtain ⟨ad846, e846, hx846_0, hx846_1⟩ := at_T43 HR1.out x5_1 p846 q846
                have hw846_1 := hx846_1
                have hw846_0 := hx846_0
                cases e846
                replace hx846_0 := bcl HB hx846_0
                replace hx846_1 := bcl HB hx846_1
                replace p846 := eq_true p846
                replace q846 := eq_true q846
                refine start_ (n := 10) (S := fun w' => w'.cell? (ad845.add ((x5_1).toNat * 2)) = some (.int .i64 ((rd_T43 l0 x5_1).f0)) ∧ w'.cell? ⟨(ad845.add ((x5_1).toNat * 2)).block, (ad845.add ((x5_1).toNat * 2)).off + 1, none⟩ = some (.bool ((rd_T43 l0 x5_1).f1)) ∧ w'.cell? (ad846.add ((x5_1).toNat * 2)) = some (.int .i64 ((rd_T43 l1 x5_1).f0)) ∧ w'.cell? ⟨(ad846.add ((x5_1).toNat * 2)).block, (ad846.add ((x5_1).toNat * 2)).off + 1, none⟩ = some (.bool ((rd_T43 l1 x5_1).f1))) (ds := []) #[false, false, false, false, false, false, false, false, false, false] (by kernel_rfl) rfl rfl ⟨((HB.out.cell (World.block_lt_of_cell? w _ hw845_0)).trans hw845_0), ((HB.out.cell (World.block_lt_of_cell? w _ hw845_1)).trans hw845_1), ((HB.out.cell (World.block_lt_of_cell? w _ hw846_0)).trans hw846_0), ((HB.out.cell (World.block_lt_of_cell? w _ hw846_1)).trans hw846_1)⟩ (fun hHeld => ?_); refine with_tabW laws_eqRecSayS.tab6 laws_eqRecSayS.bits6 (fun HT_ HW_ => ?_)
                generalize wr.drew = w9 at HB hx845_0 hx845_1 hx846_0 hx846_1 hHeld ⊢
                refine pure_ (i := 0) (N := some 17) (v := ?_) (a' := ?_) #[true, false, false, false, false, false, false, false, false, false] rfl rfl (any_of HT_.out (by kernel_rfl)) (fun _ _ _ h => h) (Or.inl ⟨by rfl, ?_⟩) ?_ ?_
                rotate_left
                · intro w'
                  go_simp
                  with_reducible rfl
                rotate_left
                · simp only [Act.put, List.setIfInBounds_toArray, List.set_cons_zero, List.set_cons_succ, i64_w, i32_w]
                  rfl
                refine pure_ (i := 1) (N := some 18) (v := ?_) (a' := ?_) #[true, true, false, false, false, false, false, false, false, false] rfl rfl (any_of HT_.out (by kernel_rfl)) (fun _ _ _ h => h) (Or.inl ⟨by rfl, ?_⟩) ?_ ?_
                rotate_left
                · intro w'
                  go_simp
                  with_reducible rfl
                rotate_left
                · simp only [Act.put, List.setIfInBounds_toArray, List.set_cons_zero, List.set_cons_succ, i64_w, i32_w]
                  rfl
                refine pure_ (i := 2) (N := some 19) (v := ?_) (a' := ?_) #[true, true, true, false, false, false, false, false, false, false] rfl rfl (any_of HT_.out (by kernel_rfl)) (fun _ _ _ h => h) (Or.inl ⟨by rfl, ?_⟩) ?_ ?_
                rotate_left
                · intro w'
                  go_simp
                  with_reducible rfl
                rotate_left
                · simp only [Act.put, List.setIfInBounds_toArray, List.set_cons_zero, List.set_cons_succ, i64_w, i32_w]
                  rfl
                refine pure_ (i := 4) (N := some 21) (v := ?_) (a' := ?_) #[true, true, true, false, true, false, false, false, false, false] rfl rfl (any_of HT_.out (by kernel_rfl)) (fun _ _ _ h => h) (Or.inl ⟨by rfl, ?_⟩) ?_ ?_
                rotate_left
                · intro w'
                  go_simp
                  with_reducible rfl
                rotate_left
                · simp only [Act.put, List.setIfInBounds_toArray, List.set_cons_zero, List.set_cons_succ, i64_w, i32_w]
                  rfl
                refine pure_ (i := 5) (N := some 22) (v := ?_) (a' := ?_) #[true, true, true, false, true, true, false, false, false, false] rfl rfl (any_of HT_.out (by kernel_rfl)) (fun _ _ _ h => h) (Or.inl ⟨by rfl, ?_⟩) ?_ ?_
                rotate_left
                · intro w'
                  go_simp
                  with_reducible rfl
                rotate_left
                · simp only [Act.put, List.setIfInBounds_toArray, List.set_cons_zero, List.set_cons_succ, i64_w, i32_w]
                  rfl
                refine pure_ (i := 6) (N := some 23) (v := ?_) (a' := ?_) #[true, true, true, false, true, true, true, false, false, false] rfl rfl (any_of HT_.out (by kernel_rfl)) (fun _ _ _ h => h) (Or.inl ⟨by rfl, ?_⟩) ?_ ?_
                rotate_left
                · intro w'
                  go_simp
                  with_reducible rfl
                rotate_left
                · simp only [Act.put, List.setIfInBounds_toArray, List.set_cons_zero, List.set_cons_succ, i64_w, i32_w]
                  rfl
                refine take_ (i := 3) (N := some 20) (v := ?_) (a' := ?_) #[true, true, true, true, true, true, true, false, false, false] rfl rfl (take_ofW HT_.out HW_.out (by kernel_rfl)) (fun _ _ _ h => h) (Or.inl ⟨by rfl, ?_⟩) hHeld ?_ ?_
                rotate_left
                · rintro w' ⟨s0, s1, s2, s3⟩
                  go_simp
                  with_reducible rfl
                rotate_left
                · simp only [Act.put, List.setIfInBounds_toArray, List.set_cons_zero, List.set_cons_succ, i64_w, i32_w]
                  rfl
                refine take_ (i := 7) (N := some 24) (v := ?_) (a' := ?_) #[true, true, true, true, true, true, true, true, false, false] rfl rfl (take_ofW HT_.out HW_.out (by kernel_rfl)) (fun _ _ _ h => h) (Or.inl ⟨by rfl, ?_⟩) hHeld ?_ ?_
                rotate_left
                · rintro w' ⟨s0, s1, s2, s3⟩
                  go_simp
                  with_reducible rfl
                rotate_left
                · simp only [Act.put, List.setIfInBounds_toArray, List.set_cons_zero, List.set_cons_succ, i64_w, i32_w]
                  rfl
                refine one_ (i := 8) (N := some 25) #[true, true, true, true, true, true, true, true, true, false] rfl rfl (one_of HT_.out (by kernel_rfl)) (by decide) (fun K hK => ?_)
                refine goes_ Try.func89 (by kernel_rfl) rfl #[.agg #[.int .i64 ((rd_T43 l0 x5_1).f0), .bool ((rd_T43 l0 x5_1).f1)], .agg #[.int .i64 ((rd_T43 l1 x5_1).f0), .bool ((rd_T43 l1 x5_1).f1)]] (by rfl) rfl rfl mxp ?_
                with_reducible refine (laws_eqRecSay.calls ((rd_T43 l0 x5_1).f0) ((rd_T43 l0 x5_1).f1) ((rd_T43 l1 x5_1).f0) ((rd_T43 l1 x5_1).f1) true _ A7.out).mono ?_
                rintro e w10 ⟨rfl, hb⟩
                refine ⟨_, rfl, ?_⟩
                have n0_ := bs HB hb
                clear HB
                have HB := n0_
                clear n0_
                (try clear hb)
                (try clear hb2)
                (try clear hk)
                (try clear hi)
                refine hK.out _ _ ⟨((HB.out.cell (World.block_lt_of_cell? w _ hw845_0)).trans hw845_0), ((HB.out.cell (World.block_lt_of_cell? w _ hw845_1)).trans hw845_1), ((HB.out.cell (World.block_lt_of_cell? w _ hw846_0)).trans hw846_0), ((HB.out.cell (World.block_lt_of_cell? w _ hw846_1)).trans hw846_1)⟩ (fun hHeld => ?_)
                clear hK K
                refine norm_ (a' := ?_) ?_ ?_
                rotate_left
                · show Act.put _ (some 25) _ = _
                  simp only [Act.put, List.setIfInBounds_toArray, List.set_cons_zero, List.set_cons_succ, i64_w, i32_w]
                  rfl
                refine pure_ (i := 9) (N := some 26) (v := ?_) (a' := ?_) #[true, true, true, true, true, true, true, true, true, true] rfl rfl (any_of HT_.out (by kernel_rfl)) (fun _ _ _ h => h) (Or.inl ⟨by rfl, ?_⟩) ?_ ?_
                rotate_left
                · intro w'
                  go_simp
                  with_reducible rfl
                rotate_left
                · simp only [Act.put, List.setIfInBounds_toArray, List.set_cons_zero, List.set_cons_succ, i64_w, i32_w]
                  rfl
                refine done_ (done_of HT_.out (by kernel_rfl)) ?_
                try go_wp2
                go_roundg k1
                case measure => have := HK1.out; omega
                case rel => exact ⟨(wrap64 (x5_1 + 1)), (by first | rfl | (simp; done) | (simp [*]; done)), H', ⟨by have := HK1.out; omega⟩, (hbw HB)⟩
              · replace c8 := Bool.eq_false_iff.mpr c8
                subst c8
                have H1 : (some false) = some r := by rw [if_neg (show ¬ (false = true) by decide)] at H; exact H
                clear H
                have H := H1
                clear H1
                obtain rfl := Option.some.inj H
                try go_wp2
                have n0_ := Aside0.mk (below_drew1 HB.out)
                clear HB
                have HB := n0_
                clear n0_
                have p845 : 0 ≤ (x5_1 : Int) := of_decide_eq_true (by first | (with_reducible assumption) | assumption)
                have q845 : x5_1 < (l0.length : Int) := of_decide_eq_true (by first | (with_reducible assumption) | assumption)
                obtain ⟨ad845, e845, hx845_0, hx845_1⟩ := at_T43 HR0.out x5_1 p845 q845
                have hw845_1 := hx845_1
                have hw845_0 := hx845_0
                cases e845
                replace hx845_0 := bcl HB hx845_0
                replace hx845_1 := bcl HB hx845_1
                replace p845 := eq_true p845
                replace q845 := eq_true q845
                have p846 : 0 ≤ (x5_1 : Int) := of_decide_eq_true (by first | (with_reducible assumption) | assumption)
                have q846 : x5_1 < (l1.length : Int) := of_decide_eq_true (by first | (with_reducible assumption) | assumption)
                obtain ⟨ad846, e846, hx846_0, hx846_1⟩ := at_T43 HR1.out x5_1 p846 q846
                have hw846_1 := hx846_1
                have hw846_0 := hx846_0
                cases e846
                replace hx846_0 := bcl HB hx846_0
                replace hx846_1 := bcl HB hx846_1
                replace p846 := eq_true p846
                replace q846 := eq_true q846
                refine start_ (n := 10) (S := fun w' => w'.cell? (ad845.add ((x5_1).toNat * 2)) = some (.int .i64 ((rd_T43 l0 x5_1).f0)) ∧ w'.cell? ⟨(ad845.add ((x5_1).toNat * 2)).block, (ad845.add ((x5_1).toNat * 2)).off + 1, none⟩ = some (.bool ((rd_T43 l0 x5_1).f1)) ∧ w'.cell? (ad846.add ((x5_1).toNat * 2)) = some (.int .i64 ((rd_T43 l1 x5_1).f0)) ∧ w'.cell? ⟨(ad846.add ((x5_1).toNat * 2)).block, (ad846.add ((x5_1).toNat * 2)).off + 1, none⟩ = some (.bool ((rd_T43 l1 x5_1).f1))) (ds := []) #[false, false, false, false, false, false, false, false, false, false] (by kernel_rfl) rfl rfl ⟨((HB.out.cell (World.block_lt_of_cell? w _ hw845_0)).trans hw845_0), ((HB.out.cell (World.block_lt_of_cell? w _ hw845_1)).trans hw845_1), ((HB.out.cell (World.block_lt_of_cell? w _ hw846_0)).trans hw846_0), ((HB.out.cell (World.block_lt_of_cell? w _ hw846_1)).trans hw846_1)⟩ (fun hHeld => ?_); refine with_tabW laws_eqRecSayS.tab6 laws_eqRecSayS.bits6 (fun HT_ HW_ => ?_)
                generalize wr.drew = w11 at HB hx845_0 hx845_1 hx846_0 hx846_1 hHeld ⊢
                refine pure_ (i := 0) (N := some 17) (v := ?_) (a' := ?_) #[true, false, false, false, false, false, false, false, false, false] rfl rfl (any_of HT_.out (by kernel_rfl)) (fun _ _ _ h => h) (Or.inl ⟨by rfl, ?_⟩) ?_ ?_
                rotate_left
                · intro w'
                  go_simp
                  with_reducible rfl
                rotate_left
                · simp only [Act.put, List.setIfInBounds_toArray, List.set_cons_zero, List.set_cons_succ, i64_w, i32_w]
                  rfl
                refine pure_ (i := 1) (N := some 18) (v := ?_) (a' := ?_) #[true, true, false, false, false, false, false, false, false, false] rfl rfl (any_of HT_.out (by kernel_rfl)) (fun _ _ _ h => h) (Or.inl ⟨by rfl, ?_⟩) ?_ ?_
                rotate_left
                · intro w'
                  go_simp
                  with_reducible rfl
                rotate_left
                · simp only [Act.put, List.setIfInBounds_toArray, List.set_cons_zero, List.set_cons_succ, i64_w, i32_w]
                  rfl
                refine pure_ (i := 2) (N := some 19) (v := ?_) (a' := ?_) #[true, true, true, false, false, false, false, false, false, false] rfl rfl (any_of HT_.out (by kernel_rfl)) (fun _ _ _ h => h) (Or.inl ⟨by rfl, ?_⟩) ?_ ?_
                rotate_left
                · intro w'
                  go_simp
                  with_reducible rfl
                rotate_left
                · simp only [Act.put, List.setIfInBounds_toArray, List.set_cons_zero, List.set_cons_succ, i64_w, i32_w]
                  rfl
                refine pure_ (i := 4) (N := some 21) (v := ?_) (a' := ?_) #[true, true, true, false, true, false, false, false, false, false] rfl rfl (any_of HT_.out (by kernel_rfl)) (fun _ _ _ h => h) (Or.inl ⟨by rfl, ?_⟩) ?_ ?_
                rotate_left
                · intro w'
                  go_simp
                  with_reducible rfl
                rotate_left
                · simp only [Act.put, List.setIfInBounds_toArray, List.set_cons_zero, List.set_cons_succ, i64_w, i32_w]
                  rfl
                refine pure_ (i := 5) (N := some 22) (v := ?_) (a' := ?_) #[true, true, true, false, true, true, false, false, false, false] rfl rfl (any_of HT_.out (by kernel_rfl)) (fun _ _ _ h => h) (Or.inl ⟨by rfl, ?_⟩) ?_ ?_
                rotate_left
                · intro w'
                  go_simp
                  with_reducible rfl
                rotate_left
                · simp only [Act.put, List.setIfInBounds_toArray, List.set_cons_zero, List.set_cons_succ, i64_w, i32_w]
                  rfl
                refine pure_ (i := 6) (N := some 23) (v := ?_) (a' := ?_) #[true, true, true, false, true, true, true, false, false, false] rfl rfl (any_of HT_.out (by kernel_rfl)) (fun _ _ _ h => h) (Or.inl ⟨by rfl, ?_⟩) ?_ ?_
                rotate_left
                · intro w'
                  go_simp
                  with_reducible rfl
                rotate_left
                · simp only [Act.put, List.setIfInBounds_toArray, List.set_cons_zero, List.set_cons_succ, i64_w, i32_w]
                  rfl
                refine take_ (i := 3) (N := some 20) (v := ?_) (a' := ?_) #[true, true, true, true, true, true, true, false, false, false] rfl rfl (take_ofW HT_.out HW_.out (by kernel_rfl)) (fun _ _ _ h => h) (Or.inl ⟨by rfl, ?_⟩) hHeld ?_ ?_
                rotate_left
                · rintro w' ⟨s0, s1, s2, s3⟩
                  go_simp
                  with_reducible rfl
                rotate_left
                · simp only [Act.put, List.setIfInBounds_toArray, List.set_cons_zero, List.set_cons_succ, i64_w, i32_w]
                  rfl
                refine take_ (i := 7) (N := some 24) (v := ?_) (a' := ?_) #[true, true, true, true, true, true, true, true, false, false] rfl rfl (take_ofW HT_.out HW_.out (by kernel_rfl)) (fun _ _ _ h => h) (Or.inl ⟨by rfl, ?_⟩) hHeld ?_ ?_
                rotate_left
                · rintro w' ⟨s0, s1, s2, s3⟩
                  go_simp
                  with_reducible rfl
                rotate_left
                · simp only [Act.put, List.setIfInBounds_toArray, List.set_cons_zero, List.set_cons_succ, i64_w, i32_w]
                  rfl
                refine one_ (i := 8) (N := some 25) #[true, true, true, true, true, true, true, true, true, false] rfl rfl (one_of HT_.out (by kernel_rfl)) (by decide) (fun K hK => ?_)
                refine goes_ Try.func89 (by kernel_rfl) rfl #[.agg #[.int .i64 ((rd_T43 l0 x5_1).f0), .bool ((rd_T43 l0 x5_1).f1)], .agg #[.int .i64 ((rd_T43 l1 x5_1).f0), .bool ((rd_T43 l1 x5_1).f1)]] (by rfl) rfl rfl mxp ?_
                with_reducible refine (laws_eqRecSay.calls ((rd_T43 l0 x5_1).f0) ((rd_T43 l0 x5_1).f1) ((rd_T43 l1 x5_1).f0) ((rd_T43 l1 x5_1).f1) false _ A7.out).mono ?_
                rintro e w12 ⟨rfl, hb⟩
                refine ⟨_, rfl, ?_⟩
                have n0_ := bs HB hb
                clear HB
                have HB := n0_
                clear n0_
                (try clear hb)
                (try clear hb2)
                (try clear hk)
                (try clear hi)
                refine hK.out _ _ ⟨((HB.out.cell (World.block_lt_of_cell? w _ hw845_0)).trans hw845_0), ((HB.out.cell (World.block_lt_of_cell? w _ hw845_1)).trans hw845_1), ((HB.out.cell (World.block_lt_of_cell? w _ hw846_0)).trans hw846_0), ((HB.out.cell (World.block_lt_of_cell? w _ hw846_1)).trans hw846_1)⟩ (fun hHeld => ?_)
                clear hK K
                refine norm_ (a' := ?_) ?_ ?_
                rotate_left
                · show Act.put _ (some 25) _ = _
                  simp only [Act.put, List.setIfInBounds_toArray, List.set_cons_zero, List.set_cons_succ, i64_w, i32_w]
                  rfl
                refine pure_ (i := 9) (N := some 26) (v := ?_) (a' := ?_) #[true, true, true, true, true, true, true, true, true, true] rfl rfl (any_of HT_.out (by kernel_rfl)) (fun _ _ _ h => h) (Or.inl ⟨by rfl, ?_⟩) ?_ ?_
                rotate_left
                · intro w'
                  go_simp
                  with_reducible rfl
                rotate_left
                · simp only [Act.put, List.setIfInBounds_toArray, List.set_cons_zero, List.set_cons_succ, i64_w, i32_w]
                  rfl
                refine done_ (done_of HT_.out (by kernel_rfl)) ?_
                try go_wp2
                go_ret
                exact ⟨exq, bw HB.out⟩
            · rw [if_neg c6] at H
              exact absurd H (by simp)
          · rw [if_neg c5] at H
            exact absurd H (by simp)
        · rw [if_neg c4] at H
          have c4b0 : decide (x5_1 < (l0.length : Int)) = false := decide_eq_false c4
          clear c4
          obtain rfl := Option.some.inj H
          go_wp2
          go_ret
          exact ⟨exq, bw HB.out⟩
  · rw [if_neg c3] at H
    have c3b0 : ((l0.length : Int) == (l1.length : Int)) = false := beq_eq_false_iff_ne.mpr c3
    have c3b1 : ((l0.length : Int) != (l1.length : Int)) = true := bne_iff_ne.mpr c3
    have c3b2 : (l0.length == l1.length) = false := by first | simpa using c3 | (simp at c3 ⊢; omega)
    obtain rfl := Option.some.inj H
    go_enter Try.func54, Try.ntmps54
    go_wp2
    go_ret
    exact ⟨exq, bw HB.out⟩

end Go.Proofs.Ytdkologncoofdaa.P
-- Px75
namespace Go.Proofs.Ytdkologncoofdaa.P
open Go.RowKit Go.Proofs.YtdkologncoofdaaW.PrintWords Go.Proofs.YtdkologncoofdaaW.PrintLast Go.Proofs.YtdkologncoofdaaW.PrintMore
attribute [local go_sem] max2_int min2_int max_two min_two max_three min_three max_four min_four   -- for this text's walks alone
set_option linter.unusedVariables false
set_option linter.unusedSimpArgs false

/-! ### laws_markText: function 90 -/
def laws_markText.l0 : Nat → Int → ByteArray → Option (ByteArray)
  | 0, _, _ => none
  | k + 1, x0, x3 => if x0 > 0 then ((some (([(wrap64 (48 + (Int.tmod x0 10))) % 256] : List Int) : List Int)).bind fun y848 => (if (strOfNums y848).size + x3.size ≤ 9223372036854775807 then (laws_markText.l0 k (wrap64 (Int.tdiv x0 10)) ((strOfNums y848) ++ x3)) else (none))) else (if 1 + x3.size ≤ 9223372036854775807 then (some ((⟨#[109]⟩ : ByteArray) ++ x3)) else (none))
def laws_markText.f (k : Nat) (a0 : Int) : Option (ByteArray) := if a0 ≤ 0 then (some (⟨#[109, 48]⟩ : ByteArray)) else (laws_markText.l0 k a0 (⟨#[]⟩ : ByteArray))
theorem laws_markText.mono_l : ∀ k, (∀ y0 y1, LeO (laws_markText.l0 k y0 y1) (laws_markText.l0 (k + 1) y0 y1))
  | 0 => fun _ _ r h => by simp [laws_markText.l0] at h
  | k + 1 => by
    have ih0 := laws_markText.mono_l k
    · intro y0 y1
      unfold laws_markText.l0
      repeat' first
      | (with_reducible exact ih0 _ _)
      | (with_reducible exact LeO.refl _)
      | (with_reducible exact LeO.none _)
      | (with_reducible refine LeO.ite ?_ ?_)
      | (with_reducible refine LeO.bind ?_ (fun _ => ?_))
      | exact ih0 _ _
      | exact LeO.none _
      | refine LeO.ite ?_ ?_
      | refine LeO.bind ?_ (fun _ => ?_)
theorem laws_markText.mono : ∀ a0 k, LeO (laws_markText.f k a0) (laws_markText.f (k + 1) a0) := by
  intro a0 k
  have ih0 := laws_markText.mono_l k
  unfold laws_markText.f
  repeat' first
      | (with_reducible exact ih0 _ _)
      | (with_reducible exact LeO.refl _)
      | (with_reducible exact LeO.none _)
      | (with_reducible refine LeO.ite ?_ ?_)
      | (with_reducible refine LeO.bind ?_ (fun _ => ?_))
      | exact ih0 _ _
      | exact LeO.none _
      | refine LeO.ite ?_ ?_
      | refine LeO.bind ?_ (fun _ => ?_)
set_option maxHeartbeats 8000000 in
set_option maxRecDepth 100000 in
theorem laws_markText.calls (k : Nat) (a0 : Int) (r : ByteArray) (w : World) (h : laws_markText.f k a0 = some r) :
    Calls Try.prog 90 #[.int .i64 a0] w fun e w' => e = .returned (.string r) ∧ Below w.heap.size w w' := by
  have HB := Aside0.mk (Below.refl w.heap.size w)
  have H : (if a0 ≤ 0 then (some (⟨#[109, 48]⟩ : ByteArray)) else (laws_markText.l0 k a0 (⟨#[]⟩ : ByteArray))) = some r := h
  clear h
  by_cases c2 : a0 ≤ 0
  · rw [if_pos c2] at H
    have c2b0 : decide (a0 ≤ 0) = true := decide_eq_true c2
    clear c2
    obtain rfl := Option.some.inj H
    go_enter Try.func90, Try.ntmps90
    go_wp2
    go_ret
    exact ⟨exq, bw HB.out⟩
  · rw [if_neg c2] at H
    have c2b0 : decide (a0 ≤ 0) = false := decide_eq_false c2
    clear c2
    have H' := Aside0.mk H
    clear H
    go_enter Try.func90, Try.ntmps90
    go_wp2
    go_loopg [0, 3] k (fun kq v0 v3 w' => ∃ (x0_1 : Int) (x3_1 : ByteArray), v0 = .int .i64 x0_1 ∧ v3 = .string x3_1 ∧ Aside0 (laws_markText.l0 kq x0_1 x3_1 = some r) ∧ Aside0 (kq ≤ k) ∧ Aside0 (Below w.heap.size w w'))
    case atStart => exact ⟨(a0), ((⟨#[]⟩ : ByteArray)), (by first | rfl | (simp; done) | (simp [*]; done)), (by first | rfl | (simp; done) | (simp [*]; done)), H', ⟨Nat.le_refl _⟩, (hbw HB)⟩
    case round =>
      clear H'
      try clear c2
      try clear c2b0
      try clear p2
      obtain ⟨x0_1, x3_1, rfl, rfl, HA, HK1, HB⟩ := hrel
      cases gk with
      | zero => exact absurd HA.out (by simp [laws_markText.l0])
      | succ k1 =>
        have H := HA.out
        clear HA
        simp only [laws_markText.l0] at H
        by_cases c3 : x0_1 > 0
        · rw [if_pos c3] at H
          have c3b0 : decide (0 < x0_1) = true := decide_eq_true c3
          clear c3
          obtain ⟨y848, hy848⟩ : ∃ y_ : List Int, y_ = (([(wrap64 (48 + (Int.tmod x0_1 10))) % 256] : List Int)) := ⟨_, rfl⟩
          replace H : (if (strOfNums y848).size + x3_1.size ≤ 9223372036854775807 then (laws_markText.l0 k1 (wrap64 (Int.tdiv x0_1 10)) ((strOfNums y848) ++ x3_1)) else (none)) = some r := by first | (rw [hy848]; with_reducible exact H) | (have H2_ := (Option.bind_some _ _).symm.trans H; rw [hy848]; with_reducible exact H2_) | (have H2_ := (Option.bind_some _ _).symm.trans H; with_reducible exact H2_) | with_reducible exact H | (rw [hy848]; exact H) | exact H
          have Ny848 := Aside0.mk hy848
          clear hy848
          by_cases c4 : (strOfNums y848).size + x3_1.size ≤ 9223372036854775807
          · rw [if_pos c4] at H
            have c4b0 := eq_true c4
            have c4b1 : decide ((strOfNums y848).size + x3_1.size ≤ 9223372036854775807) = true := decide_eq_true c4
            try have c4b2 : (9223372036854775807 < (strOfNums y848).size + x3_1.size) = False := eq_false (Nat.not_lt.2 c4)
            have H' := Aside0.mk H
            clear H
            go_wp2_with (first | ((with_reducible refine gate_dst (N := 12) rfl ?_); refine Kd.R_lit (Kd.int .u8) _ 5 ?hg (N := 12) ?hd (xs := ([(wrap64 (48 + (Int.tmod x0_1 10))) % 256] : List Int)) (inner := [.int .u8 ((wrap64 (48 + (Int.tmod x0_1 10))) % 256)]) (ok := fun _ => True) (okp := fun _ => True) ?hr ?hp (fun _ hk => hk) trivial (Below.refl _ _) (Nat.le_refl _) (by simp) ?_; (case hd => rfl); (case hg => rfl); (case hr => first | (go_simp; done) | (go_simp; rfl)); (case hp => exact (Reps.one (show Kd.M (Kd.int .u8) _ _ _ ((wrap64 (48 + (Int.tmod x0_1 10))) % 256) [.int .u8 ((wrap64 (48 + (Int.tmod x0_1 10))) % 256)] from rfl) (Reps.none _ _))); intro v849 w5 ho6 hb hg_ hnew_; clear hg_ hnew_; (first | rw [← Ny848.out] at ho6 | (simp only [Int.reduceToNat] at ho6; rw [← Ny848.out] at ho6)); have n0_ := Aside0.mk (Kd.R_lower ho6 (below_size (bw HB.out))); have n1_ := bs HB hb; clear HB; have HO850 := n0_; have HB := n1_; clear n0_ n1_; clear hb ho6; have hcv7 := own_string (P := Try.prog) Try.underlying25 Try.underlying5 Try.underlying9 (Kd.own_of_R HO850.out)))
            go_roundg k1
            case measure => have := HK1.out; omega
            case rel => exact ⟨(wrap64 (Int.tdiv x0_1 10)), ((strOfNums y848) ++ x3_1), (by first | rfl | (simp; done) | (simp [*]; done)), (by first | rfl | (simp; done) | (simp [*]; done)), H', ⟨by have := HK1.out; omega⟩, (hbw HB)⟩
          · rw [if_neg c4] at H
            exact absurd H (by simp)
        · rw [if_neg c3] at H
          have c3b0 : decide (0 < x0_1) = false := decide_eq_false c3
          clear c3
          by_cases c8 : 1 + x3_1.size ≤ 9223372036854775807
          · rw [if_pos c8] at H
            have c8b0 := eq_true c8
            have c8b1 : decide (1 + x3_1.size ≤ 9223372036854775807) = true := decide_eq_true c8
            try have c8b2 : (9223372036854775807 < 1 + x3_1.size) = False := eq_false (Nat.not_lt.2 c8)
            obtain rfl := Option.some.inj H
            go_wp2
            go_ret
            exact ⟨exq, bw HB.out⟩
          · rw [if_neg c8] at H
            exact absurd H (by simp)

end Go.Proofs.Ytdkologncoofdaa.P
-- Px76
namespace Go.Proofs.Ytdkologncoofdaa.P
open Go.RowKit Go.Proofs.YtdkologncoofdaaW.PrintWords Go.Proofs.YtdkologncoofdaaW.PrintLast Go.Proofs.YtdkologncoofdaaW.PrintMore
attribute [local go_sem] max2_int min2_int max_two min_two max_three min_three max_four min_four   -- for this text's walks alone
set_option linter.unusedVariables false
set_option linter.unusedSimpArgs false

/-! ### laws_markRecPhaseS: function 55 -/
def laws_markRecPhaseS.l0 : Nat → List (S39) → Int → Int → Option (Int × (List (S39)))
  | 0, _, _, _ => none
  | k + 1, x0, x1, x5 => if x5 < (x0.length : Int) then ((laws_markText.f k x1).bind fun t851 => (if 0 ≤ x5 then ((some (x0.set (x5 : Int).toNat (⟨t851, (rd_T39 x0 x5).f1, (rd_T39 x0 x5).f2, (rd_T39 x0 x5).f3, (rd_T39 x0 x5).f4, (rd_T39 x0 x5).f5, (rd_T39 x0 x5).f6, (rd_T39 x0 x5).f7⟩ : S39) : List (S39))).bind fun y852 => ((some (y852.set (x5 : Int).toNat (⟨(rd_T39 y852 x5).f0, wrap64 (x1 + 1), (rd_T39 y852 x5).f2, (rd_T39 y852 x5).f3, (rd_T39 y852 x5).f4, (rd_T39 y852 x5).f5, (rd_T39 y852 x5).f6, (rd_T39 y852 x5).f7⟩ : S39) : List (S39))).bind fun y853 => ((laws_markText.f k (wrap64 ((wrap64 (x1 + 1)) + 1))).bind fun t854 => ((some (y853.set (x5 : Int).toNat (⟨(rd_T39 y853 x5).f0, (rd_T39 y853 x5).f1, t854, (rd_T39 y853 x5).f3, (rd_T39 y853 x5).f4, (rd_T39 y853 x5).f5, (rd_T39 y853 x5).f6, (rd_T39 y853 x5).f7⟩ : S39) : List (S39))).bind fun y855 => ((laws_markText.f k (wrap64 ((wrap64 ((wrap64 (x1 + 1)) + 1)) + 1))).bind fun t856 => ((some (y855.set (x5 : Int).toNat (⟨(rd_T39 y855 x5).f0, (rd_T39 y855 x5).f1, (rd_T39 y855 x5).f2, t856, (rd_T39 y855 x5).f4, (rd_T39 y855 x5).f5, (rd_T39 y855 x5).f6, (rd_T39 y855 x5).f7⟩ : S39) : List (S39))).bind fun y857 => ((some (y857.set (x5 : Int).toNat (⟨(rd_T39 y857 x5).f0, (rd_T39 y857 x5).f1, (rd_T39 y857 x5).f2, (rd_T39 y857 x5).f3, wrap64 ((wrap64 ((wrap64 ((wrap64 (x1 + 1)) + 1)) + 1)) + 1), (rd_T39 y857 x5).f5, (rd_T39 y857 x5).f6, (rd_T39 y857 x5).f7⟩ : S39) : List (S39))).bind fun y858 => ((some (y858.set (x5 : Int).toNat (⟨(rd_T39 y858 x5).f0, (rd_T39 y858 x5).f1, (rd_T39 y858 x5).f2, (rd_T39 y858 x5).f3, (rd_T39 y858 x5).f4, wrap64 ((wrap64 ((wrap64 ((wrap64 ((wrap64 (x1 + 1)) + 1)) + 1)) + 1)) + 1), (rd_T39 y858 x5).f6, (rd_T39 y858 x5).f7⟩ : S39) : List (S39))).bind fun y859 => ((laws_markText.f k (wrap64 ((wrap64 ((wrap64 ((wrap64 ((wrap64 ((wrap64 (x1 + 1)) + 1)) + 1)) + 1)) + 1)) + 1))).bind fun t860 => ((some (y859.set (x5 : Int).toNat (⟨(rd_T39 y859 x5).f0, (rd_T39 y859 x5).f1, (rd_T39 y859 x5).f2, (rd_T39 y859 x5).f3, (rd_T39 y859 x5).f4, (rd_T39 y859 x5).f5, t860, (rd_T39 y859 x5).f7⟩ : S39) : List (S39))).bind fun y861 => ((laws_markText.f k (wrap64 ((wrap64 ((wrap64 ((wrap64 ((wrap64 ((wrap64 ((wrap64 (x1 + 1)) + 1)) + 1)) + 1)) + 1)) + 1)) + 1))).bind fun t862 => (laws_markRecPhaseS.l0 k (y861.set (x5 : Int).toNat (⟨(rd_T39 y861 x5).f0, (rd_T39 y861 x5).f1, (rd_T39 y861 x5).f2, (rd_T39 y861 x5).f3, (rd_T39 y861 x5).f4, (rd_T39 y861 x5).f5, (rd_T39 y861 x5).f6, t862⟩ : S39)) (wrap64 ((wrap64 ((wrap64 ((wrap64 ((wrap64 ((wrap64 ((wrap64 ((wrap64 (x1 + 1)) + 1)) + 1)) + 1)) + 1)) + 1)) + 1)) + 1)) (wrap64 (x5 + 1)))))))))))))) else (none))) else (some (x1, x0))
def laws_markRecPhaseS.f (k : Nat) (l0 : List (S39)) (a1 : Int) : Option (Int × (List (S39))) := laws_markRecPhaseS.l0 k l0 a1 0
theorem laws_markRecPhaseS.mono_l : ∀ k, (∀ y0 y1 y2, LeO (laws_markRecPhaseS.l0 k y0 y1 y2) (laws_markRecPhaseS.l0 (k + 1) y0 y1 y2))
  | 0 => fun _ _ _ r h => by simp [laws_markRecPhaseS.l0] at h
  | k + 1 => by
    have ih0 := laws_markRecPhaseS.mono_l k
    · intro y0 y1 y2
      unfold laws_markRecPhaseS.l0
      repeat' first
      | (with_reducible exact ih0 _ _ _)
      | (with_reducible exact laws_markText.mono _ _)
      | (with_reducible exact LeO.refl _)
      | (with_reducible exact LeO.none _)
      | (with_reducible refine LeO.ite ?_ ?_)
      | (with_reducible refine LeO.bind ?_ (fun _ => ?_))
      | exact ih0 _ _ _
      | exact laws_markText.mono _ _
      | exact LeO.none _
      | refine LeO.ite ?_ ?_
      | refine LeO.bind ?_ (fun _ => ?_)
theorem laws_markRecPhaseS.mono : ∀ a0 a1 k, LeO (laws_markRecPhaseS.f k a0 a1) (laws_markRecPhaseS.f (k + 1) a0 a1) := by
  intro a0 a1 k
  have ih0 := laws_markRecPhaseS.mono_l k
  unfold laws_markRecPhaseS.f
  repeat' first
      | (with_reducible exact ih0 _ _ _)
      | (with_reducible exact laws_markText.mono _ _)
      | (with_reducible exact LeO.refl _)
      | (with_reducible exact LeO.none _)
      | (with_reducible refine LeO.ite ?_ ?_)
      | (with_reducible refine LeO.bind ?_ (fun _ => ?_))
      | exact ih0 _ _ _
      | exact laws_markText.mono _ _
      | exact LeO.none _
      | refine LeO.ite ?_ ?_
      | refine LeO.bind ?_ (fun _ => ?_)
set_option maxHeartbeats 8000000 in
set_option maxRecDepth 100000 in
theorem laws_markRecPhaseS.calls (k : Nat) (P0_ : Nat → Prop) (u9000_ : Value) (l0 : List (S39)) (a1 : Int) (r1 : Int) (r2 : List (S39)) (w0 w : World) (hB : Below w0.heap.size w0 w) (ho0 : Kd.R k39 39 w w0.heap.size P0_ u9000_ l0) (h : laws_markRecPhaseS.f k l0 a1 = some (r1, r2)) :
    Calls Try.prog 55 #[u9000_, .int .i64 a1] w fun e w' => e = .returned (.int .i64 r1) ∧ Kd.R k39 39 w' w0.heap.size (fun k_ => (P0_ k_ ∨ w.heap.size ≤ k_)) u9000_ r2 ∧ Below w0.heap.size w0 w' ∧ Kept w w' (fun k_ => P0_ k_) := by
  have HO0 := Aside0.mk (show Kd.R k39 39 w w0.heap.size (fun k_ => (P0_ k_ ∨ w.heap.size ≤ k_)) u9000_ l0 from Kd.R_mono ho0 (fun k_ hk => (.inl hk)))
  have HK := Aside0.mk (Kept.refl w (fun k_ => P0_ k_))
  have HW0 := Aside0.mk hB.size
  have HB := Aside0.mk hB
  clear hB
  have H : (laws_markRecPhaseS.l0 k l0 a1 0) = some (r1, r2) := h
  clear h
  have H' := Aside0.mk H
  clear H
  go_enter Try.func55, Try.ntmps55
  go_wp2
  go_loopg [1, 5] k (fun kq v1 v5 w' => ∃ (x0_1 : List (S39)) (x1_1 : Int) (x5_1 : Int), v1 = .int .i64 x1_1 ∧ v5 = .int .i64 x5_1 ∧ Aside0 (laws_markRecPhaseS.l0 kq x0_1 x1_1 x5_1 = some (r1, r2)) ∧ Aside0 (kq ≤ k) ∧ Aside0 (Kd.R k39 39 w' w0.heap.size (fun k_ => (P0_ k_ ∨ w.heap.size ≤ k_)) u9000_ x0_1) ∧ Aside0 (Kept w w' (fun k_ => P0_ k_)) ∧ Aside0 (Below w0.heap.size w0 w'))
  case atStart => exact ⟨(l0), (a1), (0), (by first | rfl | (simp; done) | (simp [*]; done)), (by first | rfl | (simp; done) | (simp [*]; done)), H', ⟨Nat.le_refl _⟩, ⟨by refine rx ?_; exact HO0.out⟩, ⟨by repeat (first | (with_reducible first | exact HK.out | apply Kept.alloc | apply Kept.drewN | apply Kept.drew) | exact HK.out)⟩, (hbw HB)⟩
  case round =>
    clear H'
    try clear p2
    obtain ⟨x0_1, x1_1, x5_1, rfl, rfl, HA, HK1, HO_0, HK, HB⟩ := hrel
    cases gk with
    | zero => exact absurd HA.out (by simp [laws_markRecPhaseS.l0])
    | succ k1 =>
      have H := HA.out
      clear HA
      simp only [laws_markRecPhaseS.l0] at H
      by_cases c3 : x5_1 < (x0_1.length : Int)
      · rw [if_pos c3] at H
        have c3b0 : decide (x5_1 < (x0_1.length : Int)) = true := decide_eq_true c3
        clear c3
        replace H := Option.bind_eq_some_iff.mp H
        obtain ⟨t851, A40, H⟩ := H
        replace H : (if 0 ≤ x5_1 then ((some (x0_1.set (x5_1 : Int).toNat (⟨t851, (rd_T39 x0_1 x5_1).f1, (rd_T39 x0_1 x5_1).f2, (rd_T39 x0_1 x5_1).f3, (rd_T39 x0_1 x5_1).f4, (rd_T39 x0_1 x5_1).f5, (rd_T39 x0_1 x5_1).f6, (rd_T39 x0_1 x5_1).f7⟩ : S39) : List (S39))).bind fun y852 => ((some (y852.set (x5_1 : Int).toNat (⟨(rd_T39 y852 x5_1).f0, wrap64 (x1_1 + 1), (rd_T39 y852 x5_1).f2, (rd_T39 y852 x5_1).f3, (rd_T39 y852 x5_1).f4, (rd_T39 y852 x5_1).f5, (rd_T39 y852 x5_1).f6, (rd_T39 y852 x5_1).f7⟩ : S39) : List (S39))).bind fun y853 => ((laws_markText.f k1 (wrap64 ((wrap64 (x1_1 + 1)) + 1))).bind fun t854 => ((some (y853.set (x5_1 : Int).toNat (⟨(rd_T39 y853 x5_1).f0, (rd_T39 y853 x5_1).f1, t854, (rd_T39 y853 x5_1).f3, (rd_T39 y853 x5_1).f4, (rd_T39 y853 x5_1).f5, (rd_T39 y853 x5_1).f6, (rd_T39 y853 x5_1).f7⟩ : S39) : List (S39))).bind fun y855 => ((laws_markText.f k1 (wrap64 ((wrap64 ((wrap64 (x1_1 + 1)) + 1)) + 1))).bind fun t856 => ((some (y855.set (x5_1 : Int).toNat (⟨(rd_T39 y855 x5_1).f0, (rd_T39 y855 x5_1).f1, (rd_T39 y855 x5_1).f2, t856, (rd_T39 y855 x5_1).f4, (rd_T39 y855 x5_1).f5, (rd_T39 y855 x5_1).f6, (rd_T39 y855 x5_1).f7⟩ : S39) : List (S39))).bind fun y857 => ((some (y857.set (x5_1 : Int).toNat (⟨(rd_T39 y857 x5_1).f0, (rd_T39 y857 x5_1).f1, (rd_T39 y857 x5_1).f2, (rd_T39 y857 x5_1).f3, wrap64 ((wrap64 ((wrap64 ((wrap64 (x1_1 + 1)) + 1)) + 1)) + 1), (rd_T39 y857 x5_1).f5, (rd_T39 y857 x5_1).f6, (rd_T39 y857 x5_1).f7⟩ : S39) : List (S39))).bind fun y858 => ((some (y858.set (x5_1 : Int).toNat (⟨(rd_T39 y858 x5_1).f0, (rd_T39 y858 x5_1).f1, (rd_T39 y858 x5_1).f2, (rd_T39 y858 x5_1).f3, (rd_T39 y858 x5_1).f4, wrap64 ((wrap64 ((wrap64 ((wrap64 ((wrap64 (x1_1 + 1)) + 1)) + 1)) + 1)) + 1), (rd_T39 y858 x5_1).f6, (rd_T39 y858 x5_1).f7⟩ : S39) : List (S39))).bind fun y859 => ((laws_markText.f k1 (wrap64 ((wrap64 ((wrap64 ((wrap64 ((wrap64 ((wrap64 (x1_1 + 1)) + 1)) + 1)) + 1)) + 1)) + 1))).bind fun t860 => ((some (y859.set (x5_1 : Int).toNat (⟨(rd_T39 y859 x5_1).f0, (rd_T39 y859 x5_1).f1, (rd_T39 y859 x5_1).f2, (rd_T39 y859 x5_1).f3, (rd_T39 y859 x5_1).f4, (rd_T39 y859 x5_1).f5, t860, (rd_T39 y859 x5_1).f7⟩ : S39) : List (S39))).bind fun y861 => ((laws_markText.f k1 (wrap64 ((wrap64 ((wrap64 ((wrap64 ((wrap64 ((wrap64 ((wrap64 (x1_1 + 1)) + 1)) + 1)) + 1)) + 1)) + 1)) + 1))).bind fun t862 => (laws_markRecPhaseS.l0 k1 (y861.set (x5_1 : Int).toNat (⟨(rd_T39 y861 x5_1).f0, (rd_T39 y861 x5_1).f1, (rd_T39 y861 x5_1).f2, (rd_T39 y861 x5_1).f3, (rd_T39 y861 x5_1).f4, (rd_T39 y861 x5_1).f5, (rd_T39 y861 x5_1).f6, t862⟩ : S39)) (wrap64 ((wrap64 ((wrap64 ((wrap64 ((wrap64 ((wrap64 ((wrap64 ((wrap64 (x1_1 + 1)) + 1)) + 1)) + 1)) + 1)) + 1)) + 1)) + 1)) (wrap64 (x5_1 + 1)))))))))))))) else (none)) = some (r1, r2) := H
        have A4 := Aside0.mk A40
        clear A40
        by_cases c5 : 0 ≤ x5_1
        · rw [if_pos c5] at H
          have c5b0 : decide (0 ≤ x5_1) = true := decide_eq_true c5
          clear c5
          obtain ⟨y852, hy852⟩ : ∃ y_ : List (S39), y_ = (x0_1.set (x5_1 : Int).toNat (⟨t851, (rd_T39 x0_1 x5_1).f1, (rd_T39 x0_1 x5_1).f2, (rd_T39 x0_1 x5_1).f3, (rd_T39 x0_1 x5_1).f4, (rd_T39 x0_1 x5_1).f5, (rd_T39 x0_1 x5_1).f6, (rd_T39 x0_1 x5_1).f7⟩ : S39)) := ⟨_, rfl⟩
          replace H : ((some (y852.set (x5_1 : Int).toNat (⟨(rd_T39 y852 x5_1).f0, wrap64 (x1_1 + 1), (rd_T39 y852 x5_1).f2, (rd_T39 y852 x5_1).f3, (rd_T39 y852 x5_1).f4, (rd_T39 y852 x5_1).f5, (rd_T39 y852 x5_1).f6, (rd_T39 y852 x5_1).f7⟩ : S39) : List (S39))).bind fun y853 => ((laws_markText.f k1 (wrap64 ((wrap64 (x1_1 + 1)) + 1))).bind fun t854 => ((some (y853.set (x5_1 : Int).toNat (⟨(rd_T39 y853 x5_1).f0, (rd_T39 y853 x5_1).f1, t854, (rd_T39 y853 x5_1).f3, (rd_T39 y853 x5_1).f4, (rd_T39 y853 x5_1).f5, (rd_T39 y853 x5_1).f6, (rd_T39 y853 x5_1).f7⟩ : S39) : List (S39))).bind fun y855 => ((laws_markText.f k1 (wrap64 ((wrap64 ((wrap64 (x1_1 + 1)) + 1)) + 1))).bind fun t856 => ((some (y855.set (x5_1 : Int).toNat (⟨(rd_T39 y855 x5_1).f0, (rd_T39 y855 x5_1).f1, (rd_T39 y855 x5_1).f2, t856, (rd_T39 y855 x5_1).f4, (rd_T39 y855 x5_1).f5, (rd_T39 y855 x5_1).f6, (rd_T39 y855 x5_1).f7⟩ : S39) : List (S39))).bind fun y857 => ((some (y857.set (x5_1 : Int).toNat (⟨(rd_T39 y857 x5_1).f0, (rd_T39 y857 x5_1).f1, (rd_T39 y857 x5_1).f2, (rd_T39 y857 x5_1).f3, wrap64 ((wrap64 ((wrap64 ((wrap64 (x1_1 + 1)) + 1)) + 1)) + 1), (rd_T39 y857 x5_1).f5, (rd_T39 y857 x5_1).f6, (rd_T39 y857 x5_1).f7⟩ : S39) : List (S39))).bind fun y858 => ((some (y858.set (x5_1 : Int).toNat (⟨(rd_T39 y858 x5_1).f0, (rd_T39 y858 x5_1).f1, (rd_T39 y858 x5_1).f2, (rd_T39 y858 x5_1).f3, (rd_T39 y858 x5_1).f4, wrap64 ((wrap64 ((wrap64 ((wrap64 ((wrap64 (x1_1 + 1)) + 1)) + 1)) + 1)) + 1), (rd_T39 y858 x5_1).f6, (rd_T39 y858 x5_1).f7⟩ : S39) : List (S39))).bind fun y859 => ((laws_markText.f k1 (wrap64 ((wrap64 ((wrap64 ((wrap64 ((wrap64 ((wrap64 (x1_1 + 1)) + 1)) + 1)) + 1)) + 1)) + 1))).bind fun t860 => ((some (y859.set (x5_1 : Int).toNat (⟨(rd_T39 y859 x5_1).f0, (rd_T39 y859 x5_1).f1, (rd_T39 y859 x5_1).f2, (rd_T39 y859 x5_1).f3, (rd_T39 y859 x5_1).f4, (rd_T39 y859 x5_1).f5, t860, (rd_T39 y859 x5_1).f7⟩ : S39) : List (S39))).bind fun y861 => ((laws_markText.f k1 (wrap64 ((wrap64 ((wrap64 ((wrap64 ((wrap64 ((wrap64 ((wrap64 (x1_1 + 1)) + 1)) + 1)) + 1)) + 1)) + 1)) + 1))).bind fun t862 => (laws_markRecPhaseS.l0 k1 (y861.set (x5_1 : Int).toNat (⟨(rd_T39 y861 x5_1).f0, (rd_T39 y861 x5_1).f1, (rd_T39 y861 x5_1).f2, (rd_T39 y861 x5_1).f3, (rd_T39 y861 x5_1).f4, (rd_T39 y861 x5_1).f5, (rd_T39 y861 x5_1).f6, t862⟩ : S39)) (wrap64 ((wrap64 ((wrap64 ((wrap64 ((wrap64 ((wrap64 ((wrap64 ((wrap64 (x1_1 + 1)) + 1)) + 1)) + 1)) + 1)) + 1)) + 1)) + 1)) (wrap64 (x5_1 + 1))))))))))))) = some (r1, r2) := by first | (rw [hy852]; with_reducible exact H) | (have H2_ := (Option.bind_some _ _).symm.trans H; rw [hy852]; with_reducible exact H2_) | (have H2_ := (Option.bind_some _ _).symm.trans H; with_reducible exact H2_) | with_reducible exact H | (rw [hy852]; exact H) | exact H
          have Ny852 := Aside0.mk hy852
          clear hy852
          obtain ⟨y853, hy853⟩ : ∃ y_ : List (S39), y_ = (y852.set (x5_1 : Int).toNat (⟨(rd_T39 y852 x5_1).f0, wrap64 (x1_1 + 1), (rd_T39 y852 x5_1).f2, (rd_T39 y852 x5_1).f3, (rd_T39 y852 x5_1).f4, (rd_T39 y852 x5_1).f5, (rd_T39 y852 x5_1).f6, (rd_T39 y852 x5_1).f7⟩ : S39)) := ⟨_, rfl⟩
          replace H : ((laws_markText.f k1 (wrap64 ((wrap64 (x1_1 + 1)) + 1))).bind fun t854 => ((some (y853.set (x5_1 : Int).toNat (⟨(rd_T39 y853 x5_1).f0, (rd_T39 y853 x5_1).f1, t854, (rd_T39 y853 x5_1).f3, (rd_T39 y853 x5_1).f4, (rd_T39 y853 x5_1).f5, (rd_T39 y853 x5_1).f6, (rd_T39 y853 x5_1).f7⟩ : S39) : List (S39))).bind fun y855 => ((laws_markText.f k1 (wrap64 ((wrap64 ((wrap64 (x1_1 + 1)) + 1)) + 1))).bind fun t856 => ((some (y855.set (x5_1 : Int).toNat (⟨(rd_T39 y855 x5_1).f0, (rd_T39 y855 x5_1).f1, (rd_T39 y855 x5_1).f2, t856, (rd_T39 y855 x5_1).f4, (rd_T39 y855 x5_1).f5, (rd_T39 y855 x5_1).f6, (rd_T39 y855 x5_1).f7⟩ : S39) : List (S39))).bind fun y857 => ((some (y857.set (x5_1 : Int).toNat (⟨(rd_T39 y857 x5_1).f0, (rd_T39 y857 x5_1).f1, (rd_T39 y857 x5_1).f2, (rd_T39 y857 x5_1).f3, wrap64 ((wrap64 ((wrap64 ((wrap64 (x1_1 + 1)) + 1)) + 1)) + 1), (rd_T39 y857 x5_1).f5, (rd_T39 y857 x5_1).f6, (rd_T39 y857 x5_1).f7⟩ : S39) : List (S39))).bind fun y858 => ((some (y858.set (x5_1 : Int).toNat (⟨(rd_T39 y858 x5_1).f0, (rd_T39 y858 x5_1).f1, (rd_T39 y858 x5_1).f2, (rd_T39 y858 x5_1).f3, (rd_T39 y858 x5_1).f4, wrap64 ((wrap64 ((wrap64 ((wrap64 ((wrap64 (x1_1 + 1)) + 1)) + 1)) + 1)) + 1), (rd_T39 y858 x5_1).f6, (rd_T39 y858 x5_1).f7⟩ : S39) : List (S39))).bind fun y859 => ((laws_markText.f k1 (wrap64 ((wrap64 ((wrap64 ((wrap64 ((wrap64 ((wrap64 (x1_1 + 1)) + 1)) + 1)) + 1)) + 1)) + 1))).bind fun t860 => ((some (y859.set (x5_1 : Int).toNat (⟨(rd_T39 y859 x5_1).f0, (rd_T39 y859 x5_1).f1, (rd_T39 y859 x5_1).f2, (rd_T39 y859 x5_1).f3, (rd_T39 y859 x5_1).f4, (rd_T39 y859 x5_1).f5, t860, (rd_T39 y859 x5_1).f7⟩ : S39) : List (S39))).bind fun y861 => ((laws_markText.f k1 (wrap64 ((wrap64 ((wrap64 ((wrap64 ((wrap64 ((wrap64 ((wrap64 (x1_1 + 1)) + 1)) + 1)) + 1)) + 1)) + 1)) + 1))).bind fun t862 => (laws_markRecPhaseS.l0 k1 (y861.set (x5_1 : Int).toNat (⟨(rd_T39 y861 x5_1).f0, (rd_T39 y861 x5_1).f1, (rd_T39 y861 x5_1).f2, (rd_T39 y861 x5_1).f3, (rd_T39 y861 x5_1).f4, (rd_T39 y861 x5_1).f5, (rd_T39 y861 x5_1).f6, t862⟩ : S39)) (wrap64 ((wrap64 ((wrap64 ((wrap64 ((wrap64 ((wrap64 ((wrap64 ((wrap64 (x1_1 + 1)) + 1)) + 1)) + 1)) + 1)) + 1)) + 1)) + 1)) (wrap64 (x5_1 + 1)))))))))))) = some (r1, r2) := by first | (rw [hy853]; with_reducible exact H) | (have H2_ := (Option.bind_some _ _).symm.trans H; rw [hy853]; with_reducible exact H2_) | (have H2_ := (Option.bind_some _ _).symm.trans H; with_reducible exact H2_) | with_reducible exact H | (rw [hy853]; exact H) | exact H
          have Ny853 := Aside0.mk hy853
          clear hy853
          replace H := Option.bind_eq_some_iff.mp H
          obtain ⟨t854, A80, H⟩ := H
          replace H : ((some (y853.set (x5_1 : Int).toNat (⟨(rd_T39 y853 x5_1).f0, (rd_T39 y853 x5_1).f1, t854, (rd_T39 y853 x5_1).f3, (rd_T39 y853 x5_1).f4, (rd_T39 y853 x5_1).f5, (rd_T39 y853 x5_1).f6, (rd_T39 y853 x5_1).f7⟩ : S39) : List (S39))).bind fun y855 => ((laws_markText.f k1 (wrap64 ((wrap64 ((wrap64 (x1_1 + 1)) + 1)) + 1))).bind fun t856 => ((some (y855.set (x5_1 : Int).toNat (⟨(rd_T39 y855 x5_1).f0, (rd_T39 y855 x5_1).f1, (rd_T39 y855 x5_1).f2, t856, (rd_T39 y855 x5_1).f4, (rd_T39 y855 x5_1).f5, (rd_T39 y855 x5_1).f6, (rd_T39 y855 x5_1).f7⟩ : S39) : List (S39))).bind fun y857 => ((some (y857.set (x5_1 : Int).toNat (⟨(rd_T39 y857 x5_1).f0, (rd_T39 y857 x5_1).f1, (rd_T39 y857 x5_1).f2, (rd_T39 y857 x5_1).f3, wrap64 ((wrap64 ((wrap64 ((wrap64 (x1_1 + 1)) + 1)) + 1)) + 1), (rd_T39 y857 x5_1).f5, (rd_T39 y857 x5_1).f6, (rd_T39 y857 x5_1).f7⟩ : S39) : List (S39))).bind fun y858 => ((some (y858.set (x5_1 : Int).toNat (⟨(rd_T39 y858 x5_1).f0, (rd_T39 y858 x5_1).f1, (rd_T39 y858 x5_1).f2, (rd_T39 y858 x5_1).f3, (rd_T39 y858 x5_1).f4, wrap64 ((wrap64 ((wrap64 ((wrap64 ((wrap64 (x1_1 + 1)) + 1)) + 1)) + 1)) + 1), (rd_T39 y858 x5_1).f6, (rd_T39 y858 x5_1).f7⟩ : S39) : List (S39))).bind fun y859 => ((laws_markText.f k1 (wrap64 ((wrap64 ((wrap64 ((wrap64 ((wrap64 ((wrap64 (x1_1 + 1)) + 1)) + 1)) + 1)) + 1)) + 1))).bind fun t860 => ((some (y859.set (x5_1 : Int).toNat (⟨(rd_T39 y859 x5_1).f0, (rd_T39 y859 x5_1).f1, (rd_T39 y859 x5_1).f2, (rd_T39 y859 x5_1).f3, (rd_T39 y859 x5_1).f4, (rd_T39 y859 x5_1).f5, t860, (rd_T39 y859 x5_1).f7⟩ : S39) : List (S39))).bind fun y861 => ((laws_markText.f k1 (wrap64 ((wrap64 ((wrap64 ((wrap64 ((wrap64 ((wrap64 ((wrap64 (x1_1 + 1)) + 1)) + 1)) + 1)) + 1)) + 1)) + 1))).bind fun t862 => (laws_markRecPhaseS.l0 k1 (y861.set (x5_1 : Int).toNat (⟨(rd_T39 y861 x5_1).f0, (rd_T39 y861 x5_1).f1, (rd_T39 y861 x5_1).f2, (rd_T39 y861 x5_1).f3, (rd_T39 y861 x5_1).f4, (rd_T39 y861 x5_1).f5, (rd_T39 y861 x5_1).f6, t862⟩ : S39)) (wrap64 ((wrap64 ((wrap64 ((wrap64 ((wrap64 ((wrap64 ((wrap64 ((wrap64 (x1_1 + 1)) + 1)) + 1)) + 1)) + 1)) + 1)) + 1)) + 1)) (wrap64 (x5_1 + 1))))))))))) = some (r1, r2) := H
          have A8 := Aside0.mk A80
          clear A80
          obtain ⟨y855, hy855⟩ : ∃ y_ : List (S39), y_ = (y853.set (x5_1 : Int).toNat (⟨(rd_T39 y853 x5_1).f0, (rd_T39 y853 x5_1).f1, t854, (rd_T39 y853 x5_1).f3, (rd_T39 y853 x5_1).f4, (rd_T39 y853 x5_1).f5, (rd_T39 y853 x5_1).f6, (rd_T39 y853 x5_1).f7⟩ : S39)) := ⟨_, rfl⟩
          replace H : ((laws_markText.f k1 (wrap64 ((wrap64 ((wrap64 (x1_1 + 1)) + 1)) + 1))).bind fun t856 => ((some (y855.set (x5_1 : Int).toNat (⟨(rd_T39 y855 x5_1).f0, (rd_T39 y855 x5_1).f1, (rd_T39 y855 x5_1).f2, t856, (rd_T39 y855 x5_1).f4, (rd_T39 y855 x5_1).f5, (rd_T39 y855 x5_1).f6, (rd_T39 y855 x5_1).f7⟩ : S39) : List (S39))).bind fun y857 => ((some (y857.set (x5_1 : Int).toNat (⟨(rd_T39 y857 x5_1).f0, (rd_T39 y857 x5_1).f1, (rd_T39 y857 x5_1).f2, (rd_T39 y857 x5_1).f3, wrap64 ((wrap64 ((wrap64 ((wrap64 (x1_1 + 1)) + 1)) + 1)) + 1), (rd_T39 y857 x5_1).f5, (rd_T39 y857 x5_1).f6, (rd_T39 y857 x5_1).f7⟩ : S39) : List (S39))).bind fun y858 => ((some (y858.set (x5_1 : Int).toNat (⟨(rd_T39 y858 x5_1).f0, (rd_T39 y858 x5_1).f1, (rd_T39 y858 x5_1).f2, (rd_T39 y858 x5_1).f3, (rd_T39 y858 x5_1).f4, wrap64 ((wrap64 ((wrap64 ((wrap64 ((wrap64 (x1_1 + 1)) + 1)) + 1)) + 1)) + 1), (rd_T39 y858 x5_1).f6, (rd_T39 y858 x5_1).f7⟩ : S39) : List (S39))).bind fun y859 => ((laws_markText.f k1 (wrap64 ((wrap64 ((wrap64 ((wrap64 ((wrap64 ((wrap64 (x1_1 + 1)) + 1)) + 1)) + 1)) + 1)) + 1))).bind fun t860 => ((some (y859.set (x5_1 : Int).toNat (⟨(rd_T39 y859 x5_1).f0, (rd_T39 y859 x5_1).f1, (rd_T39 y859 x5_1).f2, (rd_T39 y859 x5_1).f3, (rd_T39 y859 x5_1).f4, (rd_T39 y859 x5_1).f5, t860, (rd_T39 y859 x5_1).f7⟩ : S39) : List (S39))).bind fun y861 => ((laws_markText.f k1 (wrap64 ((wrap64 ((wrap64 ((wrap64 ((wrap64 ((wrap64 ((wrap64 (x1_1 + 1)) + 1)) + 1)) + 1)) + 1)) + 1)) + 1))).bind fun t862 => (laws_markRecPhaseS.l0 k1 (y861.set (x5_1 : Int).toNat (⟨(rd_T39 y861 x5_1).f0, (rd_T39 y861 x5_1).f1, (rd_T39 y861 x5_1).f2, (rd_T39 y861 x5_1).f3, (rd_T39 y861 x5_1).f4, (rd_T39 y861 x5_1).f5, (rd_T39 y861 x5_1).f6, t862⟩ : S39)) (wrap64 ((wrap64 ((wrap64 ((wrap64 ((wrap64 ((wrap64 ((wrap64 ((wrap64 (x1_1 + 1)) + 1)) + 1)) + 1)) + 1)) + 1)) + 1)) + 1)) (wrap64 (x5_1 + 1)))))))))) = some (r1, r2) := by first | (rw [hy855]; with_reducible exact H) | (have H2_ := (Option.bind_some _ _).symm.trans H; rw [hy855]; with_reducible exact H2_) | (have H2_ := (Option.bind_some _ _).symm.trans H; with_reducible exact H2_) | with_reducible exact H | (rw [hy855]; exact H) | exact H
          have Ny855 := Aside0.mk hy855
          clear hy855
          replace H := Option.bind_eq_some_iff.mp H
          obtain ⟨t856, A100, H⟩ := H
          replace H : ((some (y855.set (x5_1 : Int).toNat (⟨(rd_T39 y855 x5_1).f0, (rd_T39 y855 x5_1).f1, (rd_T39 y855 x5_1).f2, t856, (rd_T39 y855 x5_1).f4, (rd_T39 y855 x5_1).f5, (rd_T39 y855 x5_1).f6, (rd_T39 y855 x5_1).f7⟩ : S39) : List (S39))).bind fun y857 => ((some (y857.set (x5_1 : Int).toNat (⟨(rd_T39 y857 x5_1).f0, (rd_T39 y857 x5_1).f1, (rd_T39 y857 x5_1).f2, (rd_T39 y857 x5_1).f3, wrap64 ((wrap64 ((wrap64 ((wrap64 (x1_1 + 1)) + 1)) + 1)) + 1), (rd_T39 y857 x5_1).f5, (rd_T39 y857 x5_1).f6, (rd_T39 y857 x5_1).f7⟩ : S39) : List (S39))).bind fun y858 => ((some (y858.set (x5_1 : Int).toNat (⟨(rd_T39 y858 x5_1).f0, (rd_T39 y858 x5_1).f1, (rd_T39 y858 x5_1).f2, (rd_T39 y858 x5_1).f3, (rd_T39 y858 x5_1).f4, wrap64 ((wrap64 ((wrap64 ((wrap64 ((wrap64 (x1_1 + 1)) + 1)) + 1)) + 1)) + 1), (rd_T39 y858 x5_1).f6, (rd_T39 y858 x5_1).f7⟩ : S39) : List (S39))).bind fun y859 => ((laws_markText.f k1 (wrap64 ((wrap64 ((wrap64 ((wrap64 ((wrap64 ((wrap64 (x1_1 + 1)) + 1)) + 1)) + 1)) + 1)) + 1))).bind fun t860 => ((some (y859.set (x5_1 : Int).toNat (⟨(rd_T39 y859 x5_1).f0, (rd_T39 y859 x5_1).f1, (rd_T39 y859 x5_1).f2, (rd_T39 y859 x5_1).f3, (rd_T39 y859 x5_1).f4, (rd_T39 y859 x5_1).f5, t860, (rd_T39 y859 x5_1).f7⟩ : S39) : List (S39))).bind fun y861 => ((laws_markText.f k1 (wrap64 ((wrap64 ((wrap64 ((wrap64 ((wrap64 ((wrap64 ((wrap64 (x1_1 + 1)) + 1)) + 1)) + 1)) + 1)) + 1)) + 1))).bind fun t862 => (laws_markRecPhaseS.l0 k1 (y861.set (x5_1 : Int).toNat (⟨(rd_T39 y861 x5_1).f0, (rd_T39 y861 x5_1).f1, (rd_T39 y861 x5_1).f2, (rd_T39 y861 x5_1).f3, (rd_T39 y861 x5_1).f4, (rd_T39 y861 x5_1).f5, (rd_T39 y861 x5_1).f6, t862⟩ : S39)) (wrap64 ((wrap64 ((wrap64 ((wrap64 ((wrap64 ((wrap64 ((wrap64 ((wrap64 (x1_1 + 1)) + 1)) + 1)) + 1)) + 1)) + 1)) + 1)) + 1)) (wrap64 (x5_1 + 1))))))))) = some (r1, r2) := H
          have A10 := Aside0.mk A100
          clear A100
          obtain ⟨y857, hy857⟩ : ∃ y_ : List (S39), y_ = (y855.set (x5_1 : Int).toNat (⟨(rd_T39 y855 x5_1).f0, (rd_T39 y855 x5_1).f1, (rd_T39 y855 x5_1).f2, t856, (rd_T39 y855 x5_1).f4, (rd_T39 y855 x5_1).f5, (rd_T39 y855 x5_1).f6, (rd_T39 y855 x5_1).f7⟩ : S39)) := ⟨_, rfl⟩
          replace H : ((some (y857.set (x5_1 : Int).toNat (⟨(rd_T39 y857 x5_1).f0, (rd_T39 y857 x5_1).f1, (rd_T39 y857 x5_1).f2, (rd_T39 y857 x5_1).f3, wrap64 ((wrap64 ((wrap64 ((wrap64 (x1_1 + 1)) + 1)) + 1)) + 1), (rd_T39 y857 x5_1).f5, (rd_T39 y857 x5_1).f6, (rd_T39 y857 x5_1).f7⟩ : S39) : List (S39))).bind fun y858 => ((some (y858.set (x5_1 : Int).toNat (⟨(rd_T39 y858 x5_1).f0, (rd_T39 y858 x5_1).f1, (rd_T39 y858 x5_1).f2, (rd_T39 y858 x5_1).f3, (rd_T39 y858 x5_1).f4, wrap64 ((wrap64 ((wrap64 ((wrap64 ((wrap64 (x1_1 + 1)) + 1)) + 1)) + 1)) + 1), (rd_T39 y858 x5_1).f6, (rd_T39 y858 x5_1).f7⟩ : S39) : List (S39))).bind fun y859 => ((laws_markText.f k1 (wrap64 ((wrap64 ((wrap64 ((wrap64 ((wrap64 ((wrap64 (x1_1 + 1)) + 1)) + 1)) + 1)) + 1)) + 1))).bind fun t860 => ((some (y859.set (x5_1 : Int).toNat (⟨(rd_T39 y859 x5_1).f0, (rd_T39 y859 x5_1).f1, (rd_T39 y859 x5_1).f2, (rd_T39 y859 x5_1).f3, (rd_T39 y859 x5_1).f4, (rd_T39 y859 x5_1).f5, t860, (rd_T39 y859 x5_1).f7⟩ : S39) : List (S39))).bind fun y861 => ((laws_markText.f k1 (wrap64 ((wrap64 ((wrap64 ((wrap64 ((wrap64 ((wrap64 ((wrap64 (x1_1 + 1)) + 1)) + 1)) + 1)) + 1)) + 1)) + 1))).bind fun t862 => (laws_markRecPhaseS.l0 k1 (y861.set (x5_1 : Int).toNat (⟨(rd_T39 y861 x5_1).f0, (rd_T39 y861 x5_1).f1, (rd_T39 y861 x5_1).f2, (rd_T39 y861 x5_1).f3, (rd_T39 y861 x5_1).f4, (rd_T39 y861 x5_1).f5, (rd_T39 y861 x5_1).f6, t862⟩ : S39)) (wrap64 ((wrap64 ((wrap64 ((wrap64 ((wrap64 ((wrap64 ((wrap64 ((wrap64 (x1_1 + 1)) + 1)) + 1)) + 1)) + 1)) + 1)) + 1)) + 1)) (wrap64 (x5_1 + 1)))))))) = some (r1, r2) := by first | (rw [hy857]; with_reducible exact H) | (have H2_ := (Option.bind_some _ _).symm.trans H; rw [hy857]; with_reducible exact H2_) | (have H2_ := (Option.bind_some _ _).symm.trans H; with_reducible exact H2_) | with_reducible exact H | (rw [hy857]; exact H) | exact H
          have Ny857 := Aside0.mk hy857
          clear hy857
          obtain ⟨y858, hy858⟩ : ∃ y_ : List (S39), y_ = (y857.set (x5_1 : Int).toNat (⟨(rd_T39 y857 x5_1).f0, (rd_T39 y857 x5_1).f1, (rd_T39 y857 x5_1).f2, (rd_T39 y857 x5_1).f3, wrap64 ((wrap64 ((wrap64 ((wrap64 (x1_1 + 1)) + 1)) + 1)) + 1), (rd_T39 y857 x5_1).f5, (rd_T39 y857 x5_1).f6, (rd_T39 y857 x5_1).f7⟩ : S39)) := ⟨_, rfl⟩
          replace H : ((some (y858.set (x5_1 : Int).toNat (⟨(rd_T39 y858 x5_1).f0, (rd_T39 y858 x5_1).f1, (rd_T39 y858 x5_1).f2, (rd_T39 y858 x5_1).f3, (rd_T39 y858 x5_1).f4, wrap64 ((wrap64 ((wrap64 ((wrap64 ((wrap64 (x1_1 + 1)) + 1)) + 1)) + 1)) + 1), (rd_T39 y858 x5_1).f6, (rd_T39 y858 x5_1).f7⟩ : S39) : List (S39))).bind fun y859 => ((laws_markText.f k1 (wrap64 ((wrap64 ((wrap64 ((wrap64 ((wrap64 ((wrap64 (x1_1 + 1)) + 1)) + 1)) + 1)) + 1)) + 1))).bind fun t860 => ((some (y859.set (x5_1 : Int).toNat (⟨(rd_T39 y859 x5_1).f0, (rd_T39 y859 x5_1).f1, (rd_T39 y859 x5_1).f2, (rd_T39 y859 x5_1).f3, (rd_T39 y859 x5_1).f4, (rd_T39 y859 x5_1).f5, t860, (rd_T39 y859 x5_1).f7⟩ : S39) : List (S39))).bind fun y861 => ((laws_markText.f k1 (wrap64 ((wrap64 ((wrap64 ((wrap64 ((wrap64 ((wrap64 ((wrap64 (x1_1 + 1)) + 1)) + 1)) + 1)) + 1)) + 1)) + 1))).bind fun t862 => (laws_markRecPhaseS.l0 k1 (y861.set (x5_1 : Int).toNat (⟨(rd_T39 y861 x5_1).f0, (rd_T39 y861 x5_1).f1, (rd_T39 y861 x5_1).f2, (rd_T39 y861 x5_1).f3, (rd_T39 y861 x5_1).f4, (rd_T39 y861 x5_1).f5, (rd_T39 y861 x5_1).f6, t862⟩ : S39)) (wrap64 ((wrap64 ((wrap64 ((wrap64 ((wrap64 ((wrap64 ((wrap64 ((wrap64 (x1_1 + 1)) + 1)) + 1)) + 1)) + 1)) + 1)) + 1)) + 1)) (wrap64 (x5_1 + 1))))))) = some (r1, r2) := by first | (rw [hy858]; with_reducible exact H) | (have H2_ := (Option.bind_some _ _).symm.trans H; rw [hy858]; with_reducible exact H2_) | (have H2_ := (Option.bind_some _ _).symm.trans H; with_reducible exact H2_) | with_reducible exact H | (rw [hy858]; exact H) | exact H
          have Ny858 := Aside0.mk hy858
          clear hy858
          obtain ⟨y859, hy859⟩ : ∃ y_ : List (S39), y_ = (y858.set (x5_1 : Int).toNat (⟨(rd_T39 y858 x5_1).f0, (rd_T39 y858 x5_1).f1, (rd_T39 y858 x5_1).f2, (rd_T39 y858 x5_1).f3, (rd_T39 y858 x5_1).f4, wrap64 ((wrap64 ((wrap64 ((wrap64 ((wrap64 (x1_1 + 1)) + 1)) + 1)) + 1)) + 1), (rd_T39 y858 x5_1).f6, (rd_T39 y858 x5_1).f7⟩ : S39)) := ⟨_, rfl⟩
          replace H : ((laws_markText.f k1 (wrap64 ((wrap64 ((wrap64 ((wrap64 ((wrap64 ((wrap64 (x1_1 + 1)) + 1)) + 1)) + 1)) + 1)) + 1))).bind fun t860 => ((some (y859.set (x5_1 : Int).toNat (⟨(rd_T39 y859 x5_1).f0, (rd_T39 y859 x5_1).f1, (rd_T39 y859 x5_1).f2, (rd_T39 y859 x5_1).f3, (rd_T39 y859 x5_1).f4, (rd_T39 y859 x5_1).f5, t860, (rd_T39 y859 x5_1).f7⟩ : S39) : List (S39))).bind fun y861 => ((laws_markText.f k1 (wrap64 ((wrap64 ((wrap64 ((wrap64 ((wrap64 ((wrap64 ((wrap64 (x1_1 + 1)) + 1)) + 1)) + 1)) + 1)) + 1)) + 1))).bind fun t862 => (laws_markRecPhaseS.l0 k1 (y861.set (x5_1 : Int).toNat (⟨(rd_T39 y861 x5_1).f0, (rd_T39 y861 x5_1).f1, (rd_T39 y861 x5_1).f2, (rd_T39 y861 x5_1).f3, (rd_T39 y861 x5_1).f4, (rd_T39 y861 x5_1).f5, (rd_T39 y861 x5_1).f6, t862⟩ : S39)) (wrap64 ((wrap64 ((wrap64 ((wrap64 ((wrap64 ((wrap64 ((wrap64 ((wrap64 (x1_1 + 1)) + 1)) + 1)) + 1)) + 1)) + 1)) + 1)) + 1)) (wrap64 (x5_1 + 1)))))) = some (r1, r2) := by first | (rw [hy859]; with_reducible exact H) | (have H2_ := (Option.bind_some _ _).symm.trans H; rw [hy859]; with_reducible exact H2_) | (have H2_ := (Option.bind_some _ _).symm.trans H; with_reducible exact H2_) | with_reducible exact H | (rw [hy859]; exact H) | exact H
          have Ny859 := Aside0.mk hy859
          clear hy859
          replace H := Option.bind_eq_some_iff.mp H
          obtain ⟨t860, A140, H⟩ := H
          replace H : ((some (y859.set (x5_1 : Int).toNat (⟨(rd_T39 y859 x5_1).f0, (rd_T39 y859 x5_1).f1, (rd_T39 y859 x5_1).f2, (rd_T39 y859 x5_1).f3, (rd_T39 y859 x5_1).f4, (rd_T39 y859 x5_1).f5, t860, (rd_T39 y859 x5_1).f7⟩ : S39) : List (S39))).bind fun y861 => ((laws_markText.f k1 (wrap64 ((wrap64 ((wrap64 ((wrap64 ((wrap64 ((wrap64 ((wrap64 (x1_1 + 1)) + 1)) + 1)) + 1)) + 1)) + 1)) + 1))).bind fun t862 => (laws_markRecPhaseS.l0 k1 (y861.set (x5_1 : Int).toNat (⟨(rd_T39 y861 x5_1).f0, (rd_T39 y861 x5_1).f1, (rd_T39 y861 x5_1).f2, (rd_T39 y861 x5_1).f3, (rd_T39 y861 x5_1).f4, (rd_T39 y861 x5_1).f5, (rd_T39 y861 x5_1).f6, t862⟩ : S39)) (wrap64 ((wrap64 ((wrap64 ((wrap64 ((wrap64 ((wrap64 ((wrap64 ((wrap64 (x1_1 + 1)) + 1)) + 1)) + 1)) + 1)) + 1)) + 1)) + 1)) (wrap64 (x5_1 + 1))))) = some (r1, r2) := H
          have A14 := Aside0.mk A140
          clear A140
          obtain ⟨y861, hy861⟩ : ∃ y_ : List (S39), y_ = (y859.set (x5_1 : Int).toNat (⟨(rd_T39 y859 x5_1).f0, (rd_T39 y859 x5_1).f1, (rd_T39 y859 x5_1).f2, (rd_T39 y859 x5_1).f3, (rd_T39 y859 x5_1).f4, (rd_T39 y859 x5_1).f5, t860, (rd_T39 y859 x5_1).f7⟩ : S39)) := ⟨_, rfl⟩
          replace H : ((laws_markText.f k1 (wrap64 ((wrap64 ((wrap64 ((wrap64 ((wrap64 ((wrap64 ((wrap64 (x1_1 + 1)) + 1)) + 1)) + 1)) + 1)) + 1)) + 1))).bind fun t862 => (laws_markRecPhaseS.l0 k1 (y861.set (x5_1 : Int).toNat (⟨(rd_T39 y861 x5_1).f0, (rd_T39 y861 x5_1).f1, (rd_T39 y861 x5_1).f2, (rd_T39 y861 x5_1).f3, (rd_T39 y861 x5_1).f4, (rd_T39 y861 x5_1).f5, (rd_T39 y861 x5_1).f6, t862⟩ : S39)) (wrap64 ((wrap64 ((wrap64 ((wrap64 ((wrap64 ((wrap64 ((wrap64 ((wrap64 (x1_1 + 1)) + 1)) + 1)) + 1)) + 1)) + 1)) + 1)) + 1)) (wrap64 (x5_1 + 1)))) = some (r1, r2) := by first | (rw [hy861]; with_reducible exact H) | (have H2_ := (Option.bind_some _ _).symm.trans H; rw [hy861]; with_reducible exact H2_) | (have H2_ := (Option.bind_some _ _).symm.trans H; with_reducible exact H2_) | with_reducible exact H | (rw [hy861]; exact H) | exact H
          have Ny861 := Aside0.mk hy861
          clear hy861
          replace H := Option.bind_eq_some_iff.mp H
          obtain ⟨t862, A160, H⟩ := H
          replace H : (laws_markRecPhaseS.l0 k1 (y861.set (x5_1 : Int).toNat (⟨(rd_T39 y861 x5_1).f0, (rd_T39 y861 x5_1).f1, (rd_T39 y861 x5_1).f2, (rd_T39 y861 x5_1).f3, (rd_T39 y861 x5_1).f4, (rd_T39 y861 x5_1).f5, (rd_T39 y861 x5_1).f6, t862⟩ : S39)) (wrap64 ((wrap64 ((wrap64 ((wrap64 ((wrap64 ((wrap64 ((wrap64 ((wrap64 (x1_1 + 1)) + 1)) + 1)) + 1)) + 1)) + 1)) + 1)) + 1)) (wrap64 (x5_1 + 1))) = some (r1, r2) := H
          have A16 := Aside0.mk A160
          clear A160
          obtain ⟨y863, hy863⟩ : ∃ y_ : List (S39), y_ = (y861.set (x5_1 : Int).toNat (⟨(rd_T39 y861 x5_1).f0, (rd_T39 y861 x5_1).f1, (rd_T39 y861 x5_1).f2, (rd_T39 y861 x5_1).f3, (rd_T39 y861 x5_1).f4, (rd_T39 y861 x5_1).f5, (rd_T39 y861 x5_1).f6, t862⟩ : S39)) := ⟨_, rfl⟩
          replace H : (laws_markRecPhaseS.l0 k1 y863 (wrap64 ((wrap64 ((wrap64 ((wrap64 ((wrap64 ((wrap64 ((wrap64 ((wrap64 (x1_1 + 1)) + 1)) + 1)) + 1)) + 1)) + 1)) + 1)) + 1)) (wrap64 (x5_1 + 1))) = some (r1, r2) := by first | (rw [hy863]; with_reducible exact H) | (have H2_ := (Option.bind_some _ _).symm.trans H; rw [hy863]; with_reducible exact H2_) | (have H2_ := (Option.bind_some _ _).symm.trans H; with_reducible exact H2_) | with_reducible exact H | (rw [hy863]; exact H) | exact H
          have Ny863 := Aside0.mk hy863
          clear hy863
          have H' := Aside0.mk H
          clear H
          obtain ⟨Ao18, co18, eo18⟩ := Kd.R_slice HO_0.out
          subst eo18
          go_wp2_with (first | ((with_reducible refine gate_callee (f := 90) rfl ?_); refine goesL_ (some 15) rfl rfl Try.func90 (by kernel_rfl) rfl #[.int .i64 x1_1] rfl mxp ?_; (with_reducible refine (laws_markText.calls k1 x1_1 t851 _ A4.out).mono ?_); rintro e w19 ⟨rfl, hb⟩; refine ⟨_, rfl, ?_⟩; have n0_ := Aside0.mk (Kd.R_below (rx HO_0.out) hb); have n1_ := Aside0.mk (Kept.below (S := (fun k_ => P0_ k_)) (by repeat (first | (with_reducible first | exact HK.out | apply Kept.alloc | apply Kept.drewN | apply Kept.drew) | exact HK.out)) hb); have n2_ := bs HB hb; clear HO_0; clear HK; clear HB; have HO_0 := n0_; have HK := n1_; have HB := n2_; clear n0_ n1_ n2_; (try clear hb); (try clear hb2); (try clear hk); (try clear hi); have p6 : 0 ≤ (x5_1 : Int) := of_decide_eq_true (by first | (with_reducible assumption) | assumption); have q6 : (x5_1 : Int) < ((x0_1.length : Int) : Int) := of_decide_eq_true (by first | (with_reducible assumption) | assumption); obtain ⟨go6, co6, eo6, gb6, gl6, cl6, HG6⟩ := Kd.R_form HO_0.out (by omega); (first | cases eo6 | (injection eo6 with ea_ en_ ec_; (first | subst ea_ | (injection ea_ with ea_; subst ea_)); subst ec_; clear en_)); have GB6 := Aside0.mk gb6; have GG6 := Aside0.mk HG6; clear gb6 gl6 HG6; have HMgo6 := Aside0.mk (show (P0_ go6 ∨ w.heap.size ≤ go6) from (HO_0.out.1 _ rfl)); obtain ⟨ce6, hcl6, hM6, hcc6, hfr6⟩ := Kd.R_elem HO_0.out z39 (x5_1 : Int) p6 q6; obtain rfl := k39_openM hM6; have hx6_0 : w19.cell? ⟨go6, (x5_1 : Int).toNat * 8, none⟩ = some (.string ((rd_T39 x0_1 x5_1).f0)) := hcc6 0 _ rfl; have hx6_1 : w19.cell? ⟨go6, (x5_1 : Int).toNat * 8 + 1, none⟩ = some (.int .i64 ((rd_T39 x0_1 x5_1).f1)) := hcc6 1 _ rfl; have hx6_2 : w19.cell? ⟨go6, (x5_1 : Int).toNat * 8 + 2, none⟩ = some (.string ((rd_T39 x0_1 x5_1).f2)) := hcc6 2 _ rfl; have hx6_3 : w19.cell? ⟨go6, (x5_1 : Int).toNat * 8 + 3, none⟩ = some (.string ((rd_T39 x0_1 x5_1).f3)) := hcc6 3 _ rfl; have hx6_4 : w19.cell? ⟨go6, (x5_1 : Int).toNat * 8 + 4, none⟩ = some (.int .i64 ((rd_T39 x0_1 x5_1).f4)) := hcc6 4 _ rfl; have hx6_5 : w19.cell? ⟨go6, (x5_1 : Int).toNat * 8 + 5, none⟩ = some (.int .i64 ((rd_T39 x0_1 x5_1).f5)) := hcc6 5 _ rfl; have hx6_6 : w19.cell? ⟨go6, (x5_1 : Int).toNat * 8 + 6, none⟩ = some (.string ((rd_T39 x0_1 x5_1).f6)) := hcc6 6 _ rfl; have hx6_7 : w19.cell? ⟨go6, (x5_1 : Int).toNat * 8 + 7, none⟩ = some (.string ((rd_T39 x0_1 x5_1).f7)) := hcc6 7 _ rfl; have hf6_0 : w19.frozen? ⟨go6, (x5_1 : Int).toNat * 8, none⟩ = false := hfr6 0; have hf6_1 : w19.frozen? ⟨go6, (x5_1 : Int).toNat * 8 + 1, none⟩ = false := hfr6 1; have hf6_2 : w19.frozen? ⟨go6, (x5_1 : Int).toNat * 8 + 2, none⟩ = false := hfr6 2; have hf6_3 : w19.frozen? ⟨go6, (x5_1 : Int).toNat * 8 + 3, none⟩ = false := hfr6 3; have hf6_4 : w19.frozen? ⟨go6, (x5_1 : Int).toNat * 8 + 4, none⟩ = false := hfr6 4; have hf6_5 : w19.frozen? ⟨go6, (x5_1 : Int).toNat * 8 + 5, none⟩ = false := hfr6 5; have hf6_6 : w19.frozen? ⟨go6, (x5_1 : Int).toNat * 8 + 6, none⟩ = false := hfr6 6; have hf6_7 : w19.frozen? ⟨go6, (x5_1 : Int).toNat * 8 + 7, none⟩ = false := hfr6 7; clear hcl6 hcc6 hfr6 hM6; replace p6 := eq_true p6; replace q6 := eq_true q6; have HX20 := Aside0.mk (show Kd.R k39 39 w19 w0.heap.size (fun k_ => (P0_ k_ ∨ w.heap.size ≤ k_)) (.slice (some ⟨go6, 0, none⟩) x0_1.length co18) x0_1 from (rx HO_0.out)); obtain ⟨ce20, hcl20, hM20, hcc20, hfr20⟩ := Kd.R_elem HX20.out z39 (x5_1 : Int) (of_decide_eq_true (by first | (with_reducible assumption) | assumption)) (by have h_ : (x5_1 : Int) < ((x0_1.length : Int) : Int) := of_decide_eq_true (by first | (with_reducible assumption) | assumption); first | exact h_ | (have e_ := (Kd.R_reads' HO_0.out).1; omega) | simpa using h_); obtain rfl := k39_openM hM20; have HP20 := Kd.R_seg HX20.out (x5_1 : Int) (of_decide_eq_true (by first | (with_reducible assumption) | assumption)) (by have h_ : (x5_1 : Int) < ((x0_1.length : Int) : Int) := of_decide_eq_true (by first | (with_reducible assumption) | assumption); first | exact h_ | (have e_ := (Kd.R_reads' HO_0.out).1; omega) | simpa using h_) (seg := [.string t851]) (j := 0) hcl20 hcc20 (show 1 ≤ 8 from by decide) (x' := (⟨t851, (rd_T39 x0_1 x5_1).f1, (rd_T39 x0_1 x5_1).f2, (rd_T39 x0_1 x5_1).f3, (rd_T39 x0_1 x5_1).f4, (rd_T39 x0_1 x5_1).f5, (rd_T39 x0_1 x5_1).f6, (rd_T39 x0_1 x5_1).f7⟩ : S39)) (k39_mkM _ _ _ (⟨t851, (rd_T39 x0_1 x5_1).f1, (rd_T39 x0_1 x5_1).f2, (rd_T39 x0_1 x5_1).f3, (rd_T39 x0_1 x5_1).f4, (rd_T39 x0_1 x5_1).f5, (rd_T39 x0_1 x5_1).f6, (rd_T39 x0_1 x5_1).f7⟩ : S39) ) (fun _ hk => hk); have hx20_0 := hcc20 0 _ rfl; (try simp only [show (k39).sz = 8 from rfl, Nat.mul_one, Nat.add_zero] at hx20_0); have hf20_0 := hfr20 0; (try simp only [show (k39).sz = 8 from rfl, Nat.mul_one, Nat.add_zero] at hf20_0); clear hcl20 hcc20 hfr20 hM20) | ((with_reducible refine gate_store (t := 9) (p := 17) rfl ?_); refine store_event (t := 9) (p := 17) (v := ?vo_w21) (w1 := (w19.setCell ⟨go6, (x5_1 : Int).toNat * 8, none⟩ (.string t851))) ?hg ?ho ?hn ?hr ?_; (case ho => rfl); (case hg => rfl); (case hn => rfl); (case hr => first | (go_simp; done) | (go_simp; rfl)); intro w21 hw; have hg : w19.grownBy w21 (some go6) := (by rw [hw]; exact HP20.2); have hp_ : Kd.R k39 39 w21 w0.heap.size (fun k_ => (P0_ k_ ∨ w.heap.size ≤ k_)) (.slice (some ⟨go6, 0, none⟩) x0_1.length co18) y852 := (by rw [hw, Ny852.out]; exact HP20.1); clear HP20; have n0_ := Aside0.mk (hp_); have n1_ := Aside0.mk ((by rw [hw]; exact below_set (HB.out) GB6.out : Below w0.heap.size w0 w21)); have n2_ := Aside0.mk (Kept.of_grown (S := (fun k_ => P0_ k_)) hg (by repeat (first | (with_reducible first | exact HK.out | apply Kept.alloc | apply Kept.drewN | apply Kept.drew) | exact HK.out)) (fun k_ e_ => (HO_0.out.1 k_ e_))); clear HO_0; clear HB; clear HK; have HO_0 := n0_; have HB := n1_; have HK := n2_; clear n0_ n1_ n2_; clear hg hw hp_; have p7 : 0 ≤ (x5_1 : Int) := of_decide_eq_true (by first | (with_reducible assumption) | assumption); have q7 : (x5_1 : Int) < ((x0_1.length : Int) : Int) := of_decide_eq_true (by first | (with_reducible assumption) | assumption); obtain ⟨ce7, hcl7, hM7, hcc7, hfr7⟩ := Kd.R_elem HO_0.out z39 (x5_1 : Int) p7 q7; obtain rfl := k39_openM hM7; have hx7_0 : w21.cell? ⟨go6, (x5_1 : Int).toNat * 8, none⟩ = some (.string ((rd_T39 y852 x5_1).f0)) := hcc7 0 _ rfl; have hx7_1 : w21.cell? ⟨go6, (x5_1 : Int).toNat * 8 + 1, none⟩ = some (.int .i64 ((rd_T39 y852 x5_1).f1)) := hcc7 1 _ rfl; have hx7_2 : w21.cell? ⟨go6, (x5_1 : Int).toNat * 8 + 2, none⟩ = some (.string ((rd_T39 y852 x5_1).f2)) := hcc7 2 _ rfl; have hx7_3 : w21.cell? ⟨go6, (x5_1 : Int).toNat * 8 + 3, none⟩ = some (.string ((rd_T39 y852 x5_1).f3)) := hcc7 3 _ rfl; have hx7_4 : w21.cell? ⟨go6, (x5_1 : Int).toNat * 8 + 4, none⟩ = some (.int .i64 ((rd_T39 y852 x5_1).f4)) := hcc7 4 _ rfl; have hx7_5 : w21.cell? ⟨go6, (x5_1 : Int).toNat * 8 + 5, none⟩ = some (.int .i64 ((rd_T39 y852 x5_1).f5)) := hcc7 5 _ rfl; have hx7_6 : w21.cell? ⟨go6, (x5_1 : Int).toNat * 8 + 6, none⟩ = some (.string ((rd_T39 y852 x5_1).f6)) := hcc7 6 _ rfl; have hx7_7 : w21.cell? ⟨go6, (x5_1 : Int).toNat * 8 + 7, none⟩ = some (.string ((rd_T39 y852 x5_1).f7)) := hcc7 7 _ rfl; have hf7_0 : w21.frozen? ⟨go6, (x5_1 : Int).toNat * 8, none⟩ = false := hfr7 0; have hf7_1 : w21.frozen? ⟨go6, (x5_1 : Int).toNat * 8 + 1, none⟩ = false := hfr7 1; have hf7_2 : w21.frozen? ⟨go6, (x5_1 : Int).toNat * 8 + 2, none⟩ = false := hfr7 2; have hf7_3 : w21.frozen? ⟨go6, (x5_1 : Int).toNat * 8 + 3, none⟩ = false := hfr7 3; have hf7_4 : w21.frozen? ⟨go6, (x5_1 : Int).toNat * 8 + 4, none⟩ = false := hfr7 4; have hf7_5 : w21.frozen? ⟨go6, (x5_1 : Int).toNat * 8 + 5, none⟩ = false := hfr7 5; have hf7_6 : w21.frozen? ⟨go6, (x5_1 : Int).toNat * 8 + 6, none⟩ = false := hfr7 6; have hf7_7 : w21.frozen? ⟨go6, (x5_1 : Int).toNat * 8 + 7, none⟩ = false := hfr7 7; clear hcl7 hcc7 hfr7 hM7; replace p7 := eq_true p7; replace q7 := eq_true q7; have HX22 := Aside0.mk (show Kd.R k39 39 w21 w0.heap.size (fun k_ => (P0_ k_ ∨ w.heap.size ≤ k_)) (.slice (some ⟨go6, 0, none⟩) x0_1.length co18) y852 from (rx HO_0.out)); obtain ⟨ce22, hcl22, hM22, hcc22, hfr22⟩ := Kd.R_elem HX22.out z39 (x5_1 : Int) (of_decide_eq_true (by first | (with_reducible assumption) | assumption)) (by have h_ : (x5_1 : Int) < ((x0_1.length : Int) : Int) := of_decide_eq_true (by first | (with_reducible assumption) | assumption); first | exact h_ | (have e_ := (Kd.R_reads' HO_0.out).1; omega) | simpa using h_); obtain rfl := k39_openM hM22; have HP22 := Kd.R_seg HX22.out (x5_1 : Int) (of_decide_eq_true (by first | (with_reducible assumption) | assumption)) (by have h_ : (x5_1 : Int) < ((x0_1.length : Int) : Int) := of_decide_eq_true (by first | (with_reducible assumption) | assumption); first | exact h_ | (have e_ := (Kd.R_reads' HO_0.out).1; omega) | simpa using h_) (seg := [.int .i64 (wrap64 (x1_1 + 1))]) (j := 1) hcl22 hcc22 (show 2 ≤ 8 from by decide) (x' := (⟨(rd_T39 y852 x5_1).f0, wrap64 (x1_1 + 1), (rd_T39 y852 x5_1).f2, (rd_T39 y852 x5_1).f3, (rd_T39 y852 x5_1).f4, (rd_T39 y852 x5_1).f5, (rd_T39 y852 x5_1).f6, (rd_T39 y852 x5_1).f7⟩ : S39)) (k39_mkM _ _ _ (⟨(rd_T39 y852 x5_1).f0, wrap64 (x1_1 + 1), (rd_T39 y852 x5_1).f2, (rd_T39 y852 x5_1).f3, (rd_T39 y852 x5_1).f4, (rd_T39 y852 x5_1).f5, (rd_T39 y852 x5_1).f6, (rd_T39 y852 x5_1).f7⟩ : S39) ) (fun _ hk => hk); have hx22_1 := hcc22 1 _ rfl; (try simp only [show (k39).sz = 8 from rfl, Nat.mul_one, Nat.add_zero] at hx22_1); have hf22_1 := hfr22 1; (try simp only [show (k39).sz = 8 from rfl, Nat.mul_one, Nat.add_zero] at hf22_1); clear hcl22 hcc22 hfr22 hM22) | ((with_reducible refine gate_store (t := 3) (p := 24) rfl ?_); refine store_event (t := 3) (p := 24) (v := ?vo_w23) (w1 := (w21.setCell ⟨go6, (x5_1 : Int).toNat * 8 + 1, none⟩ (.int .i64 (wrap64 (x1_1 + 1))))) ?hg ?ho ?hn ?hr ?_; (case ho => rfl); (case hg => rfl); (case hn => rfl); (case hr => first | (go_simp; done) | (go_simp; rfl)); intro w23 hw; have hg : w21.grownBy w23 (some go6) := (by rw [hw]; exact HP22.2); have hp_ : Kd.R k39 39 w23 w0.heap.size (fun k_ => (P0_ k_ ∨ w.heap.size ≤ k_)) (.slice (some ⟨go6, 0, none⟩) x0_1.length co18) y853 := (by rw [hw, Ny853.out]; exact HP22.1); clear HP22; have n0_ := Aside0.mk (hp_); have n1_ := Aside0.mk ((by rw [hw]; exact below_set (HB.out) GB6.out : Below w0.heap.size w0 w23)); have n2_ := Aside0.mk (Kept.of_grown (S := (fun k_ => P0_ k_)) hg (by repeat (first | (with_reducible first | exact HK.out | apply Kept.alloc | apply Kept.drewN | apply Kept.drew) | exact HK.out)) (fun k_ e_ => (HO_0.out.1 k_ e_))); clear HO_0; clear HB; clear HK; have HO_0 := n0_; have HB := n1_; have HK := n2_; clear n0_ n1_ n2_; clear hg hw hp_) | ((with_reducible refine gate_callee (f := 90) rfl ?_); refine goesL_ (some 30) rfl rfl Try.func90 (by kernel_rfl) rfl #[.int .i64 (wrap64 ((wrap64 (x1_1 + 1)) + 1))] rfl mxp ?_; (with_reducible refine (laws_markText.calls k1 (wrap64 ((wrap64 (x1_1 + 1)) + 1)) t854 _ A8.out).mono ?_); rintro e w24 ⟨rfl, hb⟩; refine ⟨_, rfl, ?_⟩; have n0_ := Aside0.mk (Kd.R_below (rx HO_0.out) hb); have n1_ := Aside0.mk (Kept.below (S := (fun k_ => P0_ k_)) (by repeat (first | (with_reducible first | exact HK.out | apply Kept.alloc | apply Kept.drewN | apply Kept.drew) | exact HK.out)) hb); have n2_ := bs HB hb; clear HO_0; clear HK; clear HB; have HO_0 := n0_; have HK := n1_; have HB := n2_; clear n0_ n1_ n2_; (try clear hb); (try clear hb2); (try clear hk); (try clear hi); have p9 : 0 ≤ (x5_1 : Int) := of_decide_eq_true (by first | (with_reducible assumption) | assumption); have q9 : (x5_1 : Int) < ((x0_1.length : Int) : Int) := of_decide_eq_true (by first | (with_reducible assumption) | assumption); obtain ⟨ce9, hcl9, hM9, hcc9, hfr9⟩ := Kd.R_elem HO_0.out z39 (x5_1 : Int) p9 q9; obtain rfl := k39_openM hM9; have hx9_0 : w24.cell? ⟨go6, (x5_1 : Int).toNat * 8, none⟩ = some (.string ((rd_T39 y853 x5_1).f0)) := hcc9 0 _ rfl; have hx9_1 : w24.cell? ⟨go6, (x5_1 : Int).toNat * 8 + 1, none⟩ = some (.int .i64 ((rd_T39 y853 x5_1).f1)) := hcc9 1 _ rfl; have hx9_2 : w24.cell? ⟨go6, (x5_1 : Int).toNat * 8 + 2, none⟩ = some (.string ((rd_T39 y853 x5_1).f2)) := hcc9 2 _ rfl; have hx9_3 : w24.cell? ⟨go6, (x5_1 : Int).toNat * 8 + 3, none⟩ = some (.string ((rd_T39 y853 x5_1).f3)) := hcc9 3 _ rfl; have hx9_4 : w24.cell? ⟨go6, (x5_1 : Int).toNat * 8 + 4, none⟩ = some (.int .i64 ((rd_T39 y853 x5_1).f4)) := hcc9 4 _ rfl; have hx9_5 : w24.cell? ⟨go6, (x5_1 : Int).toNat * 8 + 5, none⟩ = some (.int .i64 ((rd_T39 y853 x5_1).f5)) := hcc9 5 _ rfl; have hx9_6 : w24.cell? ⟨go6, (x5_1 : Int).toNat * 8 + 6, none⟩ = some (.string ((rd_T39 y853 x5_1).f6)) := hcc9 6 _ rfl; have hx9_7 : w24.cell? ⟨go6, (x5_1 : Int).toNat * 8 + 7, none⟩ = some (.string ((rd_T39 y853 x5_1).f7)) := hcc9 7 _ rfl; have hf9_0 : w24.frozen? ⟨go6, (x5_1 : Int).toNat * 8, none⟩ = false := hfr9 0; have hf9_1 : w24.frozen? ⟨go6, (x5_1 : Int).toNat * 8 + 1, none⟩ = false := hfr9 1; have hf9_2 : w24.frozen? ⟨go6, (x5_1 : Int).toNat * 8 + 2, none⟩ = false := hfr9 2; have hf9_3 : w24.frozen? ⟨go6, (x5_1 : Int).toNat * 8 + 3, none⟩ = false := hfr9 3; have hf9_4 : w24.frozen? ⟨go6, (x5_1 : Int).toNat * 8 + 4, none⟩ = false := hfr9 4; have hf9_5 : w24.frozen? ⟨go6, (x5_1 : Int).toNat * 8 + 5, none⟩ = false := hfr9 5; have hf9_6 : w24.frozen? ⟨go6, (x5_1 : Int).toNat * 8 + 6, none⟩ = false := hfr9 6; have hf9_7 : w24.frozen? ⟨go6, (x5_1 : Int).toNat * 8 + 7, none⟩ = false := hfr9 7; clear hcl9 hcc9 hfr9 hM9; replace p9 := eq_true p9; replace q9 := eq_true q9; have HX25 := Aside0.mk (show Kd.R k39 39 w24 w0.heap.size (fun k_ => (P0_ k_ ∨ w.heap.size ≤ k_)) (.slice (some ⟨go6, 0, none⟩) x0_1.length co18) y853 from (rx HO_0.out)); obtain ⟨ce25, hcl25, hM25, hcc25, hfr25⟩ := Kd.R_elem HX25.out z39 (x5_1 : Int) (of_decide_eq_true (by first | (with_reducible assumption) | assumption)) (by have h_ : (x5_1 : Int) < ((x0_1.length : Int) : Int) := of_decide_eq_true (by first | (with_reducible assumption) | assumption); first | exact h_ | (have e_ := (Kd.R_reads' HO_0.out).1; omega) | simpa using h_); obtain rfl := k39_openM hM25; have HP25 := Kd.R_seg HX25.out (x5_1 : Int) (of_decide_eq_true (by first | (with_reducible assumption) | assumption)) (by have h_ : (x5_1 : Int) < ((x0_1.length : Int) : Int) := of_decide_eq_true (by first | (with_reducible assumption) | assumption); first | exact h_ | (have e_ := (Kd.R_reads' HO_0.out).1; omega) | simpa using h_) (seg := [.string t854]) (j := 2) hcl25 hcc25 (show 3 ≤ 8 from by decide) (x' := (⟨(rd_T39 y853 x5_1).f0, (rd_T39 y853 x5_1).f1, t854, (rd_T39 y853 x5_1).f3, (rd_T39 y853 x5_1).f4, (rd_T39 y853 x5_1).f5, (rd_T39 y853 x5_1).f6, (rd_T39 y853 x5_1).f7⟩ : S39)) (k39_mkM _ _ _ (⟨(rd_T39 y853 x5_1).f0, (rd_T39 y853 x5_1).f1, t854, (rd_T39 y853 x5_1).f3, (rd_T39 y853 x5_1).f4, (rd_T39 y853 x5_1).f5, (rd_T39 y853 x5_1).f6, (rd_T39 y853 x5_1).f7⟩ : S39) ) (fun _ hk => hk); have hx25_2 := hcc25 2 _ rfl; (try simp only [show (k39).sz = 8 from rfl, Nat.mul_one, Nat.add_zero] at hx25_2); have hf25_2 := hfr25 2; (try simp only [show (k39).sz = 8 from rfl, Nat.mul_one, Nat.add_zero] at hf25_2); clear hcl25 hcc25 hfr25 hM25) | ((with_reducible refine gate_store (t := 9) (p := 32) rfl ?_); refine store_event (t := 9) (p := 32) (v := ?vo_w26) (w1 := (w24.setCell ⟨go6, (x5_1 : Int).toNat * 8 + 2, none⟩ (.string t854))) ?hg ?ho ?hn ?hr ?_; (case ho => rfl); (case hg => rfl); (case hn => rfl); (case hr => first | (go_simp; done) | (go_simp; rfl)); intro w26 hw; have hg : w24.grownBy w26 (some go6) := (by rw [hw]; exact HP25.2); have hp_ : Kd.R k39 39 w26 w0.heap.size (fun k_ => (P0_ k_ ∨ w.heap.size ≤ k_)) (.slice (some ⟨go6, 0, none⟩) x0_1.length co18) y855 := (by rw [hw, Ny855.out]; exact HP25.1); clear HP25; have n0_ := Aside0.mk (hp_); have n1_ := Aside0.mk ((by rw [hw]; exact below_set (HB.out) GB6.out : Below w0.heap.size w0 w26)); have n2_ := Aside0.mk (Kept.of_grown (S := (fun k_ => P0_ k_)) hg (by repeat (first | (with_reducible first | exact HK.out | apply Kept.alloc | apply Kept.drewN | apply Kept.drew) | exact HK.out)) (fun k_ e_ => (HO_0.out.1 k_ e_))); clear HO_0; clear HB; clear HK; have HO_0 := n0_; have HB := n1_; have HK := n2_; clear n0_ n1_ n2_; clear hg hw hp_) | ((with_reducible refine gate_callee (f := 90) rfl ?_); refine goesL_ (some 38) rfl rfl Try.func90 (by kernel_rfl) rfl #[.int .i64 (wrap64 ((wrap64 ((wrap64 (x1_1 + 1)) + 1)) + 1))] rfl mxp ?_; (with_reducible refine (laws_markText.calls k1 (wrap64 ((wrap64 ((wrap64 (x1_1 + 1)) + 1)) + 1)) t856 _ A10.out).mono ?_); rintro e w27 ⟨rfl, hb⟩; refine ⟨_, rfl, ?_⟩; have n0_ := Aside0.mk (Kd.R_below (rx HO_0.out) hb); have n1_ := Aside0.mk (Kept.below (S := (fun k_ => P0_ k_)) (by repeat (first | (with_reducible first | exact HK.out | apply Kept.alloc | apply Kept.drewN | apply Kept.drew) | exact HK.out)) hb); have n2_ := bs HB hb; clear HO_0; clear HK; clear HB; have HO_0 := n0_; have HK := n1_; have HB := n2_; clear n0_ n1_ n2_; (try clear hb); (try clear hb2); (try clear hk); (try clear hi); have p11 : 0 ≤ (x5_1 : Int) := of_decide_eq_true (by first | (with_reducible assumption) | assumption); have q11 : (x5_1 : Int) < ((x0_1.length : Int) : Int) := of_decide_eq_true (by first | (with_reducible assumption) | assumption); obtain ⟨ce11, hcl11, hM11, hcc11, hfr11⟩ := Kd.R_elem HO_0.out z39 (x5_1 : Int) p11 q11; obtain rfl := k39_openM hM11; have hx11_0 : w27.cell? ⟨go6, (x5_1 : Int).toNat * 8, none⟩ = some (.string ((rd_T39 y855 x5_1).f0)) := hcc11 0 _ rfl; have hx11_1 : w27.cell? ⟨go6, (x5_1 : Int).toNat * 8 + 1, none⟩ = some (.int .i64 ((rd_T39 y855 x5_1).f1)) := hcc11 1 _ rfl; have hx11_2 : w27.cell? ⟨go6, (x5_1 : Int).toNat * 8 + 2, none⟩ = some (.string ((rd_T39 y855 x5_1).f2)) := hcc11 2 _ rfl; have hx11_3 : w27.cell? ⟨go6, (x5_1 : Int).toNat * 8 + 3, none⟩ = some (.string ((rd_T39 y855 x5_1).f3)) := hcc11 3 _ rfl; have hx11_4 : w27.cell? ⟨go6, (x5_1 : Int).toNat * 8 + 4, none⟩ = some (.int .i64 ((rd_T39 y855 x5_1).f4)) := hcc11 4 _ rfl; have hx11_5 : w27.cell? ⟨go6, (x5_1 : Int).toNat * 8 + 5, none⟩ = some (.int .i64 ((rd_T39 y855 x5_1).f5)) := hcc11 5 _ rfl; have hx11_6 : w27.cell? ⟨go6, (x5_1 : Int).toNat * 8 + 6, none⟩ = some (.string ((rd_T39 y855 x5_1).f6)) := hcc11 6 _ rfl; have hx11_7 : w27.cell? ⟨go6, (x5_1 : Int).toNat * 8 + 7, none⟩ = some (.string ((rd_T39 y855 x5_1).f7)) := hcc11 7 _ rfl; have hf11_0 : w27.frozen? ⟨go6, (x5_1 : Int).toNat * 8, none⟩ = false := hfr11 0; have hf11_1 : w27.frozen? ⟨go6, (x5_1 : Int).toNat * 8 + 1, none⟩ = false := hfr11 1; have hf11_2 : w27.frozen? ⟨go6, (x5_1 : Int).toNat * 8 + 2, none⟩ = false := hfr11 2; have hf11_3 : w27.frozen? ⟨go6, (x5_1 : Int).toNat * 8 + 3, none⟩ = false := hfr11 3; have hf11_4 : w27.frozen? ⟨go6, (x5_1 : Int).toNat * 8 + 4, none⟩ = false := hfr11 4; have hf11_5 : w27.frozen? ⟨go6, (x5_1 : Int).toNat * 8 + 5, none⟩ = false := hfr11 5; have hf11_6 : w27.frozen? ⟨go6, (x5_1 : Int).toNat * 8 + 6, none⟩ = false := hfr11 6; have hf11_7 : w27.frozen? ⟨go6, (x5_1 : Int).toNat * 8 + 7, none⟩ = false := hfr11 7; clear hcl11 hcc11 hfr11 hM11; replace p11 := eq_true p11; replace q11 := eq_true q11; have HX28 := Aside0.mk (show Kd.R k39 39 w27 w0.heap.size (fun k_ => (P0_ k_ ∨ w.heap.size ≤ k_)) (.slice (some ⟨go6, 0, none⟩) x0_1.length co18) y855 from (rx HO_0.out)); obtain ⟨ce28, hcl28, hM28, hcc28, hfr28⟩ := Kd.R_elem HX28.out z39 (x5_1 : Int) (of_decide_eq_true (by first | (with_reducible assumption) | assumption)) (by have h_ : (x5_1 : Int) < ((x0_1.length : Int) : Int) := of_decide_eq_true (by first | (with_reducible assumption) | assumption); first | exact h_ | (have e_ := (Kd.R_reads' HO_0.out).1; omega) | simpa using h_); obtain rfl := k39_openM hM28; have HP28 := Kd.R_seg HX28.out (x5_1 : Int) (of_decide_eq_true (by first | (with_reducible assumption) | assumption)) (by have h_ : (x5_1 : Int) < ((x0_1.length : Int) : Int) := of_decide_eq_true (by first | (with_reducible assumption) | assumption); first | exact h_ | (have e_ := (Kd.R_reads' HO_0.out).1; omega) | simpa using h_) (seg := [.string t856]) (j := 3) hcl28 hcc28 (show 4 ≤ 8 from by decide) (x' := (⟨(rd_T39 y855 x5_1).f0, (rd_T39 y855 x5_1).f1, (rd_T39 y855 x5_1).f2, t856, (rd_T39 y855 x5_1).f4, (rd_T39 y855 x5_1).f5, (rd_T39 y855 x5_1).f6, (rd_T39 y855 x5_1).f7⟩ : S39)) (k39_mkM _ _ _ (⟨(rd_T39 y855 x5_1).f0, (rd_T39 y855 x5_1).f1, (rd_T39 y855 x5_1).f2, t856, (rd_T39 y855 x5_1).f4, (rd_T39 y855 x5_1).f5, (rd_T39 y855 x5_1).f6, (rd_T39 y855 x5_1).f7⟩ : S39) ) (fun _ hk => hk); have hx28_3 := hcc28 3 _ rfl; (try simp only [show (k39).sz = 8 from rfl, Nat.mul_one, Nat.add_zero] at hx28_3); have hf28_3 := hfr28 3; (try simp only [show (k39).sz = 8 from rfl, Nat.mul_one, Nat.add_zero] at hf28_3); clear hcl28 hcc28 hfr28 hM28) | ((with_reducible refine gate_store (t := 9) (p := 40) rfl ?_); refine store_event (t := 9) (p := 40) (v := ?vo_w29) (w1 := (w27.setCell ⟨go6, (x5_1 : Int).toNat * 8 + 3, none⟩ (.string t856))) ?hg ?ho ?hn ?hr ?_; (case ho => rfl); (case hg => rfl); (case hn => rfl); (case hr => first | (go_simp; done) | (go_simp; rfl)); intro w29 hw; have hg : w27.grownBy w29 (some go6) := (by rw [hw]; exact HP28.2); have hp_ : Kd.R k39 39 w29 w0.heap.size (fun k_ => (P0_ k_ ∨ w.heap.size ≤ k_)) (.slice (some ⟨go6, 0, none⟩) x0_1.length co18) y857 := (by rw [hw, Ny857.out]; exact HP28.1); clear HP28; have n0_ := Aside0.mk (hp_); have n1_ := Aside0.mk ((by rw [hw]; exact below_set (HB.out) GB6.out : Below w0.heap.size w0 w29)); have n2_ := Aside0.mk (Kept.of_grown (S := (fun k_ => P0_ k_)) hg (by repeat (first | (with_reducible first | exact HK.out | apply Kept.alloc | apply Kept.drewN | apply Kept.drew) | exact HK.out)) (fun k_ e_ => (HO_0.out.1 k_ e_))); clear HO_0; clear HB; clear HK; have HO_0 := n0_; have HB := n1_; have HK := n2_; clear n0_ n1_ n2_; clear hg hw hp_; have p12 : 0 ≤ (x5_1 : Int) := of_decide_eq_true (by first | (with_reducible assumption) | assumption); have q12 : (x5_1 : Int) < ((x0_1.length : Int) : Int) := of_decide_eq_true (by first | (with_reducible assumption) | assumption); obtain ⟨ce12, hcl12, hM12, hcc12, hfr12⟩ := Kd.R_elem HO_0.out z39 (x5_1 : Int) p12 q12; obtain rfl := k39_openM hM12; have hx12_0 : w29.cell? ⟨go6, (x5_1 : Int).toNat * 8, none⟩ = some (.string ((rd_T39 y857 x5_1).f0)) := hcc12 0 _ rfl; have hx12_1 : w29.cell? ⟨go6, (x5_1 : Int).toNat * 8 + 1, none⟩ = some (.int .i64 ((rd_T39 y857 x5_1).f1)) := hcc12 1 _ rfl; have hx12_2 : w29.cell? ⟨go6, (x5_1 : Int).toNat * 8 + 2, none⟩ = some (.string ((rd_T39 y857 x5_1).f2)) := hcc12 2 _ rfl; have hx12_3 : w29.cell? ⟨go6, (x5_1 : Int).toNat * 8 + 3, none⟩ = some (.string ((rd_T39 y857 x5_1).f3)) := hcc12 3 _ rfl; have hx12_4 : w29.cell? ⟨go6, (x5_1 : Int).toNat * 8 + 4, none⟩ = some (.int .i64 ((rd_T39 y857 x5_1).f4)) := hcc12 4 _ rfl; have hx12_5 : w29.cell? ⟨go6, (x5_1 : Int).toNat * 8 + 5, none⟩ = some (.int .i64 ((rd_T39 y857 x5_1).f5)) := hcc12 5 _ rfl; have hx12_6 : w29.cell? ⟨go6, (x5_1 : Int).toNat * 8 + 6, none⟩ = some (.string ((rd_T39 y857 x5_1).f6)) := hcc12 6 _ rfl; have hx12_7 : w29.cell? ⟨go6, (x5_1 : Int).toNat * 8 + 7, none⟩ = some (.string ((rd_T39 y857 x5_1).f7)) := hcc12 7 _ rfl; have hf12_0 : w29.frozen? ⟨go6, (x5_1 : Int).toNat * 8, none⟩ = false := hfr12 0; have hf12_1 : w29.frozen? ⟨go6, (x5_1 : Int).toNat * 8 + 1, none⟩ = false := hfr12 1; have hf12_2 : w29.frozen? ⟨go6, (x5_1 : Int).toNat * 8 + 2, none⟩ = false := hfr12 2; have hf12_3 : w29.frozen? ⟨go6, (x5_1 : Int).toNat * 8 + 3, none⟩ = false := hfr12 3; have hf12_4 : w29.frozen? ⟨go6, (x5_1 : Int).toNat * 8 + 4, none⟩ = false := hfr12 4; have hf12_5 : w29.frozen? ⟨go6, (x5_1 : Int).toNat * 8 + 5, none⟩ = false := hfr12 5; have hf12_6 : w29.frozen? ⟨go6, (x5_1 : Int).toNat * 8 + 6, none⟩ = false := hfr12 6; have hf12_7 : w29.frozen? ⟨go6, (x5_1 : Int).toNat * 8 + 7, none⟩ = false := hfr12 7; clear hcl12 hcc12 hfr12 hM12; replace p12 := eq_true p12; replace q12 := eq_true q12; have HX30 := Aside0.mk (show Kd.R k39 39 w29 w0.heap.size (fun k_ => (P0_ k_ ∨ w.heap.size ≤ k_)) (.slice (some ⟨go6, 0, none⟩) x0_1.length co18) y857 from (rx HO_0.out)); obtain ⟨ce30, hcl30, hM30, hcc30, hfr30⟩ := Kd.R_elem HX30.out z39 (x5_1 : Int) (of_decide_eq_true (by first | (with_reducible assumption) | assumption)) (by have h_ : (x5_1 : Int) < ((x0_1.length : Int) : Int) := of_decide_eq_true (by first | (with_reducible assumption) | assumption); first | exact h_ | (have e_ := (Kd.R_reads' HO_0.out).1; omega) | simpa using h_); obtain rfl := k39_openM hM30; have HP30 := Kd.R_seg HX30.out (x5_1 : Int) (of_decide_eq_true (by first | (with_reducible assumption) | assumption)) (by have h_ : (x5_1 : Int) < ((x0_1.length : Int) : Int) := of_decide_eq_true (by first | (with_reducible assumption) | assumption); first | exact h_ | (have e_ := (Kd.R_reads' HO_0.out).1; omega) | simpa using h_) (seg := [.int .i64 (wrap64 ((wrap64 ((wrap64 ((wrap64 (x1_1 + 1)) + 1)) + 1)) + 1))]) (j := 4) hcl30 hcc30 (show 5 ≤ 8 from by decide) (x' := (⟨(rd_T39 y857 x5_1).f0, (rd_T39 y857 x5_1).f1, (rd_T39 y857 x5_1).f2, (rd_T39 y857 x5_1).f3, wrap64 ((wrap64 ((wrap64 ((wrap64 (x1_1 + 1)) + 1)) + 1)) + 1), (rd_T39 y857 x5_1).f5, (rd_T39 y857 x5_1).f6, (rd_T39 y857 x5_1).f7⟩ : S39)) (k39_mkM _ _ _ (⟨(rd_T39 y857 x5_1).f0, (rd_T39 y857 x5_1).f1, (rd_T39 y857 x5_1).f2, (rd_T39 y857 x5_1).f3, wrap64 ((wrap64 ((wrap64 ((wrap64 (x1_1 + 1)) + 1)) + 1)) + 1), (rd_T39 y857 x5_1).f5, (rd_T39 y857 x5_1).f6, (rd_T39 y857 x5_1).f7⟩ : S39) ) (fun _ hk => hk); have hx30_4 := hcc30 4 _ rfl; (try simp only [show (k39).sz = 8 from rfl, Nat.mul_one, Nat.add_zero] at hx30_4); have hf30_4 := hfr30 4; (try simp only [show (k39).sz = 8 from rfl, Nat.mul_one, Nat.add_zero] at hf30_4); clear hcl30 hcc30 hfr30 hM30) | ((with_reducible refine gate_store (t := 3) (p := 47) rfl ?_); refine store_event (t := 3) (p := 47) (v := ?vo_w31) (w1 := (w29.setCell ⟨go6, (x5_1 : Int).toNat * 8 + 4, none⟩ (.int .i64 (wrap64 ((wrap64 ((wrap64 ((wrap64 (x1_1 + 1)) + 1)) + 1)) + 1))))) ?hg ?ho ?hn ?hr ?_; (case ho => rfl); (case hg => rfl); (case hn => rfl); (case hr => first | (go_simp; done) | (go_simp; rfl)); intro w31 hw; have hg : w29.grownBy w31 (some go6) := (by rw [hw]; exact HP30.2); have hp_ : Kd.R k39 39 w31 w0.heap.size (fun k_ => (P0_ k_ ∨ w.heap.size ≤ k_)) (.slice (some ⟨go6, 0, none⟩) x0_1.length co18) y858 := (by rw [hw, Ny858.out]; exact HP30.1); clear HP30; have n0_ := Aside0.mk (hp_); have n1_ := Aside0.mk ((by rw [hw]; exact below_set (HB.out) GB6.out : Below w0.heap.size w0 w31)); have n2_ := Aside0.mk (Kept.of_grown (S := (fun k_ => P0_ k_)) hg (by repeat (first | (with_reducible first | exact HK.out | apply Kept.alloc | apply Kept.drewN | apply Kept.drew) | exact HK.out)) (fun k_ e_ => (HO_0.out.1 k_ e_))); clear HO_0; clear HB; clear HK; have HO_0 := n0_; have HB := n1_; have HK := n2_; clear n0_ n1_ n2_; clear hg hw hp_; have p13 : 0 ≤ (x5_1 : Int) := of_decide_eq_true (by first | (with_reducible assumption) | assumption); have q13 : (x5_1 : Int) < ((x0_1.length : Int) : Int) := of_decide_eq_true (by first | (with_reducible assumption) | assumption); obtain ⟨ce13, hcl13, hM13, hcc13, hfr13⟩ := Kd.R_elem HO_0.out z39 (x5_1 : Int) p13 q13; obtain rfl := k39_openM hM13; have hx13_0 : w31.cell? ⟨go6, (x5_1 : Int).toNat * 8, none⟩ = some (.string ((rd_T39 y858 x5_1).f0)) := hcc13 0 _ rfl; have hx13_1 : w31.cell? ⟨go6, (x5_1 : Int).toNat * 8 + 1, none⟩ = some (.int .i64 ((rd_T39 y858 x5_1).f1)) := hcc13 1 _ rfl; have hx13_2 : w31.cell? ⟨go6, (x5_1 : Int).toNat * 8 + 2, none⟩ = some (.string ((rd_T39 y858 x5_1).f2)) := hcc13 2 _ rfl; have hx13_3 : w31.cell? ⟨go6, (x5_1 : Int).toNat * 8 + 3, none⟩ = some (.string ((rd_T39 y858 x5_1).f3)) := hcc13 3 _ rfl; have hx13_4 : w31.cell? ⟨go6, (x5_1 : Int).toNat * 8 + 4, none⟩ = some (.int .i64 ((rd_T39 y858 x5_1).f4)) := hcc13 4 _ rfl; have hx13_5 : w31.cell? ⟨go6, (x5_1 : Int).toNat * 8 + 5, none⟩ = some (.int .i64 ((rd_T39 y858 x5_1).f5)) := hcc13 5 _ rfl; have hx13_6 : w31.cell? ⟨go6, (x5_1 : Int).toNat * 8 + 6, none⟩ = some (.string ((rd_T39 y858 x5_1).f6)) := hcc13 6 _ rfl; have hx13_7 : w31.cell? ⟨go6, (x5_1 : Int).toNat * 8 + 7, none⟩ = some (.string ((rd_T39 y858 x5_1).f7)) := hcc13 7 _ rfl; have hf13_0 : w31.frozen? ⟨go6, (x5_1 : Int).toNat * 8, none⟩ = false := hfr13 0; have hf13_1 : w31.frozen? ⟨go6, (x5_1 : Int).toNat * 8 + 1, none⟩ = false := hfr13 1; have hf13_2 : w31.frozen? ⟨go6, (x5_1 : Int).toNat * 8 + 2, none⟩ = false := hfr13 2; have hf13_3 : w31.frozen? ⟨go6, (x5_1 : Int).toNat * 8 + 3, none⟩ = false := hfr13 3; have hf13_4 : w31.frozen? ⟨go6, (x5_1 : Int).toNat * 8 + 4, none⟩ = false := hfr13 4; have hf13_5 : w31.frozen? ⟨go6, (x5_1 : Int).toNat * 8 + 5, none⟩ = false := hfr13 5; have hf13_6 : w31.frozen? ⟨go6, (x5_1 : Int).toNat * 8 + 6, none⟩ = false := hfr13 6; have hf13_7 : w31.frozen? ⟨go6, (x5_1 : Int).toNat * 8 + 7, none⟩ = false := hfr13 7; clear hcl13 hcc13 hfr13 hM13; replace p13 := eq_true p13; replace q13 := eq_true q13; have HX32 := Aside0.mk (show Kd.R k39 39 w31 w0.heap.size (fun k_ => (P0_ k_ ∨ w.heap.size ≤ k_)) (.slice (some ⟨go6, 0, none⟩) x0_1.length co18) y858 from (rx HO_0.out)); obtain ⟨ce32, hcl32, hM32, hcc32, hfr32⟩ := Kd.R_elem HX32.out z39 (x5_1 : Int) (of_decide_eq_true (by first | (with_reducible assumption) | assumption)) (by have h_ : (x5_1 : Int) < ((x0_1.length : Int) : Int) := of_decide_eq_true (by first | (with_reducible assumption) | assumption); first | exact h_ | (have e_ := (Kd.R_reads' HO_0.out).1; omega) | simpa using h_); obtain rfl := k39_openM hM32; have HP32 := Kd.R_seg HX32.out (x5_1 : Int) (of_decide_eq_true (by first | (with_reducible assumption) | assumption)) (by have h_ : (x5_1 : Int) < ((x0_1.length : Int) : Int) := of_decide_eq_true (by first | (with_reducible assumption) | assumption); first | exact h_ | (have e_ := (Kd.R_reads' HO_0.out).1; omega) | simpa using h_) (seg := [.int .i64 (wrap64 ((wrap64 ((wrap64 ((wrap64 ((wrap64 (x1_1 + 1)) + 1)) + 1)) + 1)) + 1))]) (j := 5) hcl32 hcc32 (show 6 ≤ 8 from by decide) (x' := (⟨(rd_T39 y858 x5_1).f0, (rd_T39 y858 x5_1).f1, (rd_T39 y858 x5_1).f2, (rd_T39 y858 x5_1).f3, (rd_T39 y858 x5_1).f4, wrap64 ((wrap64 ((wrap64 ((wrap64 ((wrap64 (x1_1 + 1)) + 1)) + 1)) + 1)) + 1), (rd_T39 y858 x5_1).f6, (rd_T39 y858 x5_1).f7⟩ : S39)) (k39_mkM _ _ _ (⟨(rd_T39 y858 x5_1).f0, (rd_T39 y858 x5_1).f1, (rd_T39 y858 x5_1).f2, (rd_T39 y858 x5_1).f3, (rd_T39 y858 x5_1).f4, wrap64 ((wrap64 ((wrap64 ((wrap64 ((wrap64 (x1_1 + 1)) + 1)) + 1)) + 1)) + 1), (rd_T39 y858 x5_1).f6, (rd_T39 y858 x5_1).f7⟩ : S39) ) (fun _ hk => hk); have hx32_5 := hcc32 5 _ rfl; (try simp only [show (k39).sz = 8 from rfl, Nat.mul_one, Nat.add_zero] at hx32_5); have hf32_5 := hfr32 5; (try simp only [show (k39).sz = 8 from rfl, Nat.mul_one, Nat.add_zero] at hf32_5); clear hcl32 hcc32 hfr32 hM32) | ((with_reducible refine gate_store (t := 3) (p := 54) rfl ?_); refine store_event (t := 3) (p := 54) (v := ?vo_w33) (w1 := (w31.setCell ⟨go6, (x5_1 : Int).toNat * 8 + 5, none⟩ (.int .i64 (wrap64 ((wrap64 ((wrap64 ((wrap64 ((wrap64 (x1_1 + 1)) + 1)) + 1)) + 1)) + 1))))) ?hg ?ho ?hn ?hr ?_; (case ho => rfl); (case hg => rfl); (case hn => rfl); (case hr => first | (go_simp; done) | (go_simp; rfl)); intro w33 hw; have hg : w31.grownBy w33 (some go6) := (by rw [hw]; exact HP32.2); have hp_ : Kd.R k39 39 w33 w0.heap.size (fun k_ => (P0_ k_ ∨ w.heap.size ≤ k_)) (.slice (some ⟨go6, 0, none⟩) x0_1.length co18) y859 := (by rw [hw, Ny859.out]; exact HP32.1); clear HP32; have n0_ := Aside0.mk (hp_); have n1_ := Aside0.mk ((by rw [hw]; exact below_set (HB.out) GB6.out : Below w0.heap.size w0 w33)); have n2_ := Aside0.mk (Kept.of_grown (S := (fun k_ => P0_ k_)) hg (by repeat (first | (with_reducible first | exact HK.out | apply Kept.alloc | apply Kept.drewN | apply Kept.drew) | exact HK.out)) (fun k_ e_ => (HO_0.out.1 k_ e_))); clear HO_0; clear HB; clear HK; have HO_0 := n0_; have HB := n1_; have HK := n2_; clear n0_ n1_ n2_; clear hg hw hp_) | ((with_reducible refine gate_callee (f := 90) rfl ?_); refine goesL_ (some 60) rfl rfl Try.func90 (by kernel_rfl) rfl #[.int .i64 (wrap64 ((wrap64 ((wrap64 ((wrap64 ((wrap64 ((wrap64 (x1_1 + 1)) + 1)) + 1)) + 1)) + 1)) + 1))] rfl mxp ?_; (with_reducible refine (laws_markText.calls k1 (wrap64 ((wrap64 ((wrap64 ((wrap64 ((wrap64 ((wrap64 (x1_1 + 1)) + 1)) + 1)) + 1)) + 1)) + 1)) t860 _ A14.out).mono ?_); rintro e w34 ⟨rfl, hb⟩; refine ⟨_, rfl, ?_⟩; have n0_ := Aside0.mk (Kd.R_below (rx HO_0.out) hb); have n1_ := Aside0.mk (Kept.below (S := (fun k_ => P0_ k_)) (by repeat (first | (with_reducible first | exact HK.out | apply Kept.alloc | apply Kept.drewN | apply Kept.drew) | exact HK.out)) hb); have n2_ := bs HB hb; clear HO_0; clear HK; clear HB; have HO_0 := n0_; have HK := n1_; have HB := n2_; clear n0_ n1_ n2_; (try clear hb); (try clear hb2); (try clear hk); (try clear hi); have p15 : 0 ≤ (x5_1 : Int) := of_decide_eq_true (by first | (with_reducible assumption) | assumption); have q15 : (x5_1 : Int) < ((x0_1.length : Int) : Int) := of_decide_eq_true (by first | (with_reducible assumption) | assumption); obtain ⟨ce15, hcl15, hM15, hcc15, hfr15⟩ := Kd.R_elem HO_0.out z39 (x5_1 : Int) p15 q15; obtain rfl := k39_openM hM15; have hx15_0 : w34.cell? ⟨go6, (x5_1 : Int).toNat * 8, none⟩ = some (.string ((rd_T39 y859 x5_1).f0)) := hcc15 0 _ rfl; have hx15_1 : w34.cell? ⟨go6, (x5_1 : Int).toNat * 8 + 1, none⟩ = some (.int .i64 ((rd_T39 y859 x5_1).f1)) := hcc15 1 _ rfl; have hx15_2 : w34.cell? ⟨go6, (x5_1 : Int).toNat * 8 + 2, none⟩ = some (.string ((rd_T39 y859 x5_1).f2)) := hcc15 2 _ rfl; have hx15_3 : w34.cell? ⟨go6, (x5_1 : Int).toNat * 8 + 3, none⟩ = some (.string ((rd_T39 y859 x5_1).f3)) := hcc15 3 _ rfl; have hx15_4 : w34.cell? ⟨go6, (x5_1 : Int).toNat * 8 + 4, none⟩ = some (.int .i64 ((rd_T39 y859 x5_1).f4)) := hcc15 4 _ rfl; have hx15_5 : w34.cell? ⟨go6, (x5_1 : Int).toNat * 8 + 5, none⟩ = some (.int .i64 ((rd_T39 y859 x5_1).f5)) := hcc15 5 _ rfl; have hx15_6 : w34.cell? ⟨go6, (x5_1 : Int).toNat * 8 + 6, none⟩ = some (.string ((rd_T39 y859 x5_1).f6)) := hcc15 6 _ rfl; have hx15_7 : w34.cell? ⟨go6, (x5_1 : Int).toNat * 8 + 7, none⟩ = some (.string ((rd_T39 y859 x5_1).f7)) := hcc15 7 _ rfl; have hf15_0 : w34.frozen? ⟨go6, (x5_1 : Int).toNat * 8, none⟩ = false := hfr15 0; have hf15_1 : w34.frozen? ⟨go6, (x5_1 : Int).toNat * 8 + 1, none⟩ = false := hfr15 1; have hf15_2 : w34.frozen? ⟨go6, (x5_1 : Int).toNat * 8 + 2, none⟩ = false := hfr15 2; have hf15_3 : w34.frozen? ⟨go6, (x5_1 : Int).toNat * 8 + 3, none⟩ = false := hfr15 3; have hf15_4 : w34.frozen? ⟨go6, (x5_1 : Int).toNat * 8 + 4, none⟩ = false := hfr15 4; have hf15_5 : w34.frozen? ⟨go6, (x5_1 : Int).toNat * 8 + 5, none⟩ = false := hfr15 5; have hf15_6 : w34.frozen? ⟨go6, (x5_1 : Int).toNat * 8 + 6, none⟩ = false := hfr15 6; have hf15_7 : w34.frozen? ⟨go6, (x5_1 : Int).toNat * 8 + 7, none⟩ = false := hfr15 7; clear hcl15 hcc15 hfr15 hM15; replace p15 := eq_true p15; replace q15 := eq_true q15; have HX35 := Aside0.mk (show Kd.R k39 39 w34 w0.heap.size (fun k_ => (P0_ k_ ∨ w.heap.size ≤ k_)) (.slice (some ⟨go6, 0, none⟩) x0_1.length co18) y859 from (rx HO_0.out)); obtain ⟨ce35, hcl35, hM35, hcc35, hfr35⟩ := Kd.R_elem HX35.out z39 (x5_1 : Int) (of_decide_eq_true (by first | (with_reducible assumption) | assumption)) (by have h_ : (x5_1 : Int) < ((x0_1.length : Int) : Int) := of_decide_eq_true (by first | (with_reducible assumption) | assumption); first | exact h_ | (have e_ := (Kd.R_reads' HO_0.out).1; omega) | simpa using h_); obtain rfl := k39_openM hM35; have HP35 := Kd.R_seg HX35.out (x5_1 : Int) (of_decide_eq_true (by first | (with_reducible assumption) | assumption)) (by have h_ : (x5_1 : Int) < ((x0_1.length : Int) : Int) := of_decide_eq_true (by first | (with_reducible assumption) | assumption); first | exact h_ | (have e_ := (Kd.R_reads' HO_0.out).1; omega) | simpa using h_) (seg := [.string t860]) (j := 6) hcl35 hcc35 (show 7 ≤ 8 from by decide) (x' := (⟨(rd_T39 y859 x5_1).f0, (rd_T39 y859 x5_1).f1, (rd_T39 y859 x5_1).f2, (rd_T39 y859 x5_1).f3, (rd_T39 y859 x5_1).f4, (rd_T39 y859 x5_1).f5, t860, (rd_T39 y859 x5_1).f7⟩ : S39)) (k39_mkM _ _ _ (⟨(rd_T39 y859 x5_1).f0, (rd_T39 y859 x5_1).f1, (rd_T39 y859 x5_1).f2, (rd_T39 y859 x5_1).f3, (rd_T39 y859 x5_1).f4, (rd_T39 y859 x5_1).f5, t860, (rd_T39 y859 x5_1).f7⟩ : S39) ) (fun _ hk => hk); have hx35_6 := hcc35 6 _ rfl; (try simp only [show (k39).sz = 8 from rfl, Nat.mul_one, Nat.add_zero] at hx35_6); have hf35_6 := hfr35 6; (try simp only [show (k39).sz = 8 from rfl, Nat.mul_one, Nat.add_zero] at hf35_6); clear hcl35 hcc35 hfr35 hM35) | ((with_reducible refine gate_store (t := 9) (p := 62) rfl ?_); refine store_event (t := 9) (p := 62) (v := ?vo_w36) (w1 := (w34.setCell ⟨go6, (x5_1 : Int).toNat * 8 + 6, none⟩ (.string t860))) ?hg ?ho ?hn ?hr ?_; (case ho => rfl); (case hg => rfl); (case hn => rfl); (case hr => first | (go_simp; done) | (go_simp; rfl)); intro w36 hw; have hg : w34.grownBy w36 (some go6) := (by rw [hw]; exact HP35.2); have hp_ : Kd.R k39 39 w36 w0.heap.size (fun k_ => (P0_ k_ ∨ w.heap.size ≤ k_)) (.slice (some ⟨go6, 0, none⟩) x0_1.length co18) y861 := (by rw [hw, Ny861.out]; exact HP35.1); clear HP35; have n0_ := Aside0.mk (hp_); have n1_ := Aside0.mk ((by rw [hw]; exact below_set (HB.out) GB6.out : Below w0.heap.size w0 w36)); have n2_ := Aside0.mk (Kept.of_grown (S := (fun k_ => P0_ k_)) hg (by repeat (first | (with_reducible first | exact HK.out | apply Kept.alloc | apply Kept.drewN | apply Kept.drew) | exact HK.out)) (fun k_ e_ => (HO_0.out.1 k_ e_))); clear HO_0; clear HB; clear HK; have HO_0 := n0_; have HB := n1_; have HK := n2_; clear n0_ n1_ n2_; clear hg hw hp_) | ((with_reducible refine gate_callee (f := 90) rfl ?_); refine goesL_ (some 68) rfl rfl Try.func90 (by kernel_rfl) rfl #[.int .i64 (wrap64 ((wrap64 ((wrap64 ((wrap64 ((wrap64 ((wrap64 ((wrap64 (x1_1 + 1)) + 1)) + 1)) + 1)) + 1)) + 1)) + 1))] rfl mxp ?_; (with_reducible refine (laws_markText.calls k1 (wrap64 ((wrap64 ((wrap64 ((wrap64 ((wrap64 ((wrap64 ((wrap64 (x1_1 + 1)) + 1)) + 1)) + 1)) + 1)) + 1)) + 1)) t862 _ A16.out).mono ?_); rintro e w37 ⟨rfl, hb⟩; refine ⟨_, rfl, ?_⟩; have n0_ := Aside0.mk (Kd.R_below (rx HO_0.out) hb); have n1_ := Aside0.mk (Kept.below (S := (fun k_ => P0_ k_)) (by repeat (first | (with_reducible first | exact HK.out | apply Kept.alloc | apply Kept.drewN | apply Kept.drew) | exact HK.out)) hb); have n2_ := bs HB hb; clear HO_0; clear HK; clear HB; have HO_0 := n0_; have HK := n1_; have HB := n2_; clear n0_ n1_ n2_; (try clear hb); (try clear hb2); (try clear hk); (try clear hi); have p17 : 0 ≤ (x5_1 : Int) := of_decide_eq_true (by first | (with_reducible assumption) | assumption); have q17 : (x5_1 : Int) < ((x0_1.length : Int) : Int) := of_decide_eq_true (by first | (with_reducible assumption) | assumption); obtain ⟨ce17, hcl17, hM17, hcc17, hfr17⟩ := Kd.R_elem HO_0.out z39 (x5_1 : Int) p17 q17; obtain rfl := k39_openM hM17; have hx17_0 : w37.cell? ⟨go6, (x5_1 : Int).toNat * 8, none⟩ = some (.string ((rd_T39 y861 x5_1).f0)) := hcc17 0 _ rfl; have hx17_1 : w37.cell? ⟨go6, (x5_1 : Int).toNat * 8 + 1, none⟩ = some (.int .i64 ((rd_T39 y861 x5_1).f1)) := hcc17 1 _ rfl; have hx17_2 : w37.cell? ⟨go6, (x5_1 : Int).toNat * 8 + 2, none⟩ = some (.string ((rd_T39 y861 x5_1).f2)) := hcc17 2 _ rfl; have hx17_3 : w37.cell? ⟨go6, (x5_1 : Int).toNat * 8 + 3, none⟩ = some (.string ((rd_T39 y861 x5_1).f3)) := hcc17 3 _ rfl; have hx17_4 : w37.cell? ⟨go6, (x5_1 : Int).toNat * 8 + 4, none⟩ = some (.int .i64 ((rd_T39 y861 x5_1).f4)) := hcc17 4 _ rfl; have hx17_5 : w37.cell? ⟨go6, (x5_1 : Int).toNat * 8 + 5, none⟩ = some (.int .i64 ((rd_T39 y861 x5_1).f5)) := hcc17 5 _ rfl; have hx17_6 : w37.cell? ⟨go6, (x5_1 : Int).toNat * 8 + 6, none⟩ = some (.string ((rd_T39 y861 x5_1).f6)) := hcc17 6 _ rfl; have hx17_7 : w37.cell? ⟨go6, (x5_1 : Int).toNat * 8 + 7, none⟩ = some (.string ((rd_T39 y861 x5_1).f7)) := hcc17 7 _ rfl; have hf17_0 : w37.frozen? ⟨go6, (x5_1 : Int).toNat * 8, none⟩ = false := hfr17 0; have hf17_1 : w37.frozen? ⟨go6, (x5_1 : Int).toNat * 8 + 1, none⟩ = false := hfr17 1; have hf17_2 : w37.frozen? ⟨go6, (x5_1 : Int).toNat * 8 + 2, none⟩ = false := hfr17 2; have hf17_3 : w37.frozen? ⟨go6, (x5_1 : Int).toNat * 8 + 3, none⟩ = false := hfr17 3; have hf17_4 : w37.frozen? ⟨go6, (x5_1 : Int).toNat * 8 + 4, none⟩ = false := hfr17 4; have hf17_5 : w37.frozen? ⟨go6, (x5_1 : Int).toNat * 8 + 5, none⟩ = false := hfr17 5; have hf17_6 : w37.frozen? ⟨go6, (x5_1 : Int).toNat * 8 + 6, none⟩ = false := hfr17 6; have hf17_7 : w37.frozen? ⟨go6, (x5_1 : Int).toNat * 8 + 7, none⟩ = false := hfr17 7; clear hcl17 hcc17 hfr17 hM17; replace p17 := eq_true p17; replace q17 := eq_true q17; have HX38 := Aside0.mk (show Kd.R k39 39 w37 w0.heap.size (fun k_ => (P0_ k_ ∨ w.heap.size ≤ k_)) (.slice (some ⟨go6, 0, none⟩) x0_1.length co18) y861 from (rx HO_0.out)); obtain ⟨ce38, hcl38, hM38, hcc38, hfr38⟩ := Kd.R_elem HX38.out z39 (x5_1 : Int) (of_decide_eq_true (by first | (with_reducible assumption) | assumption)) (by have h_ : (x5_1 : Int) < ((x0_1.length : Int) : Int) := of_decide_eq_true (by first | (with_reducible assumption) | assumption); first | exact h_ | (have e_ := (Kd.R_reads' HO_0.out).1; omega) | simpa using h_); obtain rfl := k39_openM hM38; have HP38 := Kd.R_seg HX38.out (x5_1 : Int) (of_decide_eq_true (by first | (with_reducible assumption) | assumption)) (by have h_ : (x5_1 : Int) < ((x0_1.length : Int) : Int) := of_decide_eq_true (by first | (with_reducible assumption) | assumption); first | exact h_ | (have e_ := (Kd.R_reads' HO_0.out).1; omega) | simpa using h_) (seg := [.string t862]) (j := 7) hcl38 hcc38 (show 8 ≤ 8 from by decide) (x' := (⟨(rd_T39 y861 x5_1).f0, (rd_T39 y861 x5_1).f1, (rd_T39 y861 x5_1).f2, (rd_T39 y861 x5_1).f3, (rd_T39 y861 x5_1).f4, (rd_T39 y861 x5_1).f5, (rd_T39 y861 x5_1).f6, t862⟩ : S39)) (k39_mkM _ _ _ (⟨(rd_T39 y861 x5_1).f0, (rd_T39 y861 x5_1).f1, (rd_T39 y861 x5_1).f2, (rd_T39 y861 x5_1).f3, (rd_T39 y861 x5_1).f4, (rd_T39 y861 x5_1).f5, (rd_T39 y861 x5_1).f6, t862⟩ : S39) ) (fun _ hk => hk); have hx38_7 := hcc38 7 _ rfl; (try simp only [show (k39).sz = 8 from rfl, Nat.mul_one, Nat.add_zero] at hx38_7); have hf38_7 := hfr38 7; (try simp only [show (k39).sz = 8 from rfl, Nat.mul_one, Nat.add_zero] at hf38_7); clear hcl38 hcc38 hfr38 hM38) | ((with_reducible refine gate_store (t := 9) (p := 70) rfl ?_); refine store_event (t := 9) (p := 70) (v := ?vo_w39) (w1 := (w37.setCell ⟨go6, (x5_1 : Int).toNat * 8 + 7, none⟩ (.string t862))) ?hg ?ho ?hn ?hr ?_; (case ho => rfl); (case hg => rfl); (case hn => rfl); (case hr => first | (go_simp; done) | (go_simp; rfl)); intro w39 hw; have hg : w37.grownBy w39 (some go6) := (by rw [hw]; exact HP38.2); have hp_ : Kd.R k39 39 w39 w0.heap.size (fun k_ => (P0_ k_ ∨ w.heap.size ≤ k_)) (.slice (some ⟨go6, 0, none⟩) x0_1.length co18) y863 := (by rw [hw, Ny863.out]; exact HP38.1); clear HP38; have n0_ := Aside0.mk (hp_); have n1_ := Aside0.mk ((by rw [hw]; exact below_set (HB.out) GB6.out : Below w0.heap.size w0 w39)); have n2_ := Aside0.mk (Kept.of_grown (S := (fun k_ => P0_ k_)) hg (by repeat (first | (with_reducible first | exact HK.out | apply Kept.alloc | apply Kept.drewN | apply Kept.drew) | exact HK.out)) (fun k_ e_ => (HO_0.out.1 k_ e_))); clear HO_0; clear HB; clear HK; have HO_0 := n0_; have HB := n1_; have HK := n2_; clear n0_ n1_ n2_; clear hg hw hp_))
          go_roundg k1
          case measure => have := HK1.out; omega
          case rel => exact ⟨(y863), (wrap64 ((wrap64 ((wrap64 ((wrap64 ((wrap64 ((wrap64 ((wrap64 ((wrap64 (x1_1 + 1)) + 1)) + 1)) + 1)) + 1)) + 1)) + 1)) + 1)), (wrap64 (x5_1 + 1)), (by first | rfl | (simp; done) | (simp [*]; done)), (by first | rfl | (simp; done) | (simp [*]; done)), H', ⟨by have := HK1.out; omega⟩, ⟨by refine rx ?_; exact HO_0.out⟩, ⟨by repeat (first | (with_reducible first | exact HK.out | apply Kept.alloc | apply Kept.drewN | apply Kept.drew) | exact HK.out)⟩, (hbw HB)⟩
        · rw [if_neg c5] at H
          exact absurd H (by simp)
      · rw [if_neg c3] at H
        have c3b0 : decide (x5_1 < (x0_1.length : Int)) = false := decide_eq_false c3
        clear c3
        simp only [Option.some.injEq, Prod.mk.injEq] at H
        obtain ⟨rfl, rfl⟩ := H
        obtain ⟨Ao40, co40, eo40⟩ := Kd.R_slice HO_0.out
        subst eo40
        go_wp2
        go_ret
        exact ⟨exq, by refine rx ?_; exact HO_0.out, bw HB.out, by repeat (first | (with_reducible first | exact HK.out | apply Kept.alloc | apply Kept.drewN | apply Kept.drew) | exact HK.out)⟩

end Go.Proofs.Ytdkologncoofdaa.P
-- Px77
namespace Go.Proofs.Ytdkologncoofdaa.P
open Go.RowKit Go.Proofs.YtdkologncoofdaaW.PrintWords Go.Proofs.YtdkologncoofdaaW.PrintLast Go.Proofs.YtdkologncoofdaaW.PrintMore
attribute [local go_sem] max2_int min2_int max_two min_two max_three min_three max_four min_four   -- for this text's walks alone
set_option linter.unusedVariables false
set_option linter.unusedSimpArgs false

/-! ### laws_markRecSayS: function 56 -/
def laws_markRecSayS.l0 : Nat → List (S43) → Int → Int → Option (Int × (List (S43)))
  | 0, _, _, _ => none
  | k + 1, x0, x1, x5 => if x5 < (x0.length : Int) then (if 0 ≤ x5 then ((some (x0.set (x5 : Int).toNat (⟨x1, (rd_T43 x0 x5).f1⟩ : S43) : List (S43))).bind fun y864 => (laws_markRecSayS.l0 k (y864.set (x5 : Int).toNat (⟨(rd_T43 y864 x5).f0, ((Int.tmod (wrap64 (x1 + 1)) 3) == 0)⟩ : S43)) (wrap64 ((wrap64 (x1 + 1)) + 1)) (wrap64 (x5 + 1)))) else (none)) else (some (x1, x0))
def laws_markRecSayS.f (k : Nat) (l0 : List (S43)) (a1 : Int) : Option (Int × (List (S43))) := laws_markRecSayS.l0 k l0 a1 0
theorem laws_markRecSayS.mono_l : ∀ k, (∀ y0 y1 y2, LeO (laws_markRecSayS.l0 k y0 y1 y2) (laws_markRecSayS.l0 (k + 1) y0 y1 y2))
  | 0 => fun _ _ _ r h => by simp [laws_markRecSayS.l0] at h
  | k + 1 => by
    have ih0 := laws_markRecSayS.mono_l k
    · intro y0 y1 y2
      unfold laws_markRecSayS.l0
      repeat' first
      | (with_reducible exact ih0 _ _ _)
      | (with_reducible exact LeO.refl _)
      | (with_reducible exact LeO.none _)
      | (with_reducible refine LeO.ite ?_ ?_)
      | (with_reducible refine LeO.bind ?_ (fun _ => ?_))
      | exact ih0 _ _ _
      | exact LeO.none _
      | refine LeO.ite ?_ ?_
      | refine LeO.bind ?_ (fun _ => ?_)
theorem laws_markRecSayS.mono : ∀ a0 a1 k, LeO (laws_markRecSayS.f k a0 a1) (laws_markRecSayS.f (k + 1) a0 a1) := by
  intro a0 a1 k
  have ih0 := laws_markRecSayS.mono_l k
  unfold laws_markRecSayS.f
  repeat' first
      | (with_reducible exact ih0 _ _ _)
      | (with_reducible exact LeO.refl _)
      | (with_reducible exact LeO.none _)
      | (with_reducible refine LeO.ite ?_ ?_)
      | (with_reducible refine LeO.bind ?_ (fun _ => ?_))
      | exact ih0 _ _ _
      | exact LeO.none _
      | refine LeO.ite ?_ ?_
      | refine LeO.bind ?_ (fun _ => ?_)
set_option maxHeartbeats 8000000 in
set_option maxRecDepth 100000 in
theorem laws_markRecSayS.calls (k : Nat) (P0_ : Nat → Prop) (u9000_ : Value) (l0 : List (S43)) (a1 : Int) (r1 : Int) (r2 : List (S43)) (w0 w : World) (hB : Below w0.heap.size w0 w) (ho0 : Kd.R k43 43 w w0.heap.size P0_ u9000_ l0) (h : laws_markRecSayS.f k l0 a1 = some (r1, r2)) :
    Calls Try.prog 56 #[u9000_, .int .i64 a1] w fun e w' => e = .returned (.int .i64 r1) ∧ Kd.R k43 43 w' w0.heap.size (fun k_ => (P0_ k_ ∨ w.heap.size ≤ k_)) u9000_ r2 ∧ Below w0.heap.size w0 w' ∧ Kept w w' (fun k_ => P0_ k_) := by
  have HO0 := Aside0.mk (show Kd.R k43 43 w w0.heap.size (fun k_ => (P0_ k_ ∨ w.heap.size ≤ k_)) u9000_ l0 from Kd.R_mono ho0 (fun k_ hk => (.inl hk)))
  have HK := Aside0.mk (Kept.refl w (fun k_ => P0_ k_))
  have HW0 := Aside0.mk hB.size
  have HB := Aside0.mk hB
  clear hB
  have H : (laws_markRecSayS.l0 k l0 a1 0) = some (r1, r2) := h
  clear h
  have H' := Aside0.mk H
  clear H
  go_enter Try.func56, Try.ntmps56
  go_wp2
  go_loopg [1, 5] k (fun kq v1 v5 w' => ∃ (x0_1 : List (S43)) (x1_1 : Int) (x5_1 : Int), v1 = .int .i64 x1_1 ∧ v5 = .int .i64 x5_1 ∧ Aside0 (laws_markRecSayS.l0 kq x0_1 x1_1 x5_1 = some (r1, r2)) ∧ Aside0 (kq ≤ k) ∧ Aside0 (Kd.R k43 43 w' w0.heap.size (fun k_ => (P0_ k_ ∨ w.heap.size ≤ k_)) u9000_ x0_1) ∧ Aside0 (Kept w w' (fun k_ => P0_ k_)) ∧ Aside0 (Below w0.heap.size w0 w'))
  case atStart => exact ⟨(l0), (a1), (0), (by first | rfl | (simp; done) | (simp [*]; done)), (by first | rfl | (simp; done) | (simp [*]; done)), H', ⟨Nat.le_refl _⟩, ⟨by refine rx ?_; exact HO0.out⟩, ⟨by repeat (first | (with_reducible first | exact HK.out | apply Kept.alloc | apply Kept.drewN | apply Kept.drew) | exact HK.out)⟩, (hbw HB)⟩
  case round =>
    clear H'
    try clear p2
    obtain ⟨x0_1, x1_1, x5_1, rfl, rfl, HA, HK1, HO_0, HK, HB⟩ := hrel
    cases gk with
    | zero => exact absurd HA.out (by simp [laws_markRecSayS.l0])
    | succ k1 =>
      have H := HA.out
      clear HA
      simp only [laws_markRecSayS.l0] at H
      by_cases c3 : x5_1 < (x0_1.length : Int)
      · rw [if_pos c3] at H
        have c3b0 : decide (x5_1 < (x0_1.length : Int)) = true := decide_eq_true c3
        clear c3
        by_cases c4 : 0 ≤ x5_1
        · rw [if_pos c4] at H
          have c4b0 : decide (0 ≤ x5_1) = true := decide_eq_true c4
          clear c4
          obtain ⟨y864, hy864⟩ : ∃ y_ : List (S43), y_ = (x0_1.set (x5_1 : Int).toNat (⟨x1_1, (rd_T43 x0_1 x5_1).f1⟩ : S43)) := ⟨_, rfl⟩
          replace H : (laws_markRecSayS.l0 k1 (y864.set (x5_1 : Int).toNat (⟨(rd_T43 y864 x5_1).f0, ((Int.tmod (wrap64 (x1_1 + 1)) 3) == 0)⟩ : S43)) (wrap64 ((wrap64 (x1_1 + 1)) + 1)) (wrap64 (x5_1 + 1))) = some (r1, r2) := by first | (rw [hy864]; with_reducible exact H) | (have H2_ := (Option.bind_some _ _).symm.trans H; rw [hy864]; with_reducible exact H2_) | (have H2_ := (Option.bind_some _ _).symm.trans H; with_reducible exact H2_) | with_reducible exact H | (rw [hy864]; exact H) | exact H
          have Ny864 := Aside0.mk hy864
          clear hy864
          obtain ⟨y865, hy865⟩ : ∃ y_ : List (S43), y_ = (y864.set (x5_1 : Int).toNat (⟨(rd_T43 y864 x5_1).f0, ((Int.tmod (wrap64 (x1_1 + 1)) 3) == 0)⟩ : S43)) := ⟨_, rfl⟩
          replace H : (laws_markRecSayS.l0 k1 y865 (wrap64 ((wrap64 (x1_1 + 1)) + 1)) (wrap64 (x5_1 + 1))) = some (r1, r2) := by first | (rw [hy865]; with_reducible exact H) | (have H2_ := (Option.bind_some _ _).symm.trans H; rw [hy865]; with_reducible exact H2_) | (have H2_ := (Option.bind_some _ _).symm.trans H; with_reducible exact H2_) | with_reducible exact H | (rw [hy865]; exact H) | exact H
          have Ny865 := Aside0.mk hy865
          clear hy865
          have H' := Aside0.mk H
          clear H
          obtain ⟨Ao7, co7, eo7⟩ := Kd.R_slice HO_0.out
          subst eo7
          have p5 : 0 ≤ (x5_1 : Int) := of_decide_eq_true (by first | (with_reducible assumption) | assumption)
          have q5 : (x5_1 : Int) < ((x0_1.length : Int) : Int) := of_decide_eq_true (by first | (with_reducible assumption) | assumption)
          obtain ⟨go5, co5, eo5, gb5, gl5, cl5, HG5⟩ := Kd.R_form HO_0.out (by omega)
          (first | cases eo5 | (injection eo5 with ea_ en_ ec_; (first | subst ea_ | (injection ea_ with ea_; subst ea_)); subst ec_; clear en_))
          have GB5 := Aside0.mk gb5
          have GG5 := Aside0.mk HG5
          clear gb5 gl5 HG5
          have HMgo5 := Aside0.mk (show (P0_ go5 ∨ w.heap.size ≤ go5) from (HO_0.out.1 _ rfl))
          obtain ⟨ce5, hcl5, hM5, hcc5, hfr5⟩ := Kd.R_elem HO_0.out z43 (x5_1 : Int) p5 q5
          obtain rfl := k43_openM hM5
          have hx5_0 : wr.cell? ⟨go5, (x5_1 : Int).toNat * 2, none⟩ = some (.int .i64 ((rd_T43 x0_1 x5_1).f0)) := hcc5 0 _ rfl
          have hx5_1 : wr.cell? ⟨go5, (x5_1 : Int).toNat * 2 + 1, none⟩ = some (.bool ((rd_T43 x0_1 x5_1).f1)) := hcc5 1 _ rfl
          have hf5_0 : wr.frozen? ⟨go5, (x5_1 : Int).toNat * 2, none⟩ = false := hfr5 0
          have hf5_1 : wr.frozen? ⟨go5, (x5_1 : Int).toNat * 2 + 1, none⟩ = false := hfr5 1
          clear hcl5 hcc5 hfr5 hM5
          replace p5 := eq_true p5
          replace q5 := eq_true q5
          have HX8 := Aside0.mk (show Kd.R k43 43 wr w0.heap.size (fun k_ => (P0_ k_ ∨ w.heap.size ≤ k_)) (.slice (some ⟨go5, 0, none⟩) x0_1.length co7) x0_1 from (rx HO_0.out))
          obtain ⟨ce8, hcl8, hM8, hcc8, hfr8⟩ := Kd.R_elem HX8.out z43 (x5_1 : Int) (of_decide_eq_true (by first | (with_reducible assumption) | assumption)) (by have h_ : (x5_1 : Int) < ((x0_1.length : Int) : Int) := of_decide_eq_true (by first | (with_reducible assumption) | assumption); first | exact h_ | (have e_ := (Kd.R_reads' HO_0.out).1; omega) | simpa using h_)
          obtain rfl := k43_openM hM8
          have HP8 := Kd.R_seg HX8.out (x5_1 : Int) (of_decide_eq_true (by first | (with_reducible assumption) | assumption)) (by have h_ : (x5_1 : Int) < ((x0_1.length : Int) : Int) := of_decide_eq_true (by first | (with_reducible assumption) | assumption); first | exact h_ | (have e_ := (Kd.R_reads' HO_0.out).1; omega) | simpa using h_) (seg := [.int .i64 x1_1]) (j := 0) hcl8 hcc8 (show 1 ≤ 2 from by decide) (x' := (⟨x1_1, (rd_T43 x0_1 x5_1).f1⟩ : S43)) (k43_mkM _ _ _ (⟨x1_1, (rd_T43 x0_1 x5_1).f1⟩ : S43) ) (fun _ hk => hk)
          have hx8_0 := hcc8 0 _ rfl
          (try simp only [show (k43).sz = 2 from rfl, Nat.mul_one, Nat.add_zero] at hx8_0)
          have hf8_0 := hfr8 0
          (try simp only [show (k43).sz = 2 from rfl, Nat.mul_one, Nat.add_zero] at hf8_0)
          clear hcl8 hcc8 hfr8 hM8
          go_wp2_with (first | ((with_reducible refine gate_store (t := 3) (p := 16) rfl ?_); refine store_event (t := 3) (p := 16) (v := ?vo_w9) (w1 := (wr.setCell ⟨go5, (x5_1 : Int).toNat * 2, none⟩ (.int .i64 x1_1))) ?hg ?ho ?hn ?hr ?_; (case ho => rfl); (case hg => rfl); (case hn => rfl); (case hr => first | (go_simp; done) | (go_simp; rfl)); intro w9 hw; have hg : wr.grownBy w9 (some go5) := (by rw [hw]; exact HP8.2); have hp_ : Kd.R k43 43 w9 w0.heap.size (fun k_ => (P0_ k_ ∨ w.heap.size ≤ k_)) (.slice (some ⟨go5, 0, none⟩) x0_1.length co7) y864 := (by rw [hw, Ny864.out]; exact HP8.1); clear HP8; have n0_ := Aside0.mk (hp_); have n1_ := Aside0.mk ((by rw [hw]; exact below_set (HB.out) GB5.out : Below w0.heap.size w0 w9)); have n2_ := Aside0.mk (Kept.of_grown (S := (fun k_ => P0_ k_)) hg (by repeat (first | (with_reducible first | exact HK.out | apply Kept.alloc | apply Kept.drewN | apply Kept.drew) | exact HK.out)) (fun k_ e_ => (HO_0.out.1 k_ e_))); clear HO_0; clear HB; clear HK; have HO_0 := n0_; have HB := n1_; have HK := n2_; clear n0_ n1_ n2_; clear hg hw hp_; have p6 : 0 ≤ (x5_1 : Int) := of_decide_eq_true (by first | (with_reducible assumption) | assumption); have q6 : (x5_1 : Int) < ((x0_1.length : Int) : Int) := of_decide_eq_true (by first | (with_reducible assumption) | assumption); obtain ⟨ce6, hcl6, hM6, hcc6, hfr6⟩ := Kd.R_elem HO_0.out z43 (x5_1 : Int) p6 q6; obtain rfl := k43_openM hM6; have hx6_0 : w9.cell? ⟨go5, (x5_1 : Int).toNat * 2, none⟩ = some (.int .i64 ((rd_T43 y864 x5_1).f0)) := hcc6 0 _ rfl; have hx6_1 : w9.cell? ⟨go5, (x5_1 : Int).toNat * 2 + 1, none⟩ = some (.bool ((rd_T43 y864 x5_1).f1)) := hcc6 1 _ rfl; have hf6_0 : w9.frozen? ⟨go5, (x5_1 : Int).toNat * 2, none⟩ = false := hfr6 0; have hf6_1 : w9.frozen? ⟨go5, (x5_1 : Int).toNat * 2 + 1, none⟩ = false := hfr6 1; clear hcl6 hcc6 hfr6 hM6; replace p6 := eq_true p6; replace q6 := eq_true q6; have HX10 := Aside0.mk (show Kd.R k43 43 w9 w0.heap.size (fun k_ => (P0_ k_ ∨ w.heap.size ≤ k_)) (.slice (some ⟨go5, 0, none⟩) x0_1.length co7) y864 from (rx HO_0.out)); obtain ⟨ce10, hcl10, hM10, hcc10, hfr10⟩ := Kd.R_elem HX10.out z43 (x5_1 : Int) (of_decide_eq_true (by first | (with_reducible assumption) | assumption)) (by have h_ : (x5_1 : Int) < ((x0_1.length : Int) : Int) := of_decide_eq_true (by first | (with_reducible assumption) | assumption); first | exact h_ | (have e_ := (Kd.R_reads' HO_0.out).1; omega) | simpa using h_); obtain rfl := k43_openM hM10; have HP10 := Kd.R_seg HX10.out (x5_1 : Int) (of_decide_eq_true (by first | (with_reducible assumption) | assumption)) (by have h_ : (x5_1 : Int) < ((x0_1.length : Int) : Int) := of_decide_eq_true (by first | (with_reducible assumption) | assumption); first | exact h_ | (have e_ := (Kd.R_reads' HO_0.out).1; omega) | simpa using h_) (seg := [.bool ((Int.tmod (wrap64 (x1_1 + 1)) 3) == 0)]) (j := 1) hcl10 hcc10 (show 2 ≤ 2 from by decide) (x' := (⟨(rd_T43 y864 x5_1).f0, ((Int.tmod (wrap64 (x1_1 + 1)) 3) == 0)⟩ : S43)) (k43_mkM _ _ _ (⟨(rd_T43 y864 x5_1).f0, ((Int.tmod (wrap64 (x1_1 + 1)) 3) == 0)⟩ : S43) ) (fun _ hk => hk); have hx10_1 := hcc10 1 _ rfl; (try simp only [show (k43).sz = 2 from rfl, Nat.mul_one, Nat.add_zero] at hx10_1); have hf10_1 := hfr10 1; (try simp only [show (k43).sz = 2 from rfl, Nat.mul_one, Nat.add_zero] at hf10_1); clear hcl10 hcc10 hfr10 hM10) | ((with_reducible refine gate_store (t := 4) (p := 25) rfl ?_); refine store_event (t := 4) (p := 25) (v := ?vo_w11) (w1 := (w9.setCell ⟨go5, (x5_1 : Int).toNat * 2 + 1, none⟩ (.bool ((Int.tmod (wrap64 (x1_1 + 1)) 3) == 0)))) ?hg ?ho ?hn ?hr ?_; (case ho => rfl); (case hg => rfl); (case hn => rfl); (case hr => first | (go_simp; done) | (go_simp; rfl)); intro w11 hw; have hg : w9.grownBy w11 (some go5) := (by rw [hw]; exact HP10.2); have hp_ : Kd.R k43 43 w11 w0.heap.size (fun k_ => (P0_ k_ ∨ w.heap.size ≤ k_)) (.slice (some ⟨go5, 0, none⟩) x0_1.length co7) y865 := (by rw [hw, Ny865.out]; exact HP10.1); clear HP10; have n0_ := Aside0.mk (hp_); have n1_ := Aside0.mk ((by rw [hw]; exact below_set (HB.out) GB5.out : Below w0.heap.size w0 w11)); have n2_ := Aside0.mk (Kept.of_grown (S := (fun k_ => P0_ k_)) hg (by repeat (first | (with_reducible first | exact HK.out | apply Kept.alloc | apply Kept.drewN | apply Kept.drew) | exact HK.out)) (fun k_ e_ => (HO_0.out.1 k_ e_))); clear HO_0; clear HB; clear HK; have HO_0 := n0_; have HB := n1_; have HK := n2_; clear n0_ n1_ n2_; clear hg hw hp_))
          go_roundg k1
          case measure => have := HK1.out; omega
          case rel => exact ⟨(y865), (wrap64 ((wrap64 (x1_1 + 1)) + 1)), (wrap64 (x5_1 + 1)), (by first | rfl | (simp; done) | (simp [*]; done)), (by first | rfl | (simp; done) | (simp [*]; done)), H', ⟨by have := HK1.out; omega⟩, ⟨by refine rx ?_; exact HO_0.out⟩, ⟨by repeat (first | (with_reducible first | exact HK.out | apply Kept.alloc | apply Kept.drewN | apply Kept.drew) | exact HK.out)⟩, (hbw HB)⟩
        · rw [if_neg c4] at H
          exact absurd H (by simp)
      · rw [if_neg c3] at H
        have c3b0 : decide (x5_1 < (x0_1.length : Int)) = false := decide_eq_false c3
        clear c3
        simp only [Option.some.injEq, Prod.mk.injEq] at H
        obtain ⟨rfl, rfl⟩ := H
        obtain ⟨Ao12, co12, eo12⟩ := Kd.R_slice HO_0.out
        subst eo12
        go_wp2
        go_ret
        exact ⟨exq, by refine rx ?_; exact HO_0.out, bw HB.out, by repeat (first | (with_reducible first | exact HK.out | apply Kept.alloc | apply Kept.drewN | apply Kept.drew) | exact HK.out)⟩

end Go.Proofs.Ytdkologncoofdaa.P
-- Px78
namespace Go.Proofs.Ytdkologncoofdaa.P
open Go.RowKit Go.Proofs.YtdkologncoofdaaW.PrintWords Go.Proofs.YtdkologncoofdaaW.PrintLast Go.Proofs.YtdkologncoofdaaW.PrintMore
attribute [local go_sem] max2_int min2_int max_two min_two max_three min_three max_four min_four   -- for this text's walks alone
set_option linter.unusedVariables false
set_option linter.unusedSimpArgs false

/-! ### laws_markStringS: function 57 -/
def laws_markStringS.l0 : Nat → List ByteArray → Int → Int → Option (Int × List ByteArray)
  | 0, _, _, _ => none
  | k + 1, x0, x1, x5 => if x5 < (x0.length : Int) then ((laws_markText.f k x1).bind fun t866 => (if 0 ≤ x5 then (laws_markStringS.l0 k (x0.set (x5 : Int).toNat t866) (wrap64 (x1 + 1)) (wrap64 (x5 + 1))) else (none))) else (some (x1, x0))
def laws_markStringS.f (k : Nat) (l0 : List ByteArray) (a1 : Int) : Option (Int × List ByteArray) := laws_markStringS.l0 k l0 a1 0
theorem laws_markStringS.mono_l : ∀ k, (∀ y0 y1 y2, LeO (laws_markStringS.l0 k y0 y1 y2) (laws_markStringS.l0 (k + 1) y0 y1 y2))
  | 0 => fun _ _ _ r h => by simp [laws_markStringS.l0] at h
  | k + 1 => by
    have ih0 := laws_markStringS.mono_l k
    · intro y0 y1 y2
      unfold laws_markStringS.l0
      repeat' first
      | (with_reducible exact ih0 _ _ _)
      | (with_reducible exact laws_markText.mono _ _)
      | (with_reducible exact LeO.refl _)
      | (with_reducible exact LeO.none _)
      | (with_reducible refine LeO.ite ?_ ?_)
      | (with_reducible refine LeO.bind ?_ (fun _ => ?_))
      | exact ih0 _ _ _
      | exact laws_markText.mono _ _
      | exact LeO.none _
      | refine LeO.ite ?_ ?_
      | refine LeO.bind ?_ (fun _ => ?_)
theorem laws_markStringS.mono : ∀ a0 a1 k, LeO (laws_markStringS.f k a0 a1) (laws_markStringS.f (k + 1) a0 a1) := by
  intro a0 a1 k
  have ih0 := laws_markStringS.mono_l k
  unfold laws_markStringS.f
  repeat' first
      | (with_reducible exact ih0 _ _ _)
      | (with_reducible exact laws_markText.mono _ _)
      | (with_reducible exact LeO.refl _)
      | (with_reducible exact LeO.none _)
      | (with_reducible refine LeO.ite ?_ ?_)
      | (with_reducible refine LeO.bind ?_ (fun _ => ?_))
      | exact ih0 _ _ _
      | exact laws_markText.mono _ _
      | exact LeO.none _
      | refine LeO.ite ?_ ?_
      | refine LeO.bind ?_ (fun _ => ?_)
set_option maxHeartbeats 8000000 in
set_option maxRecDepth 100000 in
theorem laws_markStringS.calls (k : Nat) (P0_ : Nat → Prop) (u9000_ : Value) (l0 : List ByteArray) (a1 : Int) (r1 : Int) (r2 : List ByteArray) (w0 w : World) (hB : Below w0.heap.size w0 w) (ho0 : Kd.R Kd.string 9 w w0.heap.size P0_ u9000_ l0) (h : laws_markStringS.f k l0 a1 = some (r1, r2)) :
    Calls Try.prog 57 #[u9000_, .int .i64 a1] w fun e w' => e = .returned (.int .i64 r1) ∧ Kd.R Kd.string 9 w' w0.heap.size (fun k_ => (P0_ k_ ∨ w.heap.size ≤ k_)) u9000_ r2 ∧ Below w0.heap.size w0 w' ∧ Kept w w' (fun k_ => P0_ k_) := by
  have HO0 := Aside0.mk (show Kd.R Kd.string 9 w w0.heap.size (fun k_ => (P0_ k_ ∨ w.heap.size ≤ k_)) u9000_ l0 from Kd.R_mono ho0 (fun k_ hk => (.inl hk)))
  have HK := Aside0.mk (Kept.refl w (fun k_ => P0_ k_))
  have HW0 := Aside0.mk hB.size
  have HB := Aside0.mk hB
  clear hB
  have H : (laws_markStringS.l0 k l0 a1 0) = some (r1, r2) := h
  clear h
  have H' := Aside0.mk H
  clear H
  go_enter Try.func57, Try.ntmps57
  go_wp2
  go_loopg [1, 5] k (fun kq v1 v5 w' => ∃ (x0_1 : List ByteArray) (x1_1 : Int) (x5_1 : Int), v1 = .int .i64 x1_1 ∧ v5 = .int .i64 x5_1 ∧ Aside0 (laws_markStringS.l0 kq x0_1 x1_1 x5_1 = some (r1, r2)) ∧ Aside0 (kq ≤ k) ∧ Aside0 (Kd.R Kd.string 9 w' w0.heap.size (fun k_ => (P0_ k_ ∨ w.heap.size ≤ k_)) u9000_ x0_1) ∧ Aside0 (Kept w w' (fun k_ => P0_ k_)) ∧ Aside0 (Below w0.heap.size w0 w'))
  case atStart => exact ⟨(l0), (a1), (0), (by first | rfl | (simp; done) | (simp [*]; done)), (by first | rfl | (simp; done) | (simp [*]; done)), H', ⟨Nat.le_refl _⟩, ⟨by refine rx ?_; exact HO0.out⟩, ⟨by repeat (first | (with_reducible first | exact HK.out | apply Kept.alloc | apply Kept.drewN | apply Kept.drew) | exact HK.out)⟩, (hbw HB)⟩
  case round =>
    clear H'
    try clear p2
    obtain ⟨x0_1, x1_1, x5_1, rfl, rfl, HA, HK1, HO_0, HK, HB⟩ := hrel
    cases gk with
    | zero => exact absurd HA.out (by simp [laws_markStringS.l0])
    | succ k1 =>
      have H := HA.out
      clear HA
      simp only [laws_markStringS.l0] at H
      by_cases c3 : x5_1 < (x0_1.length : Int)
      · rw [if_pos c3] at H
        have c3b0 : decide (x5_1 < (x0_1.length : Int)) = true := decide_eq_true c3
        clear c3
        replace H := Option.bind_eq_some_iff.mp H
        obtain ⟨t866, A40, H⟩ := H
        replace H : (if 0 ≤ x5_1 then (laws_markStringS.l0 k1 (x0_1.set (x5_1 : Int).toNat t866) (wrap64 (x1_1 + 1)) (wrap64 (x5_1 + 1))) else (none)) = some (r1, r2) := H
        have A4 := Aside0.mk A40
        clear A40
        by_cases c5 : 0 ≤ x5_1
        · rw [if_pos c5] at H
          have c5b0 : decide (0 ≤ x5_1) = true := decide_eq_true c5
          clear c5
          obtain ⟨y867, hy867⟩ : ∃ y_ : List ByteArray, y_ = (x0_1.set (x5_1 : Int).toNat t866) := ⟨_, rfl⟩
          replace H : (laws_markStringS.l0 k1 y867 (wrap64 (x1_1 + 1)) (wrap64 (x5_1 + 1))) = some (r1, r2) := by first | (rw [hy867]; with_reducible exact H) | (have H2_ := (Option.bind_some _ _).symm.trans H; rw [hy867]; with_reducible exact H2_) | (have H2_ := (Option.bind_some _ _).symm.trans H; with_reducible exact H2_) | with_reducible exact H | (rw [hy867]; exact H) | exact H
          have Ny867 := Aside0.mk hy867
          clear hy867
          have H' := Aside0.mk H
          clear H
          obtain ⟨Ao7, co7, eo7⟩ := Kd.R_slice HO_0.out
          subst eo7
          go_wp2_with (first | ((with_reducible refine gate_callee (f := 90) rfl ?_); refine goesL_ (some 15) rfl rfl Try.func90 (by kernel_rfl) rfl #[.int .i64 x1_1] rfl mxp ?_; (with_reducible refine (laws_markText.calls k1 x1_1 t866 _ A4.out).mono ?_); rintro e w8 ⟨rfl, hb⟩; refine ⟨_, rfl, ?_⟩; have n0_ := Aside0.mk (Kd.R_below (rx HO_0.out) hb); have n1_ := Aside0.mk (Kept.below (S := (fun k_ => P0_ k_)) (by repeat (first | (with_reducible first | exact HK.out | apply Kept.alloc | apply Kept.drewN | apply Kept.drew) | exact HK.out)) hb); have n2_ := bs HB hb; clear HO_0; clear HK; clear HB; have HO_0 := n0_; have HK := n1_; have HB := n2_; clear n0_ n1_ n2_; (try clear hb); (try clear hb2); (try clear hk); (try clear hi); have p6 : 0 ≤ (x5_1 : Int) := of_decide_eq_true (by first | (with_reducible assumption) | assumption); have q6 : (x5_1 : Int) < ((x0_1.length : Int) : Int) := of_decide_eq_true (by first | (with_reducible assumption) | assumption); obtain ⟨go6, co6, eo6, gb6, gl6, cl6, HG6⟩ := Kd.R_form HO_0.out (by omega); (first | cases eo6 | (injection eo6 with ea_ en_ ec_; (first | subst ea_ | (injection ea_ with ea_; subst ea_)); subst ec_; clear en_)); have GB6 := Aside0.mk gb6; have GG6 := Aside0.mk HG6; clear gb6 gl6 HG6; have HMgo6 := Aside0.mk (show (P0_ go6 ∨ w.heap.size ≤ go6) from (HO_0.out.1 _ rfl)); obtain ⟨hx6_0, hf6_0⟩ := Kd.R_celln (⟨#[]⟩ : ByteArray) HO_0.out (x5_1 : Int) p6 q6; replace p6 := eq_true p6; replace q6 := eq_true q6; obtain ⟨hy9_, hz9_⟩ := Kd.R_celln (⟨#[]⟩ : ByteArray) HO_0.out (x5_1 : Int) (of_decide_eq_true (by first | (with_reducible assumption) | assumption)) (of_decide_eq_true (by first | (with_reducible assumption) | assumption)); have HP9 := Kd.R_putg HO_0.out (x5_1 : Int) t866) | ((with_reducible refine gate_store (t := 9) (p := 16) rfl ?_); refine store_event (t := 9) (p := 16) (v := ?vo_w10) (w1 := (w8.setCell ⟨go6, (x5_1 : Int).toNat, none⟩ (.string t866))) ?hg ?ho ?hn ?hr ?_; (case ho => rfl); (case hg => rfl); (case hn => rfl); (case hr => first | (go_simp; done) | (go_simp; rfl)); intro w10 hw; have hg : w8.grownBy w10 (some go6) := (by rw [hw]; exact HP9.2); have hp_ : Kd.R Kd.string 9 w10 w0.heap.size (fun k_ => (P0_ k_ ∨ w.heap.size ≤ k_)) (.slice (some ⟨go6, 0, none⟩) x0_1.length co7) y867 := (by rw [hw, Ny867.out]; exact HP9.1); clear HP9; have n0_ := Aside0.mk (hp_); have n1_ := Aside0.mk ((by rw [hw]; exact below_set (HB.out) GB6.out : Below w0.heap.size w0 w10)); have n2_ := Aside0.mk (Kept.of_grown (S := (fun k_ => P0_ k_)) hg (by repeat (first | (with_reducible first | exact HK.out | apply Kept.alloc | apply Kept.drewN | apply Kept.drew) | exact HK.out)) (fun k_ e_ => (HO_0.out.1 k_ e_))); clear HO_0; clear HB; clear HK; have HO_0 := n0_; have HB := n1_; have HK := n2_; clear n0_ n1_ n2_; clear hg hw hp_))
          go_roundg k1
          case measure => have := HK1.out; omega
          case rel => exact ⟨(y867), (wrap64 (x1_1 + 1)), (wrap64 (x5_1 + 1)), (by first | rfl | (simp; done) | (simp [*]; done)), (by first | rfl | (simp; done) | (simp [*]; done)), H', ⟨by have := HK1.out; omega⟩, ⟨by refine rx ?_; exact HO_0.out⟩, ⟨by repeat (first | (with_reducible first | exact HK.out | apply Kept.alloc | apply Kept.drewN | apply Kept.drew) | exact HK.out)⟩, (hbw HB)⟩
        · rw [if_neg c5] at H
          exact absurd H (by simp)
      · rw [if_neg c3] at H
        have c3b0 : decide (x5_1 < (x0_1.length : Int)) = false := decide_eq_false c3
        clear c3
        simp only [Option.some.injEq, Prod.mk.injEq] at H
        obtain ⟨rfl, rfl⟩ := H
        obtain ⟨Ao11, co11, eo11⟩ := Kd.R_slice HO_0.out
        subst eo11
        go_wp2
        go_ret
        exact ⟨exq, by refine rx ?_; exact HO_0.out, bw HB.out, by repeat (first | (with_reducible first | exact HK.out | apply Kept.alloc | apply Kept.drewN | apply Kept.drew) | exact HK.out)⟩

end Go.Proofs.Ytdkologncoofdaa.P
-- Px79
namespace Go.Proofs.Ytdkologncoofdaa.P
open Go.RowKit Go.Proofs.YtdkologncoofdaaW.PrintWords Go.Proofs.YtdkologncoofdaaW.PrintLast Go.Proofs.YtdkologncoofdaaW.PrintMore
attribute [local go_sem] max2_int min2_int max_two min_two max_three min_three max_four min_four   -- for this text's walks alone
set_option linter.unusedVariables false
set_option linter.unusedSimpArgs false

/-! ### laws_heldStringS: function 58 -/
def laws_heldStringS.l0 : Nat → List ByteArray → Int → Int → Option (Int)
  | 0, _, _, _ => none
  | k + 1, x0, x1, x5 => if x5 < (x0.length : Int) then (if 0 ≤ x5 then ((laws_markText.f k x1).bind fun t869 => (if (rdOf ByteArray.empty x0 x5).toList = t869.toList then (laws_heldStringS.l0 k x0 (wrap64 (x1 + 1)) (wrap64 (x5 + 1))) else (some (-1)))) else (none)) else (some x1)
def laws_heldStringS.f (k : Nat) (l0 : List ByteArray) (a1 : Int) : Option (Int) := laws_heldStringS.l0 k l0 a1 0
theorem laws_heldStringS.mono_l : ∀ k, (∀ y0 y1 y2, LeO (laws_heldStringS.l0 k y0 y1 y2) (laws_heldStringS.l0 (k + 1) y0 y1 y2))
  | 0 => fun _ _ _ r h => by simp [laws_heldStringS.l0] at h
  | k + 1 => by
    have ih0 := laws_heldStringS.mono_l k
    · intro y0 y1 y2
      unfold laws_heldStringS.l0
      repeat' first
      | (with_reducible exact ih0 _ _ _)
      | (with_reducible exact laws_markText.mono _ _)
      | (with_reducible exact LeO.refl _)
      | (with_reducible exact LeO.none _)
      | (with_reducible refine LeO.ite ?_ ?_)
      | (with_reducible refine LeO.bind ?_ (fun _ => ?_))
      | exact ih0 _ _ _
      | exact laws_markText.mono _ _
      | exact LeO.none _
      | refine LeO.ite ?_ ?_
      | refine LeO.bind ?_ (fun _ => ?_)
theorem laws_heldStringS.mono : ∀ a0 a1 k, LeO (laws_heldStringS.f k a0 a1) (laws_heldStringS.f (k + 1) a0 a1) := by
  intro a0 a1 k
  have ih0 := laws_heldStringS.mono_l k
  unfold laws_heldStringS.f
  repeat' first
      | (with_reducible exact ih0 _ _ _)
      | (with_reducible exact laws_markText.mono _ _)
      | (with_reducible exact LeO.refl _)
      | (with_reducible exact LeO.none _)
      | (with_reducible refine LeO.ite ?_ ?_)
      | (with_reducible refine LeO.bind ?_ (fun _ => ?_))
      | exact ih0 _ _ _
      | exact laws_markText.mono _ _
      | exact LeO.none _
      | refine LeO.ite ?_ ?_
      | refine LeO.bind ?_ (fun _ => ?_)
set_option maxHeartbeats 8000000 in
set_option maxRecDepth 100000 in
theorem laws_heldStringS.calls (k : Nat) (A0 : Option Addr) (c0 : Nat) (l0 : List ByteArray) (a1 : Int) (r : Int) (w : World) (hr0 : Kd.C Kd.string w A0 l0.length l0) (hc0 : l0.length ≤ c0) (h : laws_heldStringS.f k l0 a1 = some r) :
    Calls Try.prog 58 #[.slice A0 l0.length c0, .int .i64 a1] w fun e w' => e = .returned (.int .i64 r) ∧ Below w.heap.size w w' := by
  have HR0 := Aside0.mk hr0
  have HC0 := Aside0.mk hc0
  clear hr0 hc0
  have HB := Aside0.mk (Below.refl w.heap.size w)
  have H : (laws_heldStringS.l0 k l0 a1 0) = some r := h
  clear h
  have H' := Aside0.mk H
  clear H
  go_enter Try.func58, Try.ntmps58
  go_wp2
  go_loopg [1, 5] k (fun kq v1 v5 w' => ∃ (x1_1 : Int) (x5_1 : Int), v1 = .int .i64 x1_1 ∧ v5 = .int .i64 x5_1 ∧ Aside0 (laws_heldStringS.l0 kq l0 x1_1 x5_1 = some r) ∧ Aside0 (kq ≤ k) ∧ Aside0 (Below w.heap.size w w'))
  case atStart => exact ⟨(a1), (0), (by first | rfl | (simp; done) | (simp [*]; done)), (by first | rfl | (simp; done) | (simp [*]; done)), H', ⟨Nat.le_refl _⟩, (hbw HB)⟩
  case round =>
    clear H'
    try clear p2
    obtain ⟨x1_1, x5_1, rfl, rfl, HA, HK1, HB⟩ := hrel
    cases gk with
    | zero => exact absurd HA.out (by simp [laws_heldStringS.l0])
    | succ k1 =>
      have H := HA.out
      clear HA
      simp only [laws_heldStringS.l0] at H
      by_cases c3 : x5_1 < (l0.length : Int)
      · rw [if_pos c3] at H
        have c3b0 : decide (x5_1 < (l0.length : Int)) = true := decide_eq_true c3
        clear c3
        by_cases c4 : 0 ≤ x5_1
        · rw [if_pos c4] at H
          have c4b0 : decide (0 ≤ x5_1) = true := decide_eq_true c4
          clear c4
          replace H := Option.bind_eq_some_iff.mp H
          obtain ⟨t869, A50, H⟩ := H
          replace H : (if (rdOf ByteArray.empty l0 x5_1).toList = t869.toList then (laws_heldStringS.l0 k1 l0 (wrap64 (x1_1 + 1)) (wrap64 (x5_1 + 1))) else (some (-1))) = some r := H
          have A5 := Aside0.mk A50
          clear A50
          by_cases c6 : (rdOf ByteArray.empty l0 x5_1).toList = t869.toList
          · rw [if_pos c6] at H
            have c6b0 : ((rdOf ByteArray.empty l0 x5_1).toList == t869.toList) = true := beq_iff_eq.mpr c6
            have c6b1 : ((rdOf ByteArray.empty l0 x5_1).toList != t869.toList) = false := bne_eq_false_iff_eq.mpr c6
            clear c6
            have H' := Aside0.mk H
            clear H
            try go_wp2
            have n0_ := Aside0.mk (below_drew1 HB.out)
            clear HB
            have HB := n0_
            clear n0_
            have p868 : 0 ≤ (x5_1 : Int) := of_decide_eq_true (by first | (with_reducible assumption) | assumption)
            have q868 : x5_1 < (l0.length : Int) := of_decide_eq_true (by first | (with_reducible assumption) | assumption)
            obtain ⟨ad868, e868, hx868_0⟩ := Kd.at_string HR0.out x5_1 p868 q868
            have hw868_0 := hx868_0
            cases e868
            replace hx868_0 := bcl HB hx868_0
            replace p868 := eq_true p868
            replace q868 := eq_true q868
            refine start_ (n := 7) (S := fun w' => w'.cell? (ad868.add (x5_1).toNat) = some (.string (rdOf ByteArray.empty l0 x5_1))) (ds := []) #[false, false, false, false, false, false, false] (by kernel_rfl) rfl rfl (((HB.out.cell (World.block_lt_of_cell? w _ hw868_0)).trans hw868_0)) (fun hHeld => ?_)
            generalize wr.drew = w7 at HB hx868_0 hHeld ⊢
            refine pure_ (i := 0) (N := some 12) (v := ?_) (a' := ?_) #[true, false, false, false, false, false, false] rfl rfl (by kernel_rfl) (fun _ _ _ h => h) (Or.inl ⟨by rfl, ?_⟩) ?_ ?_
            rotate_left
            · intro w'
              go_simp
              with_reducible rfl
            rotate_left
            · simp only [Act.put, List.setIfInBounds_toArray, List.set_cons_zero, List.set_cons_succ, i64_w, i32_w]
              rfl
            refine pure_ (i := 1) (N := some 13) (v := ?_) (a' := ?_) #[true, true, false, false, false, false, false] rfl rfl (by kernel_rfl) (fun _ _ _ h => h) (Or.inl ⟨by rfl, ?_⟩) ?_ ?_
            rotate_left
            · intro w'
              go_simp
              with_reducible rfl
            rotate_left
            · simp only [Act.put, List.setIfInBounds_toArray, List.set_cons_zero, List.set_cons_succ, i64_w, i32_w]
              rfl
            refine pure_ (i := 2) (N := some 14) (v := ?_) (a' := ?_) #[true, true, true, false, false, false, false] rfl rfl (by kernel_rfl) (fun _ _ _ h => h) (Or.inl ⟨by rfl, ?_⟩) ?_ ?_
            rotate_left
            · intro w'
              go_simp
              with_reducible rfl
            rotate_left
            · simp only [Act.put, List.setIfInBounds_toArray, List.set_cons_zero, List.set_cons_succ, i64_w, i32_w]
              rfl
            refine pure_ (i := 4) (N := some 16) (v := ?_) (a' := ?_) #[true, true, true, false, true, false, false] rfl rfl (by kernel_rfl) (fun _ _ _ h => h) (Or.inl ⟨by rfl, ?_⟩) ?_ ?_
            rotate_left
            · intro w'
              go_simp
              with_reducible rfl
            rotate_left
            · simp only [Act.put, List.setIfInBounds_toArray, List.set_cons_zero, List.set_cons_succ, i64_w, i32_w]
              rfl
            refine take_ (i := 3) (N := some 15) (v := ?_) (a' := ?_) #[true, true, true, true, true, false, false] rfl rfl (by kernel_rfl) (fun _ _ _ h => h) (Or.inl ⟨by rfl, ?_⟩) hHeld ?_ ?_
            rotate_left
            · intro w' s0
              go_simp
              with_reducible rfl
            rotate_left
            · simp only [Act.put, List.setIfInBounds_toArray, List.set_cons_zero, List.set_cons_succ, i64_w, i32_w]
              rfl
            refine one_ (i := 5) (N := some 17) #[true, true, true, true, true, true, false] rfl rfl (by kernel_rfl) (by decide) (fun K hK => ?_)
            refine goes_ Try.func90 (by kernel_rfl) rfl #[.int .i64 x1_1] (by rfl) rfl rfl mxp ?_
            with_reducible refine (laws_markText.calls k1 x1_1 t869 _ A5.out).mono ?_
            rintro e w8 ⟨rfl, hb⟩
            refine ⟨_, rfl, ?_⟩
            have n0_ := bs HB hb
            clear HB
            have HB := n0_
            clear n0_
            (try clear hb)
            (try clear hb2)
            (try clear hk)
            (try clear hi)
            refine hK.out _ _ (((HB.out.cell (World.block_lt_of_cell? w _ hw868_0)).trans hw868_0)) (fun hHeld => ?_)
            clear hK K
            refine norm_ (a' := ?_) ?_ ?_
            rotate_left
            · show Act.put _ (some 17) _ = _
              simp only [Act.put, List.setIfInBounds_toArray, List.set_cons_zero, List.set_cons_succ, i64_w, i32_w]
              rfl
            refine pure_ (i := 6) (N := some 18) (v := ?_) (a' := ?_) #[true, true, true, true, true, true, true] rfl rfl (by kernel_rfl) (fun _ _ _ h => h) (Or.inl ⟨by rfl, ?_⟩) ?_ ?_
            rotate_left
            · intro w'
              go_simp
              with_reducible rfl
            rotate_left
            · simp only [Act.put, List.setIfInBounds_toArray, List.set_cons_zero, List.set_cons_succ, i64_w, i32_w]
              rfl
            refine done_ (by kernel_rfl) ?_
            try go_wp2
            go_roundg k1
            case measure => have := HK1.out; omega
            case rel => exact ⟨(wrap64 (x1_1 + 1)), (wrap64 (x5_1 + 1)), (by first | rfl | (simp; done) | (simp [*]; done)), (by first | rfl | (simp; done) | (simp [*]; done)), H', ⟨by have := HK1.out; omega⟩, (hbw HB)⟩
          · rw [if_neg c6] at H
            have c6b0 : ((rdOf ByteArray.empty l0 x5_1).toList == t869.toList) = false := beq_eq_false_iff_ne.mpr c6
            have c6b1 : ((rdOf ByteArray.empty l0 x5_1).toList != t869.toList) = true := bne_iff_ne.mpr c6
            obtain rfl := Option.some.inj H
            try go_wp2
            have n0_ := Aside0.mk (below_drew1 HB.out)
            clear HB
            have HB := n0_
            clear n0_
            have p868 : 0 ≤ (x5_1 : Int) := of_decide_eq_true (by first | (with_reducible assumption) | assumption)
            have q868 : x5_1 < (l0.length : Int) := of_decide_eq_true (by first | (with_reducible assumption) | assumption)
            obtain ⟨ad868, e868, hx868_0⟩ := Kd.at_string HR0.out x5_1 p868 q868
            have hw868_0 := hx868_0
            cases e868
            replace hx868_0 := bcl HB hx868_0
            replace p868 := eq_true p868
            replace q868 := eq_true q868
            refine start_ (n := 7) (S := fun w' => w'.cell? (ad868.add (x5_1).toNat) = some (.string (rdOf ByteArray.empty l0 x5_1))) (ds := []) #[false, false, false, false, false, false, false] (by kernel_rfl) rfl rfl (((HB.out.cell (World.block_lt_of_cell? w _ hw868_0)).trans hw868_0)) (fun hHeld => ?_)
            generalize wr.drew = w9 at HB hx868_0 hHeld ⊢
            refine pure_ (i := 0) (N := some 12) (v := ?_) (a' := ?_) #[true, false, false, false, false, false, false] rfl rfl (by kernel_rfl) (fun _ _ _ h => h) (Or.inl ⟨by rfl, ?_⟩) ?_ ?_
            rotate_left
            · intro w'
              go_simp
              with_reducible rfl
            rotate_left
            · simp only [Act.put, List.setIfInBounds_toArray, List.set_cons_zero, List.set_cons_succ, i64_w, i32_w]
              rfl
            refine pure_ (i := 1) (N := some 13) (v := ?_) (a' := ?_) #[true, true, false, false, false, false, false] rfl rfl (by kernel_rfl) (fun _ _ _ h => h) (Or.inl ⟨by rfl, ?_⟩) ?_ ?_
            rotate_left
            · intro w'
              go_simp
              with_reducible rfl
            rotate_left
            · simp only [Act.put, List.setIfInBounds_toArray, List.set_cons_zero, List.set_cons_succ, i64_w, i32_w]
              rfl
            refine pure_ (i := 2) (N := some 14) (v := ?_) (a' := ?_) #[true, true, true, false, false, false, false] rfl rfl (by kernel_rfl) (fun _ _ _ h => h) (Or.inl ⟨by rfl, ?_⟩) ?_ ?_
            rotate_left
            · intro w'
              go_simp
              with_reducible rfl
            rotate_left
            · simp only [Act.put, List.setIfInBounds_toArray, List.set_cons_zero, List.set_cons_succ, i64_w, i32_w]
              rfl
            refine pure_ (i := 4) (N := some 16) (v := ?_) (a' := ?_) #[true, true, true, false, true, false, false] rfl rfl (by kernel_rfl) (fun _ _ _ h => h) (Or.inl ⟨by rfl, ?_⟩) ?_ ?_
            rotate_left
            · intro w'
              go_simp
              with_reducible rfl
            rotate_left
            · simp only [Act.put, List.setIfInBounds_toArray, List.set_cons_zero, List.set_cons_succ, i64_w, i32_w]
              rfl
            refine take_ (i := 3) (N := some 15) (v := ?_) (a' := ?_) #[true, true, true, true, true, false, false] rfl rfl (by kernel_rfl) (fun _ _ _ h => h) (Or.inl ⟨by rfl, ?_⟩) hHeld ?_ ?_
            rotate_left
            · intro w' s0
              go_simp
              with_reducible rfl
            rotate_left
            · simp only [Act.put, List.setIfInBounds_toArray, List.set_cons_zero, List.set_cons_succ, i64_w, i32_w]
              rfl
            refine one_ (i := 5) (N := some 17) #[true, true, true, true, true, true, false] rfl rfl (by kernel_rfl) (by decide) (fun K hK => ?_)
            refine goes_ Try.func90 (by kernel_rfl) rfl #[.int .i64 x1_1] (by rfl) rfl rfl mxp ?_
            with_reducible refine (laws_markText.calls k1 x1_1 t869 _ A5.out).mono ?_
            rintro e w10 ⟨rfl, hb⟩
            refine ⟨_, rfl, ?_⟩
            have n0_ := bs HB hb
            clear HB
            have HB := n0_
            clear n0_
            (try clear hb)
            (try clear hb2)
            (try clear hk)
            (try clear hi)
            refine hK.out _ _ (((HB.out.cell (World.block_lt_of_cell? w _ hw868_0)).trans hw868_0)) (fun hHeld => ?_)
            clear hK K
            refine norm_ (a' := ?_) ?_ ?_
            rotate_left
            · show Act.put _ (some 17) _ = _
              simp only [Act.put, List.setIfInBounds_toArray, List.set_cons_zero, List.set_cons_succ, i64_w, i32_w]
              rfl
            refine pure_ (i := 6) (N := some 18) (v := ?_) (a' := ?_) #[true, true, true, true, true, true, true] rfl rfl (by kernel_rfl) (fun _ _ _ h => h) (Or.inl ⟨by rfl, ?_⟩) ?_ ?_
            rotate_left
            · intro w'
              go_simp
              with_reducible rfl
            rotate_left
            · simp only [Act.put, List.setIfInBounds_toArray, List.set_cons_zero, List.set_cons_succ, i64_w, i32_w]
              rfl
            refine done_ (by kernel_rfl) ?_
            try go_wp2
            go_ret
            exact ⟨exq, bw HB.out⟩
        · rw [if_neg c4] at H
          exact absurd H (by simp)
      · rw [if_neg c3] at H
        have c3b0 : decide (x5_1 < (l0.length : Int)) = false := decide_eq_false c3
        clear c3
        obtain rfl := Option.some.inj H
        go_wp2
        go_ret
        exact ⟨exq, bw HB.out⟩

end Go.Proofs.Ytdkologncoofdaa.P
