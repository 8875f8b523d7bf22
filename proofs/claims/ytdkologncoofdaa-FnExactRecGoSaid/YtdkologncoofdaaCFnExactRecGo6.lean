/- Part 6 of the texts that the law FnExactRecGo reaches: contracts of the functions and plain lemmas. -/
import Derived.Test.YtdkologncoofdaaCFnExactRecGo5
-- Px64
namespace Go.Proofs.Ytdkologncoofdaa.P
open Go.RowKit Go.Proofs.YtdkologncoofdaaW.PrintWords Go.Proofs.YtdkologncoofdaaW.PrintLast Go.Proofs.YtdkologncoofdaaW.PrintMore
attribute [local go_sem] max2_int min2_int max_two min_two max_three min_three max_four min_four   -- for this text's walks alone
set_option linter.unusedVariables false
set_option linter.unusedSimpArgs false

/-! ### laws_FnExactRecGo: function 13 -/
def laws_FnExactRecGo.j0 : Nat → List (S48) → List (S39) → Bool → Option (Bool)
  | 0, _, _, _ => none
  | k + 1, x0, x10, x52 => if x52 = true then (some false) else ((laws_toRecPhaseS.f k x0).bind fun t698 => ((laws_eqRecPhaseS.f k x10 t698).bind fun t701 => (if t701 = true then (some true) else (some false))))
def laws_FnExactRecGo.f (k : Nat) (l0 : List (S48)) (a1_0 : ByteArray) (a1_1 : Int) (a1_2 : Int) (a2_0 : Int) (a2_1 : Bool) : Option (Bool) := (laws_szRecPhaseS.f k l0 1048576).bind fun t669 => (if t669 < 0 then (some true) else ((laws_szRecState.f a1_0 a1_1 a1_2 t669).bind fun t670 => (if t670 < 0 then (some true) else ((laws_toRecPhaseS.f k l0).bind fun t671 => ((laws_toRecState.f a1_0 a1_1 a1_2).bind fun bt674 => ((laws_toRecSay.f a2_0 a2_1).bind fun bt677 => ((spec_RecGo.f k t671 bt674.1 bt674.2.1 bt674.2.2 bt677.1 bt677.2).bind fun bt679 => ((laws_toRecPhaseS.f k l0).bind fun t684 => ((laws_toRecState.f a1_0 a1_1 a1_2).bind fun bt687 => ((laws_toRecSay.f a2_0 a2_1).bind fun bt690 => ((impl_RecGo.f k t684 bt687.1 bt687.2.1 bt687.2.2 bt690.1 bt690.2).bind fun bt692 => ((laws_eqRecState.f bt692.1 bt692.2.1 bt692.2.2.1 bt679.1 bt679.2.1 bt679.2.2.1).bind fun t697 => (if t697 = true then (laws_FnExactRecGo.j0 k l0 t684 (bt692.2.2.2 != bt679.2.2.2)) else (laws_FnExactRecGo.j0 k l0 t684 true))))))))))))))
theorem laws_FnExactRecGo.mono_l : ∀ k, (∀ y0 y1 y2, LeO (laws_FnExactRecGo.j0 k y0 y1 y2) (laws_FnExactRecGo.j0 (k + 1) y0 y1 y2))
  | 0 => fun _ _ _ r h => by simp [laws_FnExactRecGo.j0] at h
  | k + 1 => by
    have ih0 := laws_FnExactRecGo.mono_l k
    · intro y0 y1 y2
      unfold laws_FnExactRecGo.j0
      repeat' first
      | (with_reducible exact ih0 _ _ _)
      | (with_reducible exact impl_RecGo.mono _ _ _ _ _ _ _)
      | (with_reducible exact laws_eqRecPhaseS.mono _ _ _)
      | (with_reducible exact laws_szRecPhaseS.mono _ _ _)
      | (with_reducible exact laws_toRecPhaseS.mono _ _)
      | (with_reducible exact spec_RecGo.mono _ _ _ _ _ _ _)
      | (with_reducible exact LeO.refl _)
      | (with_reducible exact LeO.none _)
      | (with_reducible refine LeO.ite ?_ ?_)
      | (with_reducible refine LeO.bind ?_ (fun _ => ?_))
      | exact ih0 _ _ _
      | exact impl_RecGo.mono _ _ _ _ _ _ _
      | exact laws_eqRecPhaseS.mono _ _ _
      | exact laws_szRecPhaseS.mono _ _ _
      | exact laws_toRecPhaseS.mono _ _
      | exact spec_RecGo.mono _ _ _ _ _ _ _
      | exact LeO.none _
      | refine LeO.ite ?_ ?_
      | refine LeO.bind ?_ (fun _ => ?_)
theorem laws_FnExactRecGo.mono : ∀ a0 a1 a2 a3 a4 a5 k, LeO (laws_FnExactRecGo.f k a0 a1 a2 a3 a4 a5) (laws_FnExactRecGo.f (k + 1) a0 a1 a2 a3 a4 a5) := by
  intro a0 a1 a2 a3 a4 a5 k
  have ih0 := laws_FnExactRecGo.mono_l k
  unfold laws_FnExactRecGo.f
  repeat' first
      | (with_reducible exact ih0 _ _ _)
      | (with_reducible exact impl_RecGo.mono _ _ _ _ _ _ _)
      | (with_reducible exact laws_eqRecPhaseS.mono _ _ _)
      | (with_reducible exact laws_szRecPhaseS.mono _ _ _)
      | (with_reducible exact laws_toRecPhaseS.mono _ _)
      | (with_reducible exact spec_RecGo.mono _ _ _ _ _ _ _)
      | (with_reducible exact LeO.refl _)
      | (with_reducible exact LeO.none _)
      | (with_reducible refine LeO.ite ?_ ?_)
      | (with_reducible refine LeO.bind ?_ (fun _ => ?_))
      | exact ih0 _ _ _
      | exact impl_RecGo.mono _ _ _ _ _ _ _
      | exact laws_eqRecPhaseS.mono _ _ _
      | exact laws_szRecPhaseS.mono _ _ _
      | exact laws_toRecPhaseS.mono _ _
      | exact spec_RecGo.mono _ _ _ _ _ _ _
      | exact LeO.none _
      | refine LeO.ite ?_ ?_
      | refine LeO.bind ?_ (fun _ => ?_)
def laws_FnExactRecGo.T8 : Bool × List (List Nat × List Nat) := (true, [([], []), ([0], [0]), ([], []), ([2, 1], [2]), ([], []), ([4, 3], [4]), ([1, 3, 5, 5], [1, 3, 5]), ([6], [6]), ([7], [7]), ([7], [7]), ([], []), ([10, 8, 6, 0, 1, 2, 3, 4, 5, 6, 7, 8, 10], [8, 10]), ([9, 11, 0, 1, 2, 3, 4, 5, 6, 7, 8, 9, 10, 11], [9])])
def laws_FnExactRecGo.B8 : List Nat := [0, 1, 0, 7, 0, 31, 63, 127, 255, 255, 0, 1535, 4095]
theorem laws_FnExactRecGo.tab8 : rtab .any (opsOf Try.f13 8) = laws_FnExactRecGo.T8 := by kernel_rfl
theorem laws_FnExactRecGo.bits8 : waitsOk laws_FnExactRecGo.T8.2 laws_FnExactRecGo.B8 = true := by kernel_rfl
def laws_FnExactRecGo.T10 : Bool × List (List Nat × List Nat) := (true, [([], []), ([], []), ([1], [1]), ([], []), ([3, 2], [3]), ([0, 2, 4, 4], [0, 2, 4]), ([5], [5]), ([6], [6]), ([6], [6]), ([], []), ([9, 7, 5, 0, 1, 2, 3, 4, 5, 6, 7, 9], [7, 9]), ([8, 10, 0, 1, 2, 3, 4, 5, 6, 7, 8, 9, 10], [8])])
def laws_FnExactRecGo.B10 : List Nat := [0, 0, 2, 0, 14, 31, 63, 127, 127, 0, 767, 2047]
theorem laws_FnExactRecGo.tab10 : rtab .any (opsOf Try.f13 10) = laws_FnExactRecGo.T10 := by kernel_rfl
theorem laws_FnExactRecGo.bits10 : waitsOk laws_FnExactRecGo.T10.2 laws_FnExactRecGo.B10 = true := by kernel_rfl
set_option maxHeartbeats 8000000 in
set_option maxRecDepth 100000 in
theorem laws_FnExactRecGo.calls (k : Nat) (A0 : Option Addr) (c0 : Nat) (l0 : List (S48)) (a1_0 : ByteArray) (a1_1 : Int) (a1_2 : Int) (a2_0 : Int) (a2_1 : Bool) (r : Bool) (w : World) (hr0 : Kd.C k48 w A0 l0.length l0) (hc0 : l0.length ≤ c0) (h : laws_FnExactRecGo.f k l0 a1_0 a1_1 a1_2 a2_0 a2_1 = some r) :
    Calls Try.prog 13 #[.slice A0 l0.length c0, .agg #[.string a1_0, .int .i64 a1_1, .int .i64 a1_2], .agg #[.int .i64 a2_0, .bool a2_1]] w fun e w' => e = .returned (.bool r) ∧ Below w.heap.size w w' := by
  have hu65 := Try.underlying65
  have hu66 := Try.underlying66
  have hu31 := Try.underlying31
  have HR0 := Aside0.mk hr0
  have HC0 := Aside0.mk hc0
  clear hr0 hc0
  have HB := Aside0.mk (Below.refl w.heap.size w)
  have H : ((laws_szRecPhaseS.f k l0 1048576).bind fun t669 => (if t669 < 0 then (some true) else ((laws_szRecState.f a1_0 a1_1 a1_2 t669).bind fun t670 => (if t670 < 0 then (some true) else ((laws_toRecPhaseS.f k l0).bind fun t671 => ((laws_toRecState.f a1_0 a1_1 a1_2).bind fun bt674 => ((laws_toRecSay.f a2_0 a2_1).bind fun bt677 => ((spec_RecGo.f k t671 bt674.1 bt674.2.1 bt674.2.2 bt677.1 bt677.2).bind fun bt679 => ((laws_toRecPhaseS.f k l0).bind fun t684 => ((laws_toRecState.f a1_0 a1_1 a1_2).bind fun bt687 => ((laws_toRecSay.f a2_0 a2_1).bind fun bt690 => ((impl_RecGo.f k t684 bt687.1 bt687.2.1 bt687.2.2 bt690.1 bt690.2).bind fun bt692 => ((laws_eqRecState.f bt692.1 bt692.2.1 bt692.2.2.1 bt679.1 bt679.2.1 bt679.2.2.1).bind fun t697 => (if t697 = true then (laws_FnExactRecGo.j0 k l0 t684 (bt692.2.2.2 != bt679.2.2.2)) else (laws_FnExactRecGo.j0 k l0 t684 true))))))))))))))) = some r := h
  clear h
  replace H := Option.bind_eq_some_iff.mp H
  obtain ⟨t669, A40, H⟩ := H
  replace H : (if t669 < 0 then (some true) else ((laws_szRecState.f a1_0 a1_1 a1_2 t669).bind fun t670 => (if t670 < 0 then (some true) else ((laws_toRecPhaseS.f k l0).bind fun t671 => ((laws_toRecState.f a1_0 a1_1 a1_2).bind fun bt674 => ((laws_toRecSay.f a2_0 a2_1).bind fun bt677 => ((spec_RecGo.f k t671 bt674.1 bt674.2.1 bt674.2.2 bt677.1 bt677.2).bind fun bt679 => ((laws_toRecPhaseS.f k l0).bind fun t684 => ((laws_toRecState.f a1_0 a1_1 a1_2).bind fun bt687 => ((laws_toRecSay.f a2_0 a2_1).bind fun bt690 => ((impl_RecGo.f k t684 bt687.1 bt687.2.1 bt687.2.2 bt690.1 bt690.2).bind fun bt692 => ((laws_eqRecState.f bt692.1 bt692.2.1 bt692.2.2.1 bt679.1 bt679.2.1 bt679.2.2.1).bind fun t697 => (if t697 = true then (laws_FnExactRecGo.j0 k l0 t684 (bt692.2.2.2 != bt679.2.2.2)) else (laws_FnExactRecGo.j0 k l0 t684 true)))))))))))))) = some r := H
  have A4 := Aside0.mk A40
  clear A40
  by_cases c5 : t669 < 0
  · rw [if_pos c5] at H
    have c5b0 : decide (t669 < 0) = true := decide_eq_true c5
    clear c5
    obtain rfl := Option.some.inj H
    go_enter Try.func13, Try.ntmps13
    go_wp2_with (first | ((with_reducible refine gate_dst (N := 4) rfl ?_); refine box_event ?hg (N := 4) ?hd (cs := #[.string a1_0, .int .i64 a1_1, .int .i64 a1_2]) (t := 65) ?hr ?_; (case hd => rfl); (case hg => rfl); (case hr => first | (go_simp; done) | (go_simp; rfl)); intro gb667 hg w6 hbox hb; have n0_ := Aside0.mk (below_step (by repeat (first | (with_reducible first | exact HB.out | apply below_alloc | apply pw_below_drewN | apply below_drew1) | exact HB.out)) hb); have n1_ := Aside0.mk (hbox); have n2_ := Aside0.mk ((by rw [hg]; exact (below_size (by repeat (first | (with_reducible first | exact HB.out | apply below_alloc | apply pw_below_drewN | apply below_drew1) | exact HB.out))) : w.heap.size ≤ gb667)); have n3_ := Aside0.mk ((by rw [hg]; exact (below_size (by repeat (first | (with_reducible first | exact HB.out | apply below_alloc | apply pw_below_drewN | apply below_drew1) | exact HB.out))) : w.heap.size ≤ gb667)); clear HB; have HB := n0_; have BK667 := n1_; have GW667 := n2_; have GE667 := n3_; clear n0_ n1_ n2_ n3_; clear hb hbox hg) | ((with_reducible refine gate_dst (N := 5) rfl ?_); refine box_event ?hg (N := 5) ?hd (cs := #[.int .i64 a2_0, .bool a2_1]) (t := 66) ?hr ?_; (case hd => rfl); (case hg => rfl); (case hr => first | (go_simp; done) | (go_simp; rfl)); intro gb668 hg w7 hbox hb; have n0_ := Aside0.mk (blk_below (g := gb667) (o := .cells #[.string a1_0, .int .i64 a1_1, .int .i64 a1_2] 65 (0, 0)) (by (with_reducible repeat (first | refine blk_drewN ?_ _ | refine blk_drew ?_ | refine blk_alloc ?_ _)); exact BK667.out) hb); have n1_ := Aside0.mk (below_step (by repeat (first | (with_reducible first | exact HB.out | apply below_alloc | apply pw_below_drewN | apply below_drew1 | refine below_set ?_ GE667.out) | exact HB.out)) hb); have n2_ := Aside0.mk (hbox); have n3_ := Aside0.mk ((by rw [hg]; exact (below_size (by repeat (first | (with_reducible first | exact HB.out | apply below_alloc | apply pw_below_drewN | apply below_drew1 | refine below_set ?_ GE667.out) | exact HB.out))) : w.heap.size ≤ gb668)); have n4_ := Aside0.mk ((by rw [hg]; exact (below_size (by repeat (first | (with_reducible first | exact HB.out | apply below_alloc | apply pw_below_drewN | apply below_drew1 | refine below_set ?_ GE667.out) | exact HB.out))) : w.heap.size ≤ gb668)); have n5_ := Aside0.mk ((by rw [hg]; exact Nat.ne_of_lt (blk_lt (g := gb667) (o := .cells #[.string a1_0, .int .i64 a1_1, .int .i64 a1_2] 65 (0, 0)) (by (with_reducible repeat (first | refine blk_drewN ?_ _ | refine blk_drew ?_ | refine blk_alloc ?_ _)); exact BK667.out)) : gb667 ≠ gb668)); have n6_ := Aside0.mk ((by rw [hg]; exact Nat.ne_of_gt (blk_lt (g := gb667) (o := .cells #[.string a1_0, .int .i64 a1_1, .int .i64 a1_2] 65 (0, 0)) (by (with_reducible repeat (first | refine blk_drewN ?_ _ | refine blk_drew ?_ | refine blk_alloc ?_ _)); exact BK667.out)) : gb668 ≠ gb667)); clear BK667; clear HB; have BK667 := n0_; have HB := n1_; have BK668 := n2_; have GW668 := n3_; have GE668 := n4_; have NB667_668 := n5_; have NB668_667 := n6_; clear n0_ n1_ n2_ n3_ n4_ n5_ n6_; clear hb hbox hg) | ((with_reducible refine gate_callee (f := 37) rfl ?_); refine goesL_ (some 15) rfl rfl Try.func37 (by kernel_rfl) rfl #[.slice A0 l0.length c0, .int .i64 1048576] rfl (by (try simp only [List.map_toArray, List.map_cons, List.map_nil]); first | done | rfl | (simp only [List.length_drop, List.length_take]; rfl)) ?_; (with_reducible refine (laws_szRecPhaseS.calls k _ _ l0 1048576 t669 _ ?side1 ?side2 A4.out).mono ?_); (case side1 => repeat (first | exact (Kd.C_below HR0.out HB.out) | (with_reducible refine Kd.C_alloc ?_ _) | (with_reducible refine Kd.C_drewN ?_ _) | (with_reducible refine Kd.C_drew ?_))); (case side2 => exact HC0.out); rintro e w8 ⟨rfl, hb⟩; refine ⟨_, rfl, ?_⟩; have n0_ := Aside0.mk (blk_below (g := gb667) (o := .cells #[.string a1_0, .int .i64 a1_1, .int .i64 a1_2] 65 (0, 0)) (by (with_reducible repeat (first | refine blk_drewN ?_ _ | refine blk_drew ?_ | refine blk_alloc ?_ _)); exact BK667.out) hb); have n1_ := Aside0.mk (blk_below (g := gb668) (o := .cells #[.int .i64 a2_0, .bool a2_1] 66 (0, 0)) (by (with_reducible repeat (first | refine blk_drewN ?_ _ | refine blk_drew ?_ | refine blk_alloc ?_ _)); exact BK668.out) hb); have n2_ := Aside0.mk (below_step (by repeat (first | (with_reducible first | exact HB.out | apply below_alloc | apply pw_below_drewN | apply below_drew1 | refine below_set ?_ GE667.out | refine below_set ?_ GE668.out) | exact HB.out)) hb); clear BK667; clear BK668; clear HB; have BK667 := n0_; have BK668 := n1_; have HB := n2_; clear n0_ n1_ n2_; (try clear hb); (try clear hb2); (try clear hk); (try clear hi)))
    go_ret
    exact ⟨by first | rfl | (simp [errW_none, errW_some] <;> rfl) | (simp [*, errW_none, errW_some] <;> rfl), by repeat (first | (with_reducible first | exact HB.out | apply below_alloc | apply pw_below_drewN | apply below_drew1 | refine below_set ?_ GE667.out | refine below_set ?_ GE668.out) | exact HB.out)⟩
  · rw [if_neg c5] at H
    have c5b0 : decide (t669 < 0) = false := decide_eq_false c5
    clear c5
    replace H := Option.bind_eq_some_iff.mp H
    obtain ⟨t670, A90, H⟩ := H
    replace H : (if t670 < 0 then (some true) else ((laws_toRecPhaseS.f k l0).bind fun t671 => ((laws_toRecState.f a1_0 a1_1 a1_2).bind fun bt674 => ((laws_toRecSay.f a2_0 a2_1).bind fun bt677 => ((spec_RecGo.f k t671 bt674.1 bt674.2.1 bt674.2.2 bt677.1 bt677.2).bind fun bt679 => ((laws_toRecPhaseS.f k l0).bind fun t684 => ((laws_toRecState.f a1_0 a1_1 a1_2).bind fun bt687 => ((laws_toRecSay.f a2_0 a2_1).bind fun bt690 => ((impl_RecGo.f k t684 bt687.1 bt687.2.1 bt687.2.2 bt690.1 bt690.2).bind fun bt692 => ((laws_eqRecState.f bt692.1 bt692.2.1 bt692.2.2.1 bt679.1 bt679.2.1 bt679.2.2.1).bind fun t697 => (if t697 = true then (laws_FnExactRecGo.j0 k l0 t684 (bt692.2.2.2 != bt679.2.2.2)) else (laws_FnExactRecGo.j0 k l0 t684 true)))))))))))) = some r := H
    have A9 := Aside0.mk A90
    clear A90
    by_cases c10 : t670 < 0
    · rw [if_pos c10] at H
      have c10b0 : decide (t670 < 0) = true := decide_eq_true c10
      clear c10
      obtain rfl := Option.some.inj H
      go_enter Try.func13, Try.ntmps13
      go_wp2_with (first | ((with_reducible refine gate_dst (N := 4) rfl ?_); refine box_event ?hg (N := 4) ?hd (cs := #[.string a1_0, .int .i64 a1_1, .int .i64 a1_2]) (t := 65) ?hr ?_; (case hd => rfl); (case hg => rfl); (case hr => first | (go_simp; done) | (go_simp; rfl)); intro gb667 hg w11 hbox hb; have n0_ := Aside0.mk (below_step (by repeat (first | (with_reducible first | exact HB.out | apply below_alloc | apply pw_below_drewN | apply below_drew1) | exact HB.out)) hb); have n1_ := Aside0.mk (hbox); have n2_ := Aside0.mk ((by rw [hg]; exact (below_size (by repeat (first | (with_reducible first | exact HB.out | apply below_alloc | apply pw_below_drewN | apply below_drew1) | exact HB.out))) : w.heap.size ≤ gb667)); have n3_ := Aside0.mk ((by rw [hg]; exact (below_size (by repeat (first | (with_reducible first | exact HB.out | apply below_alloc | apply pw_below_drewN | apply below_drew1) | exact HB.out))) : w.heap.size ≤ gb667)); clear HB; have HB := n0_; have BK667 := n1_; have GW667 := n2_; have GE667 := n3_; clear n0_ n1_ n2_ n3_; clear hb hbox hg) | ((with_reducible refine gate_dst (N := 5) rfl ?_); refine box_event ?hg (N := 5) ?hd (cs := #[.int .i64 a2_0, .bool a2_1]) (t := 66) ?hr ?_; (case hd => rfl); (case hg => rfl); (case hr => first | (go_simp; done) | (go_simp; rfl)); intro gb668 hg w12 hbox hb; have n0_ := Aside0.mk (blk_below (g := gb667) (o := .cells #[.string a1_0, .int .i64 a1_1, .int .i64 a1_2] 65 (0, 0)) (by (with_reducible repeat (first | refine blk_drewN ?_ _ | refine blk_drew ?_ | refine blk_alloc ?_ _)); exact BK667.out) hb); have n1_ := Aside0.mk (below_step (by repeat (first | (with_reducible first | exact HB.out | apply below_alloc | apply pw_below_drewN | apply below_drew1 | refine below_set ?_ GE667.out) | exact HB.out)) hb); have n2_ := Aside0.mk (hbox); have n3_ := Aside0.mk ((by rw [hg]; exact (below_size (by repeat (first | (with_reducible first | exact HB.out | apply below_alloc | apply pw_below_drewN | apply below_drew1 | refine below_set ?_ GE667.out) | exact HB.out))) : w.heap.size ≤ gb668)); have n4_ := Aside0.mk ((by rw [hg]; exact (below_size (by repeat (first | (with_reducible first | exact HB.out | apply below_alloc | apply pw_below_drewN | apply below_drew1 | refine below_set ?_ GE667.out) | exact HB.out))) : w.heap.size ≤ gb668)); have n5_ := Aside0.mk ((by rw [hg]; exact Nat.ne_of_lt (blk_lt (g := gb667) (o := .cells #[.string a1_0, .int .i64 a1_1, .int .i64 a1_2] 65 (0, 0)) (by (with_reducible repeat (first | refine blk_drewN ?_ _ | refine blk_drew ?_ | refine blk_alloc ?_ _)); exact BK667.out)) : gb667 ≠ gb668)); have n6_ := Aside0.mk ((by rw [hg]; exact Nat.ne_of_gt (blk_lt (g := gb667) (o := .cells #[.string a1_0, .int .i64 a1_1, .int .i64 a1_2] 65 (0, 0)) (by (with_reducible repeat (first | refine blk_drewN ?_ _ | refine blk_drew ?_ | refine blk_alloc ?_ _)); exact BK667.out)) : gb668 ≠ gb667)); clear BK667; clear HB; have BK667 := n0_; have HB := n1_; have BK668 := n2_; have GW668 := n3_; have GE668 := n4_; have NB667_668 := n5_; have NB668_667 := n6_; clear n0_ n1_ n2_ n3_ n4_ n5_ n6_; clear hb hbox hg) | ((with_reducible refine gate_callee (f := 37) rfl ?_); refine goesL_ (some 15) rfl rfl Try.func37 (by kernel_rfl) rfl #[.slice A0 l0.length c0, .int .i64 1048576] rfl (by (try simp only [List.map_toArray, List.map_cons, List.map_nil]); first | done | rfl | (simp only [List.length_drop, List.length_take]; rfl)) ?_; (with_reducible refine (laws_szRecPhaseS.calls k _ _ l0 1048576 t669 _ ?side1 ?side2 A4.out).mono ?_); (case side1 => repeat (first | exact (Kd.C_below HR0.out HB.out) | (with_reducible refine Kd.C_alloc ?_ _) | (with_reducible refine Kd.C_drewN ?_ _) | (with_reducible refine Kd.C_drew ?_))); (case side2 => exact HC0.out); rintro e w13 ⟨rfl, hb⟩; refine ⟨_, rfl, ?_⟩; have n0_ := Aside0.mk (blk_below (g := gb667) (o := .cells #[.string a1_0, .int .i64 a1_1, .int .i64 a1_2] 65 (0, 0)) (by (with_reducible repeat (first | refine blk_drewN ?_ _ | refine blk_drew ?_ | refine blk_alloc ?_ _)); exact BK667.out) hb); have n1_ := Aside0.mk (blk_below (g := gb668) (o := .cells #[.int .i64 a2_0, .bool a2_1] 66 (0, 0)) (by (with_reducible repeat (first | refine blk_drewN ?_ _ | refine blk_drew ?_ | refine blk_alloc ?_ _)); exact BK668.out) hb); have n2_ := Aside0.mk (below_step (by repeat (first | (with_reducible first | exact HB.out | apply below_alloc | apply pw_below_drewN | apply below_drew1 | refine below_set ?_ GE667.out | refine below_set ?_ GE668.out) | exact HB.out)) hb); clear BK667; clear BK668; clear HB; have BK667 := n0_; have BK668 := n1_; have HB := n2_; clear n0_ n1_ n2_; (try clear hb); (try clear hb2); (try clear hk); (try clear hi); have hnb14 := NB667_668.out; have hnc14 := NB668_667.out; have hcz15_0 : w13.cell? ⟨gb667, 0, none⟩ = some (.string a1_0) := (blk_cell BK667.out 0).trans rfl; have hcz15_1 : w13.cell? ⟨gb667, 1, none⟩ = some (.int .i64 a1_1) := (blk_cell BK667.out 1).trans rfl; have hcz15_2 : w13.cell? ⟨gb667, 2, none⟩ = some (.int .i64 a1_2) := (blk_cell BK667.out 2).trans rfl; have hfz15_0 := blk_frozen BK667.out 0; have hfz15_1 := blk_frozen BK667.out 1; have hfz15_2 := blk_frozen BK667.out 2) | ((with_reducible refine gate_callee (f := 46) rfl ?_); refine goesL_ (some 20) rfl rfl Try.func46 (by kernel_rfl) rfl #[.agg #[.string a1_0, .int .i64 a1_1, .int .i64 a1_2], .int .i64 t669] rfl (by (try simp only [List.map_toArray, List.map_cons, List.map_nil]); first | done | rfl | (simp only [List.length_drop, List.length_take]; rfl)) ?_; (with_reducible refine (laws_szRecState.calls a1_0 a1_1 a1_2 t669 t670 _ A9.out).mono ?_); rintro e w16 ⟨rfl, hb⟩; refine ⟨_, rfl, ?_⟩; have n0_ := Aside0.mk (blk_below (g := gb667) (o := .cells #[.string a1_0, .int .i64 a1_1, .int .i64 a1_2] 65 (0, 0)) (by (with_reducible repeat (first | refine blk_drewN ?_ _ | refine blk_drew ?_ | refine blk_alloc ?_ _)); exact BK667.out) hb); have n1_ := Aside0.mk (blk_below (g := gb668) (o := .cells #[.int .i64 a2_0, .bool a2_1] 66 (0, 0)) (by (with_reducible repeat (first | refine blk_drewN ?_ _ | refine blk_drew ?_ | refine blk_alloc ?_ _)); exact BK668.out) hb); have n2_ := Aside0.mk (below_step (by repeat (first | (with_reducible first | exact HB.out | apply below_alloc | apply pw_below_drewN | apply below_drew1 | refine below_set ?_ GE667.out | refine below_set ?_ GE668.out) | exact HB.out)) hb); clear BK667; clear BK668; clear HB; have BK667 := n0_; have BK668 := n1_; have HB := n2_; clear n0_ n1_ n2_; (try clear hb); (try clear hb2); (try clear hk); (try clear hi)))
      go_ret
      exact ⟨by first | rfl | (simp [errW_none, errW_some] <;> rfl) | (simp [*, errW_none, errW_some] <;> rfl), by repeat (first | (with_reducible first | exact HB.out | apply below_alloc | apply pw_below_drewN | apply below_drew1 | refine below_set ?_ GE667.out | refine below_set ?_ GE668.out) | exact HB.out)⟩
    · rw [if_neg c10] at H
      have c10b0 : decide (t670 < 0) = false := decide_eq_false c10
      clear c10
      replace H := Option.bind_eq_some_iff.mp H
      obtain ⟨t671, A170, H⟩ := H
      replace H : ((laws_toRecState.f a1_0 a1_1 a1_2).bind fun bt674 => ((laws_toRecSay.f a2_0 a2_1).bind fun bt677 => ((spec_RecGo.f k t671 bt674.1 bt674.2.1 bt674.2.2 bt677.1 bt677.2).bind fun bt679 => ((laws_toRecPhaseS.f k l0).bind fun t684 => ((laws_toRecState.f a1_0 a1_1 a1_2).bind fun bt687 => ((laws_toRecSay.f a2_0 a2_1).bind fun bt690 => ((impl_RecGo.f k t684 bt687.1 bt687.2.1 bt687.2.2 bt690.1 bt690.2).bind fun bt692 => ((laws_eqRecState.f bt692.1 bt692.2.1 bt692.2.2.1 bt679.1 bt679.2.1 bt679.2.2.1).bind fun t697 => (if t697 = true then (laws_FnExactRecGo.j0 k l0 t684 (bt692.2.2.2 != bt679.2.2.2)) else (laws_FnExactRecGo.j0 k l0 t684 true)))))))))) = some r := H
      have A17 := Aside0.mk A170
      clear A170
      replace H := Option.bind_eq_some_iff.mp H
      obtain ⟨⟨t674, t675, t676⟩, A180, H⟩ := H
      replace H : ((laws_toRecSay.f a2_0 a2_1).bind fun bt677 => ((spec_RecGo.f k t671 t674 t675 t676 bt677.1 bt677.2).bind fun bt679 => ((laws_toRecPhaseS.f k l0).bind fun t684 => ((laws_toRecState.f a1_0 a1_1 a1_2).bind fun bt687 => ((laws_toRecSay.f a2_0 a2_1).bind fun bt690 => ((impl_RecGo.f k t684 bt687.1 bt687.2.1 bt687.2.2 bt690.1 bt690.2).bind fun bt692 => ((laws_eqRecState.f bt692.1 bt692.2.1 bt692.2.2.1 bt679.1 bt679.2.1 bt679.2.2.1).bind fun t697 => (if t697 = true then (laws_FnExactRecGo.j0 k l0 t684 (bt692.2.2.2 != bt679.2.2.2)) else (laws_FnExactRecGo.j0 k l0 t684 true))))))))) = some r := H
      have A18 := Aside0.mk A180
      clear A180
      replace H := Option.bind_eq_some_iff.mp H
      obtain ⟨⟨t677, t678⟩, A190, H⟩ := H
      replace H : ((spec_RecGo.f k t671 t674 t675 t676 t677 t678).bind fun bt679 => ((laws_toRecPhaseS.f k l0).bind fun t684 => ((laws_toRecState.f a1_0 a1_1 a1_2).bind fun bt687 => ((laws_toRecSay.f a2_0 a2_1).bind fun bt690 => ((impl_RecGo.f k t684 bt687.1 bt687.2.1 bt687.2.2 bt690.1 bt690.2).bind fun bt692 => ((laws_eqRecState.f bt692.1 bt692.2.1 bt692.2.2.1 bt679.1 bt679.2.1 bt679.2.2.1).bind fun t697 => (if t697 = true then (laws_FnExactRecGo.j0 k l0 t684 (bt692.2.2.2 != bt679.2.2.2)) else (laws_FnExactRecGo.j0 k l0 t684 true)))))))) = some r := H
      have A19 := Aside0.mk A190
      clear A190
      replace H := Option.bind_eq_some_iff.mp H
      obtain ⟨⟨t679, t680, t681, t682⟩, A200, H⟩ := H
      replace H : ((laws_toRecPhaseS.f k l0).bind fun t684 => ((laws_toRecState.f a1_0 a1_1 a1_2).bind fun bt687 => ((laws_toRecSay.f a2_0 a2_1).bind fun bt690 => ((impl_RecGo.f k t684 bt687.1 bt687.2.1 bt687.2.2 bt690.1 bt690.2).bind fun bt692 => ((laws_eqRecState.f bt692.1 bt692.2.1 bt692.2.2.1 t679 t680 t681).bind fun t697 => (if t697 = true then (laws_FnExactRecGo.j0 k l0 t684 (bt692.2.2.2 != t682)) else (laws_FnExactRecGo.j0 k l0 t684 true))))))) = some r := H
      have A20 := Aside0.mk A200
      clear A200
      replace H := Option.bind_eq_some_iff.mp H
      obtain ⟨t684, A210, H⟩ := H
      replace H : ((laws_toRecState.f a1_0 a1_1 a1_2).bind fun bt687 => ((laws_toRecSay.f a2_0 a2_1).bind fun bt690 => ((impl_RecGo.f k t684 bt687.1 bt687.2.1 bt687.2.2 bt690.1 bt690.2).bind fun bt692 => ((laws_eqRecState.f bt692.1 bt692.2.1 bt692.2.2.1 t679 t680 t681).bind fun t697 => (if t697 = true then (laws_FnExactRecGo.j0 k l0 t684 (bt692.2.2.2 != t682)) else (laws_FnExactRecGo.j0 k l0 t684 true)))))) = some r := H
      have A21 := Aside0.mk A210
      clear A210
      replace H := Option.bind_eq_some_iff.mp H
      obtain ⟨⟨t687, t688, t689⟩, A220, H⟩ := H
      replace H : ((laws_toRecSay.f a2_0 a2_1).bind fun bt690 => ((impl_RecGo.f k t684 t687 t688 t689 bt690.1 bt690.2).bind fun bt692 => ((laws_eqRecState.f bt692.1 bt692.2.1 bt692.2.2.1 t679 t680 t681).bind fun t697 => (if t697 = true then (laws_FnExactRecGo.j0 k l0 t684 (bt692.2.2.2 != t682)) else (laws_FnExactRecGo.j0 k l0 t684 true))))) = some r := H
      have A22 := Aside0.mk A220
      clear A220
      replace H := Option.bind_eq_some_iff.mp H
      obtain ⟨⟨t690, t691⟩, A230, H⟩ := H
      replace H : ((impl_RecGo.f k t684 t687 t688 t689 t690 t691).bind fun bt692 => ((laws_eqRecState.f bt692.1 bt692.2.1 bt692.2.2.1 t679 t680 t681).bind fun t697 => (if t697 = true then (laws_FnExactRecGo.j0 k l0 t684 (bt692.2.2.2 != t682)) else (laws_FnExactRecGo.j0 k l0 t684 true)))) = some r := H
      have A23 := Aside0.mk A230
      clear A230
      replace H := Option.bind_eq_some_iff.mp H
      obtain ⟨⟨t692, t693, t694, t695⟩, A240, H⟩ := H
      replace H : ((laws_eqRecState.f t692 t693 t694 t679 t680 t681).bind fun t697 => (if t697 = true then (laws_FnExactRecGo.j0 k l0 t684 (t695 != t682)) else (laws_FnExactRecGo.j0 k l0 t684 true))) = some r := H
      have A24 := Aside0.mk A240
      clear A240
      have HC25 := Aside0.mk H
      clear H
      go_enter Try.func13, Try.ntmps13
      try go_wp2_with (first | ((with_reducible refine gate_dst (N := 4) rfl ?_); refine box_event ?hg (N := 4) ?hd (cs := #[.string a1_0, .int .i64 a1_1, .int .i64 a1_2]) (t := 65) ?hr ?_; (case hd => rfl); (case hg => rfl); (case hr => first | (go_simp; done) | (go_simp; rfl)); intro gb667 hg w26 hbox hb; have n0_ := Aside0.mk (below_step (by repeat (first | (with_reducible first | exact HB.out | apply below_alloc | apply pw_below_drewN | apply below_drew1) | exact HB.out)) hb); have n1_ := Aside0.mk (hbox); have n2_ := Aside0.mk ((by rw [hg]; exact (below_size (by repeat (first | (with_reducible first | exact HB.out | apply below_alloc | apply pw_below_drewN | apply below_drew1) | exact HB.out))) : w.heap.size ≤ gb667)); have n3_ := Aside0.mk ((by rw [hg]; exact (below_size (by repeat (first | (with_reducible first | exact HB.out | apply below_alloc | apply pw_below_drewN | apply below_drew1) | exact HB.out))) : w.heap.size ≤ gb667)); clear HB; have HB := n0_; have BK667 := n1_; have GW667 := n2_; have GE667 := n3_; clear n0_ n1_ n2_ n3_; clear hb hbox hg) | ((with_reducible refine gate_dst (N := 5) rfl ?_); refine box_event ?hg (N := 5) ?hd (cs := #[.int .i64 a2_0, .bool a2_1]) (t := 66) ?hr ?_; (case hd => rfl); (case hg => rfl); (case hr => first | (go_simp; done) | (go_simp; rfl)); intro gb668 hg w27 hbox hb; have n0_ := Aside0.mk (blk_below (g := gb667) (o := .cells #[.string a1_0, .int .i64 a1_1, .int .i64 a1_2] 65 (0, 0)) (by (with_reducible repeat (first | refine blk_drewN ?_ _ | refine blk_drew ?_ | refine blk_alloc ?_ _)); exact BK667.out) hb); have n1_ := Aside0.mk (below_step (by repeat (first | (with_reducible first | exact HB.out | apply below_alloc | apply pw_below_drewN | apply below_drew1 | refine below_set ?_ GE667.out) | exact HB.out)) hb); have n2_ := Aside0.mk (hbox); have n3_ := Aside0.mk ((by rw [hg]; exact (below_size (by repeat (first | (with_reducible first | exact HB.out | apply below_alloc | apply pw_below_drewN | apply below_drew1 | refine below_set ?_ GE667.out) | exact HB.out))) : w.heap.size ≤ gb668)); have n4_ := Aside0.mk ((by rw [hg]; exact (below_size (by repeat (first | (with_reducible first | exact HB.out | apply below_alloc | apply pw_below_drewN | apply below_drew1 | refine below_set ?_ GE667.out) | exact HB.out))) : w.heap.size ≤ gb668)); have n5_ := Aside0.mk ((by rw [hg]; exact Nat.ne_of_lt (blk_lt (g := gb667) (o := .cells #[.string a1_0, .int .i64 a1_1, .int .i64 a1_2] 65 (0, 0)) (by (with_reducible repeat (first | refine blk_drewN ?_ _ | refine blk_drew ?_ | refine blk_alloc ?_ _)); exact BK667.out)) : gb667 ≠ gb668)); have n6_ := Aside0.mk ((by rw [hg]; exact Nat.ne_of_gt (blk_lt (g := gb667) (o := .cells #[.string a1_0, .int .i64 a1_1, .int .i64 a1_2] 65 (0, 0)) (by (with_reducible repeat (first | refine blk_drewN ?_ _ | refine blk_drew ?_ | refine blk_alloc ?_ _)); exact BK667.out)) : gb668 ≠ gb667)); clear BK667; clear HB; have BK667 := n0_; have HB := n1_; have BK668 := n2_; have GW668 := n3_; have GE668 := n4_; have NB667_668 := n5_; have NB668_667 := n6_; clear n0_ n1_ n2_ n3_ n4_ n5_ n6_; clear hb hbox hg) | ((with_reducible refine gate_callee (f := 37) rfl ?_); refine goesL_ (some 15) rfl rfl Try.func37 (by kernel_rfl) rfl #[.slice A0 l0.length c0, .int .i64 1048576] rfl (by (try simp only [List.map_toArray, List.map_cons, List.map_nil]); first | done | rfl | (simp only [List.length_drop, List.length_take]; rfl)) ?_; (with_reducible refine (laws_szRecPhaseS.calls k _ _ l0 1048576 t669 _ ?side1 ?side2 A4.out).mono ?_); (case side1 => repeat (first | exact (Kd.C_below HR0.out HB.out) | (with_reducible refine Kd.C_alloc ?_ _) | (with_reducible refine Kd.C_drewN ?_ _) | (with_reducible refine Kd.C_drew ?_))); (case side2 => exact HC0.out); rintro e w28 ⟨rfl, hb⟩; refine ⟨_, rfl, ?_⟩; have n0_ := Aside0.mk (blk_below (g := gb667) (o := .cells #[.string a1_0, .int .i64 a1_1, .int .i64 a1_2] 65 (0, 0)) (by (with_reducible repeat (first | refine blk_drewN ?_ _ | refine blk_drew ?_ | refine blk_alloc ?_ _)); exact BK667.out) hb); have n1_ := Aside0.mk (blk_below (g := gb668) (o := .cells #[.int .i64 a2_0, .bool a2_1] 66 (0, 0)) (by (with_reducible repeat (first | refine blk_drewN ?_ _ | refine blk_drew ?_ | refine blk_alloc ?_ _)); exact BK668.out) hb); have n2_ := Aside0.mk (below_step (by repeat (first | (with_reducible first | exact HB.out | apply below_alloc | apply pw_below_drewN | apply below_drew1 | refine below_set ?_ GE667.out | refine below_set ?_ GE668.out) | exact HB.out)) hb); clear BK667; clear BK668; clear HB; have BK667 := n0_; have BK668 := n1_; have HB := n2_; clear n0_ n1_ n2_; (try clear hb); (try clear hb2); (try clear hk); (try clear hi); have hnb29 := NB667_668.out; have hnc29 := NB668_667.out; have hcz30_0 : w28.cell? ⟨gb667, 0, none⟩ = some (.string a1_0) := (blk_cell BK667.out 0).trans rfl; have hcz30_1 : w28.cell? ⟨gb667, 1, none⟩ = some (.int .i64 a1_1) := (blk_cell BK667.out 1).trans rfl; have hcz30_2 : w28.cell? ⟨gb667, 2, none⟩ = some (.int .i64 a1_2) := (blk_cell BK667.out 2).trans rfl; have hfz30_0 := blk_frozen BK667.out 0; have hfz30_1 := blk_frozen BK667.out 1; have hfz30_2 := blk_frozen BK667.out 2) | ((with_reducible refine gate_callee (f := 46) rfl ?_); refine goesL_ (some 20) rfl rfl Try.func46 (by kernel_rfl) rfl #[.agg #[.string a1_0, .int .i64 a1_1, .int .i64 a1_2], .int .i64 t669] rfl (by (try simp only [List.map_toArray, List.map_cons, List.map_nil]); first | done | rfl | (simp only [List.length_drop, List.length_take]; rfl)) ?_; (with_reducible refine (laws_szRecState.calls a1_0 a1_1 a1_2 t669 t670 _ A9.out).mono ?_); rintro e w31 ⟨rfl, hb⟩; refine ⟨_, rfl, ?_⟩; have n0_ := Aside0.mk (blk_below (g := gb667) (o := .cells #[.string a1_0, .int .i64 a1_1, .int .i64 a1_2] 65 (0, 0)) (by (with_reducible repeat (first | refine blk_drewN ?_ _ | refine blk_drew ?_ | refine blk_alloc ?_ _)); exact BK667.out) hb); have n1_ := Aside0.mk (blk_below (g := gb668) (o := .cells #[.int .i64 a2_0, .bool a2_1] 66 (0, 0)) (by (with_reducible repeat (first | refine blk_drewN ?_ _ | refine blk_drew ?_ | refine blk_alloc ?_ _)); exact BK668.out) hb); have n2_ := Aside0.mk (below_step (by repeat (first | (with_reducible first | exact HB.out | apply below_alloc | apply pw_below_drewN | apply below_drew1 | refine below_set ?_ GE667.out | refine below_set ?_ GE668.out) | exact HB.out)) hb); clear BK667; clear BK668; clear HB; have BK667 := n0_; have BK668 := n1_; have HB := n2_; clear n0_ n1_ n2_; (try clear hb); (try clear hb2); (try clear hk); (try clear hi)))
      have n0_ := Aside0.mk (blk_drew BK667.out)
      have n1_ := Aside0.mk (blk_drew BK668.out)
      have n2_ := Aside0.mk (below_drew1 HB.out)
      clear BK667
      clear BK668
      clear HB
      have BK667 := n0_
      have BK668 := n1_
      have HB := n2_
      clear n0_ n1_ n2_
      refine start_ (n := 13) (S := fun w' => w'.cell? ⟨gb667, 0, none⟩ = some (.string a1_0) ∧ w'.cell? ⟨gb667, 1, none⟩ = some (.int .i64 a1_1) ∧ w'.cell? ⟨gb667, 2, none⟩ = some (.int .i64 a1_2) ∧ w'.cell? ⟨gb668, 0, none⟩ = some (.int .i64 a2_0) ∧ w'.cell? ⟨gb668, 1, none⟩ = some (.bool a2_1)) (ds := []) #[false, false, false, false, false, false, false, false, false, false, false, false, false] (by kernel_rfl) rfl rfl ⟨(blk_cell BK667.out 0).trans rfl, (blk_cell BK667.out 1).trans rfl, (blk_cell BK667.out 2).trans rfl, (blk_cell BK668.out 0).trans rfl, (blk_cell BK668.out 1).trans rfl⟩ (fun hHeld => ?_); refine with_tabW laws_FnExactRecGo.tab8 laws_FnExactRecGo.bits8 (fun HT_ HW_ => ?_)
      generalize w31.drew = w32 at BK667 BK668 HB hHeld ⊢
      refine pure_ (i := 0) (N := some 24) (v := ?_) (a' := ?_) #[true, false, false, false, false, false, false, false, false, false, false, false, false] rfl rfl (any_of HT_.out (by kernel_rfl)) (fun _ _ _ h => h) (Or.inl ⟨by rfl, ?_⟩) ?_ ?_
      rotate_left
      · intro w'
        go_simp
        with_reducible rfl
      rotate_left
      · simp only [Act.put, List.setIfInBounds_toArray, List.set_cons_zero, List.set_cons_succ, i64_w, i32_w]
        rfl
      refine take_ (i := 2) (N := some 26) (v := ?_) (a' := ?_) #[true, false, true, false, false, false, false, false, false, false, false, false, false] rfl rfl (take_ofW HT_.out HW_.out (by kernel_rfl)) (fun _ _ _ h => h) (Or.inl ⟨by rfl, ?_⟩) hHeld ?_ ?_
      rotate_left
      · rintro w' ⟨s0, s1, s2, s3, s4⟩
        go_simp
        with_reducible rfl
      rotate_left
      · simp only [Act.put, List.setIfInBounds_toArray, List.set_cons_zero, List.set_cons_succ, i64_w, i32_w]
        rfl
      refine take_ (i := 4) (N := some 28) (v := ?_) (a' := ?_) #[true, false, true, false, true, false, false, false, false, false, false, false, false] rfl rfl (take_ofW HT_.out HW_.out (by kernel_rfl)) (fun _ _ _ h => h) (Or.inl ⟨by rfl, ?_⟩) hHeld ?_ ?_
      rotate_left
      · rintro w' ⟨s0, s1, s2, s3, s4⟩
        go_simp
        with_reducible rfl
      rotate_left
      · simp only [Act.put, List.setIfInBounds_toArray, List.set_cons_zero, List.set_cons_succ, i64_w, i32_w]
        rfl
      refine join_ (σ := Value × Nat) 2 #[true, true, true, true, true, true, true, true, true, true, true, false, false] (fun s_ => [(25, s_.1), (27, .agg #[.string t674, .int .i64 t675, .int .i64 t676]), (29, .agg #[.int .i64 t677, .bool t678]), (30, .tuple #[.agg #[.string t679, .int .i64 t680, .int .i64 t681], .bool t682]), (8, .pointer (some ⟨s_.2, 0, none⟩)), (23, .tuple #[.agg #[.string t679, .int .i64 t680, .int .i64 t681], .bool t682]), (31, .agg #[.string t679, .int .i64 t680, .int .i64 t681]), (32, .bool t682)]) (fun s_ w' => (w'.cell? ⟨gb667, 0, none⟩ = some (.string a1_0) ∧ w'.cell? ⟨gb667, 1, none⟩ = some (.int .i64 a1_1) ∧ w'.cell? ⟨gb667, 2, none⟩ = some (.int .i64 a1_2) ∧ w'.cell? ⟨gb668, 0, none⟩ = some (.int .i64 a2_0) ∧ w'.cell? ⟨gb668, 1, none⟩ = some (.bool a2_1)) ∧ (Kd.R k39 39 w' w.heap.size (fun _ => True) s_.1 t671) ∧ (w'.heap[gb667]? = some (.cells #[.string a1_0, .int .i64 a1_1, .int .i64 a1_2] 65 (0, 0))) ∧ (w'.heap[gb668]? = some (.cells #[.int .i64 a2_0, .bool a2_1] 66 (0, 0))) ∧ (w'.heap[s_.2]? = some (.cells #[.string (⟨#[]⟩ : ByteArray), .int .i64 0, .int .i64 0] 31 (0, 0))) ∧ (w.heap.size ≤ s_.2) ∧ (w.heap.size ≤ s_.2) ∧ (gb667 ≠ s_.2) ∧ (s_.2 ≠ gb667) ∧ (gb668 ≠ s_.2) ∧ (s_.2 ≠ gb668) ∧ (Below w.heap.size w w')) ?_ ?_
      rotate_left
      · intro hJ1_3_5_6_10
        refine join_ (σ := Value) 3 #[true, true, true, true, true, true, true, true, true, true, false, false, false] (fun s_ => [(25, s_), (27, .agg #[.string t674, .int .i64 t675, .int .i64 t676]), (29, .agg #[.int .i64 t677, .bool t678]), (30, .tuple #[.agg #[.string t679, .int .i64 t680, .int .i64 t681], .bool t682]), (23, .tuple #[.agg #[.string t679, .int .i64 t680, .int .i64 t681], .bool t682]), (31, .agg #[.string t679, .int .i64 t680, .int .i64 t681]), (32, .bool t682)]) (fun s_ w' => (w'.cell? ⟨gb667, 0, none⟩ = some (.string a1_0) ∧ w'.cell? ⟨gb667, 1, none⟩ = some (.int .i64 a1_1) ∧ w'.cell? ⟨gb667, 2, none⟩ = some (.int .i64 a1_2) ∧ w'.cell? ⟨gb668, 0, none⟩ = some (.int .i64 a2_0) ∧ w'.cell? ⟨gb668, 1, none⟩ = some (.bool a2_1)) ∧ (Kd.R k39 39 w' w.heap.size (fun _ => True) s_ t671) ∧ (w'.heap[gb667]? = some (.cells #[.string a1_0, .int .i64 a1_1, .int .i64 a1_2] 65 (0, 0))) ∧ (w'.heap[gb668]? = some (.cells #[.int .i64 a2_0, .bool a2_1] 66 (0, 0))) ∧ (Below w.heap.size w w')) ?_ ?_
        rotate_left
        · intro hJ1_3_5_6
          refine join_ (σ := Value × Nat) 6 #[true, true, true, true, true, true, false, false, false, false, true, false, false] (fun s_ => [(25, s_.1), (27, .agg #[.string t674, .int .i64 t675, .int .i64 t676]), (29, .agg #[.int .i64 t677, .bool t678]), (8, .pointer (some ⟨s_.2, 0, none⟩))]) (fun s_ w' => (w'.cell? ⟨gb667, 0, none⟩ = some (.string a1_0) ∧ w'.cell? ⟨gb667, 1, none⟩ = some (.int .i64 a1_1) ∧ w'.cell? ⟨gb667, 2, none⟩ = some (.int .i64 a1_2) ∧ w'.cell? ⟨gb668, 0, none⟩ = some (.int .i64 a2_0) ∧ w'.cell? ⟨gb668, 1, none⟩ = some (.bool a2_1)) ∧ (Kd.R k39 39 w' w.heap.size (fun _ => True) s_.1 t671) ∧ (w'.heap[gb667]? = some (.cells #[.string a1_0, .int .i64 a1_1, .int .i64 a1_2] 65 (0, 0))) ∧ (w'.heap[gb668]? = some (.cells #[.int .i64 a2_0, .bool a2_1] 66 (0, 0))) ∧ (w'.heap[s_.2]? = some (.cells #[.string (⟨#[]⟩ : ByteArray), .int .i64 0, .int .i64 0] 31 (0, 0))) ∧ (w.heap.size ≤ s_.2) ∧ (w.heap.size ≤ s_.2) ∧ (gb667 ≠ s_.2) ∧ (s_.2 ≠ gb667) ∧ (gb668 ≠ s_.2) ∧ (s_.2 ≠ gb668) ∧ (Below w.heap.size w w')) ?_ ?_
          rotate_left
          · intro hJ1_3_5_10
            refine join_ (σ := Value) 7 #[true, true, true, true, true, true, false, false, false, false, false, false, false] (fun s_ => [(25, s_), (27, .agg #[.string t674, .int .i64 t675, .int .i64 t676]), (29, .agg #[.int .i64 t677, .bool t678])]) (fun s_ w' => (w'.cell? ⟨gb667, 0, none⟩ = some (.string a1_0) ∧ w'.cell? ⟨gb667, 1, none⟩ = some (.int .i64 a1_1) ∧ w'.cell? ⟨gb667, 2, none⟩ = some (.int .i64 a1_2) ∧ w'.cell? ⟨gb668, 0, none⟩ = some (.int .i64 a2_0) ∧ w'.cell? ⟨gb668, 1, none⟩ = some (.bool a2_1)) ∧ (Kd.R k39 39 w' w.heap.size (fun _ => True) s_ t671) ∧ (w'.heap[gb667]? = some (.cells #[.string a1_0, .int .i64 a1_1, .int .i64 a1_2] 65 (0, 0))) ∧ (w'.heap[gb668]? = some (.cells #[.int .i64 a2_0, .bool a2_1] 66 (0, 0))) ∧ (Below w.heap.size w w')) ?_ ?_
            rotate_left
            · intro hJ1_3_5
              refine join_ (σ := Value × Nat) 7 #[true, true, true, true, true, false, false, false, false, false, true, false, false] (fun s_ => [(25, s_.1), (27, .agg #[.string t674, .int .i64 t675, .int .i64 t676]), (8, .pointer (some ⟨s_.2, 0, none⟩))]) (fun s_ w' => (w'.cell? ⟨gb667, 0, none⟩ = some (.string a1_0) ∧ w'.cell? ⟨gb667, 1, none⟩ = some (.int .i64 a1_1) ∧ w'.cell? ⟨gb667, 2, none⟩ = some (.int .i64 a1_2) ∧ w'.cell? ⟨gb668, 0, none⟩ = some (.int .i64 a2_0) ∧ w'.cell? ⟨gb668, 1, none⟩ = some (.bool a2_1)) ∧ (Kd.R k39 39 w' w.heap.size (fun _ => True) s_.1 t671) ∧ (w'.heap[gb667]? = some (.cells #[.string a1_0, .int .i64 a1_1, .int .i64 a1_2] 65 (0, 0))) ∧ (w'.heap[gb668]? = some (.cells #[.int .i64 a2_0, .bool a2_1] 66 (0, 0))) ∧ (w'.heap[s_.2]? = some (.cells #[.string (⟨#[]⟩ : ByteArray), .int .i64 0, .int .i64 0] 31 (0, 0))) ∧ (w.heap.size ≤ s_.2) ∧ (w.heap.size ≤ s_.2) ∧ (gb667 ≠ s_.2) ∧ (s_.2 ≠ gb667) ∧ (gb668 ≠ s_.2) ∧ (s_.2 ≠ gb668) ∧ (Below w.heap.size w w')) ?_ ?_
              rotate_left
              · intro hJ1_3_10
                refine join_ (σ := Value) 8 #[true, true, true, true, true, false, false, false, false, false, false, false, false] (fun s_ => [(25, s_), (27, .agg #[.string t674, .int .i64 t675, .int .i64 t676])]) (fun s_ w' => (w'.cell? ⟨gb667, 0, none⟩ = some (.string a1_0) ∧ w'.cell? ⟨gb667, 1, none⟩ = some (.int .i64 a1_1) ∧ w'.cell? ⟨gb667, 2, none⟩ = some (.int .i64 a1_2) ∧ w'.cell? ⟨gb668, 0, none⟩ = some (.int .i64 a2_0) ∧ w'.cell? ⟨gb668, 1, none⟩ = some (.bool a2_1)) ∧ (Kd.R k39 39 w' w.heap.size (fun _ => True) s_ t671) ∧ (w'.heap[gb667]? = some (.cells #[.string a1_0, .int .i64 a1_1, .int .i64 a1_2] 65 (0, 0))) ∧ (w'.heap[gb668]? = some (.cells #[.int .i64 a2_0, .bool a2_1] 66 (0, 0))) ∧ (Below w.heap.size w w')) ?_ ?_
                rotate_left
                · intro hJ1_3
                  refine join_ (σ := Value × Nat) 8 #[true, true, true, false, true, false, false, false, false, false, true, false, false] (fun s_ => [(25, s_.1), (8, .pointer (some ⟨s_.2, 0, none⟩))]) (fun s_ w' => (w'.cell? ⟨gb667, 0, none⟩ = some (.string a1_0) ∧ w'.cell? ⟨gb667, 1, none⟩ = some (.int .i64 a1_1) ∧ w'.cell? ⟨gb667, 2, none⟩ = some (.int .i64 a1_2) ∧ w'.cell? ⟨gb668, 0, none⟩ = some (.int .i64 a2_0) ∧ w'.cell? ⟨gb668, 1, none⟩ = some (.bool a2_1)) ∧ (Kd.R k39 39 w' w.heap.size (fun _ => True) s_.1 t671) ∧ (w'.heap[gb667]? = some (.cells #[.string a1_0, .int .i64 a1_1, .int .i64 a1_2] 65 (0, 0))) ∧ (w'.heap[gb668]? = some (.cells #[.int .i64 a2_0, .bool a2_1] 66 (0, 0))) ∧ (w'.heap[s_.2]? = some (.cells #[.string (⟨#[]⟩ : ByteArray), .int .i64 0, .int .i64 0] 31 (0, 0))) ∧ (w.heap.size ≤ s_.2) ∧ (w.heap.size ≤ s_.2) ∧ (gb667 ≠ s_.2) ∧ (s_.2 ≠ gb667) ∧ (gb668 ≠ s_.2) ∧ (s_.2 ≠ gb668) ∧ (Below w.heap.size w w')) ?_ ?_
                  rotate_left
                  · intro hJ1_10
                    refine join_ (σ := Value) 9 #[true, true, true, false, true, false, false, false, false, false, false, false, false] (fun s_ => [(25, s_)]) (fun s_ w' => (w'.cell? ⟨gb667, 0, none⟩ = some (.string a1_0) ∧ w'.cell? ⟨gb667, 1, none⟩ = some (.int .i64 a1_1) ∧ w'.cell? ⟨gb667, 2, none⟩ = some (.int .i64 a1_2) ∧ w'.cell? ⟨gb668, 0, none⟩ = some (.int .i64 a2_0) ∧ w'.cell? ⟨gb668, 1, none⟩ = some (.bool a2_1)) ∧ (Kd.R k39 39 w' w.heap.size (fun _ => True) s_ t671) ∧ (w'.heap[gb667]? = some (.cells #[.string a1_0, .int .i64 a1_1, .int .i64 a1_2] 65 (0, 0))) ∧ (w'.heap[gb668]? = some (.cells #[.int .i64 a2_0, .bool a2_1] 66 (0, 0))) ∧ (Below w.heap.size w w')) ?_ ?_
                    rotate_left
                    · intro hJ1
                      refine join_ (σ := Nat) 9 #[true, false, true, false, true, false, false, false, false, false, true, false, false] (fun s_ => [(8, .pointer (some ⟨s_, 0, none⟩))]) (fun s_ w' => (w'.cell? ⟨gb667, 0, none⟩ = some (.string a1_0) ∧ w'.cell? ⟨gb667, 1, none⟩ = some (.int .i64 a1_1) ∧ w'.cell? ⟨gb667, 2, none⟩ = some (.int .i64 a1_2) ∧ w'.cell? ⟨gb668, 0, none⟩ = some (.int .i64 a2_0) ∧ w'.cell? ⟨gb668, 1, none⟩ = some (.bool a2_1)) ∧ (w'.heap[gb667]? = some (.cells #[.string a1_0, .int .i64 a1_1, .int .i64 a1_2] 65 (0, 0))) ∧ (w'.heap[gb668]? = some (.cells #[.int .i64 a2_0, .bool a2_1] 66 (0, 0))) ∧ (w'.heap[s_]? = some (.cells #[.string (⟨#[]⟩ : ByteArray), .int .i64 0, .int .i64 0] 31 (0, 0))) ∧ (w.heap.size ≤ s_) ∧ (w.heap.size ≤ s_) ∧ (gb667 ≠ s_) ∧ (s_ ≠ gb667) ∧ (gb668 ≠ s_) ∧ (s_ ≠ gb668) ∧ (Below w.heap.size w w')) ?_ ?_
                      rotate_left
                      · intro hJ10
                        refine two_ (i := 1) (j := 10) (Ni := some 25) (Nj := some 8) #[true, true, true, false, true, false, false, false, false, false, false, false, false] #[true, false, true, false, true, false, false, false, false, false, true, false, false] rfl rfl rfl rfl (two_of HT_.out (by kernel_rfl)) (by decide) (by decide) (fun K hK => ?_) (fun K hK => ?_)
                        · skip
                          refine goes_ Try.func38 (by kernel_rfl) rfl #[.slice A0 l0.length c0] (by rfl) rfl rfl (by (try simp only [List.map_toArray, List.map_cons, List.map_nil]); first | done | rfl | (simp only [List.length_drop, List.length_take]; rfl)) ?_
                          with_reducible refine (laws_toRecPhaseS.calls k _ _ l0 t671 _ ?side1 ?side2 A17.out).mono ?_
                          (case side1 => repeat (first | exact (Kd.C_below HR0.out HB.out) | (with_reducible refine Kd.C_alloc ?_ _) | (with_reducible refine Kd.C_drewN ?_ _) | (with_reducible refine Kd.C_drew ?_)))
                          (case side2 => exact HC0.out)
                          rintro e w33 ⟨v672, rfl, ho0, hb⟩
                          refine ⟨_, rfl, ?_⟩
                          have n0_ := Aside0.mk (Kd.R_lower ho0 (below_size (by repeat (first | (with_reducible first | exact HB.out | apply below_alloc | apply pw_below_drewN | apply below_drew1 | refine below_set ?_ GE667.out | refine below_set ?_ GE668.out) | exact HB.out))))
                          have n1_ := Aside0.mk (blk_below (g := gb667) (o := .cells #[.string a1_0, .int .i64 a1_1, .int .i64 a1_2] 65 (0, 0)) (by (with_reducible repeat (first | refine blk_drewN ?_ _ | refine blk_drew ?_ | refine blk_alloc ?_ _)); exact BK667.out) hb)
                          have n2_ := Aside0.mk (blk_below (g := gb668) (o := .cells #[.int .i64 a2_0, .bool a2_1] 66 (0, 0)) (by (with_reducible repeat (first | refine blk_drewN ?_ _ | refine blk_drew ?_ | refine blk_alloc ?_ _)); exact BK668.out) hb)
                          have n3_ := Aside0.mk (below_step (by repeat (first | (with_reducible first | exact HB.out | apply below_alloc | apply pw_below_drewN | apply below_drew1 | refine below_set ?_ GE667.out | refine below_set ?_ GE668.out) | exact HB.out)) hb)
                          clear BK667
                          clear BK668
                          clear HB
                          have HO673 := n0_
                          have BK667 := n1_
                          have BK668 := n2_
                          have HB := n3_
                          clear n0_ n1_ n2_ n3_
                          (try clear hb)
                          (try clear hb2)
                          (try clear hk)
                          (try clear hi)
                          (try clear ho0)
                          refine hK.out _ _ ⟨(blk_cell BK667.out 0).trans rfl, (blk_cell BK667.out 1).trans rfl, (blk_cell BK667.out 2).trans rfl, (blk_cell BK668.out 0).trans rfl, (blk_cell BK668.out 1).trans rfl⟩ (fun hHeld => ?_)
                          clear hK K
                          refine norm_ (a' := ?_) ?_ ?_
                          rotate_left
                          · show Act.put _ (some 25) _ = _
                            simp only [Act.put, List.setIfInBounds_toArray, List.set_cons_zero, List.set_cons_succ, i64_w, i32_w]
                            rfl
                          exact norm_ (by first | (simp only [putAll, Act.put, List.setIfInBounds_toArray, List.set_cons_zero, List.set_cons_succ]; done) | (simp only [putAll, Act.put, List.setIfInBounds_toArray, List.set_cons_zero, List.set_cons_succ]; rfl)) (hJ1 (v672) _ ⟨hHeld, (by (with_reducible repeat (first | apply Kd.R_alloc | apply Kd.R_drewN | apply Kd.R_drew)); exact HO673.out), (by (with_reducible repeat (first | refine blk_drewN ?_ _ | refine blk_drew ?_ | refine blk_alloc ?_ _)); exact BK667.out), (by (with_reducible repeat (first | refine blk_drewN ?_ _ | refine blk_drew ?_ | refine blk_alloc ?_ _)); exact BK668.out), (by repeat (first | (with_reducible first | exact HB.out | apply below_alloc | apply pw_below_drewN | apply below_drew1 | refine below_set ?_ GE667.out | refine below_set ?_ GE668.out) | exact HB.out))⟩)
                        · skip
                          refine box_step ?hg (N := 8) ?hd (cs := #[.string (⟨#[]⟩ : ByteArray), .int .i64 0, .int .i64 0]) (t := 31) ?hr ?_; (case hd => rfl); (case hg => rfl); (case hr => first | (go_simp; done) | (go_simp; rfl))
                          intro gb683 hg w33 hbox hb
                          have n0_ := Aside0.mk (blk_below (g := gb667) (o := .cells #[.string a1_0, .int .i64 a1_1, .int .i64 a1_2] 65 (0, 0)) (by (with_reducible repeat (first | refine blk_drewN ?_ _ | refine blk_drew ?_ | refine blk_alloc ?_ _)); exact BK667.out) hb)
                          have n1_ := Aside0.mk (blk_below (g := gb668) (o := .cells #[.int .i64 a2_0, .bool a2_1] 66 (0, 0)) (by (with_reducible repeat (first | refine blk_drewN ?_ _ | refine blk_drew ?_ | refine blk_alloc ?_ _)); exact BK668.out) hb)
                          have n2_ := Aside0.mk (below_step (by repeat (first | (with_reducible first | exact HB.out | apply below_alloc | apply pw_below_drewN | apply below_drew1 | refine below_set ?_ GE667.out | refine below_set ?_ GE668.out) | exact HB.out)) hb)
                          have n3_ := Aside0.mk (hbox)
                          have n4_ := Aside0.mk ((by rw [hg]; exact (below_size (by repeat (first | (with_reducible first | exact HB.out | apply below_alloc | apply pw_below_drewN | apply below_drew1 | refine below_set ?_ GE667.out | refine below_set ?_ GE668.out) | exact HB.out))) : w.heap.size ≤ gb683))
                          have n5_ := Aside0.mk ((by rw [hg]; exact (below_size (by repeat (first | (with_reducible first | exact HB.out | apply below_alloc | apply pw_below_drewN | apply below_drew1 | refine below_set ?_ GE667.out | refine below_set ?_ GE668.out) | exact HB.out))) : w.heap.size ≤ gb683))
                          have n6_ := Aside0.mk ((by rw [hg]; exact Nat.ne_of_lt (blk_lt (g := gb667) (o := .cells #[.string a1_0, .int .i64 a1_1, .int .i64 a1_2] 65 (0, 0)) (by (with_reducible repeat (first | refine blk_drewN ?_ _ | refine blk_drew ?_ | refine blk_alloc ?_ _)); exact BK667.out)) : gb667 ≠ gb683))
                          have n7_ := Aside0.mk ((by rw [hg]; exact Nat.ne_of_gt (blk_lt (g := gb667) (o := .cells #[.string a1_0, .int .i64 a1_1, .int .i64 a1_2] 65 (0, 0)) (by (with_reducible repeat (first | refine blk_drewN ?_ _ | refine blk_drew ?_ | refine blk_alloc ?_ _)); exact BK667.out)) : gb683 ≠ gb667))
                          have n8_ := Aside0.mk ((by rw [hg]; exact Nat.ne_of_lt (blk_lt (g := gb668) (o := .cells #[.int .i64 a2_0, .bool a2_1] 66 (0, 0)) (by (with_reducible repeat (first | refine blk_drewN ?_ _ | refine blk_drew ?_ | refine blk_alloc ?_ _)); exact BK668.out)) : gb668 ≠ gb683))
                          have n9_ := Aside0.mk ((by rw [hg]; exact Nat.ne_of_gt (blk_lt (g := gb668) (o := .cells #[.int .i64 a2_0, .bool a2_1] 66 (0, 0)) (by (with_reducible repeat (first | refine blk_drewN ?_ _ | refine blk_drew ?_ | refine blk_alloc ?_ _)); exact BK668.out)) : gb683 ≠ gb668))
                          clear BK667
                          clear BK668
                          clear HB
                          have BK667 := n0_
                          have BK668 := n1_
                          have HB := n2_
                          have BK683 := n3_
                          have GW683 := n4_
                          have GE683 := n5_
                          have NB667_683 := n6_
                          have NB683_667 := n7_
                          have NB668_683 := n8_
                          have NB683_668 := n9_
                          clear n0_ n1_ n2_ n3_ n4_ n5_ n6_ n7_ n8_ n9_
                          clear hb hbox hg
                          refine hK.out _ _ ⟨(blk_cell BK667.out 0).trans rfl, (blk_cell BK667.out 1).trans rfl, (blk_cell BK667.out 2).trans rfl, (blk_cell BK668.out 0).trans rfl, (blk_cell BK668.out 1).trans rfl⟩ (fun hHeld => ?_)
                          clear hK K
                          refine norm_ (a' := ?_) ?_ ?_
                          rotate_left
                          · show Act.put _ (some 8) _ = _
                            simp only [Act.put, List.setIfInBounds_toArray, List.set_cons_zero, List.set_cons_succ, i64_w, i32_w]
                            rfl
                          exact norm_ (by first | (simp only [putAll, Act.put, List.setIfInBounds_toArray, List.set_cons_zero, List.set_cons_succ]; done) | (simp only [putAll, Act.put, List.setIfInBounds_toArray, List.set_cons_zero, List.set_cons_succ]; rfl)) (hJ10 (gb683) _ ⟨hHeld, (by (with_reducible repeat (first | refine blk_drewN ?_ _ | refine blk_drew ?_ | refine blk_alloc ?_ _)); exact BK667.out), (by (with_reducible repeat (first | refine blk_drewN ?_ _ | refine blk_drew ?_ | refine blk_alloc ?_ _)); exact BK668.out), (by (with_reducible repeat (first | refine blk_drewN ?_ _ | refine blk_drew ?_ | refine blk_alloc ?_ _)); exact BK683.out), GW683.out, GE683.out, NB667_683.out, NB683_667.out, NB668_683.out, NB683_668.out, (by repeat (first | (with_reducible first | exact HB.out | apply below_alloc | apply pw_below_drewN | apply below_drew1 | refine below_set ?_ GE667.out | refine below_set ?_ GE668.out | refine below_set ?_ GE683.out) | exact HB.out))⟩)
                      · skip
                        rintro gb683 w34 ⟨hS_, h0_, h1_, h2_, h3_, h4_, h5_, h6_, h7_, h8_, h9_⟩
                        have n0_ : Aside0 (w34.heap[gb667]? = some (.cells #[.string a1_0, .int .i64 a1_1, .int .i64 a1_2] 65 (0, 0))) := ⟨h0_⟩
                        have n1_ : Aside0 (w34.heap[gb668]? = some (.cells #[.int .i64 a2_0, .bool a2_1] 66 (0, 0))) := ⟨h1_⟩
                        have n2_ : Aside0 (w34.heap[gb683]? = some (.cells #[.string (⟨#[]⟩ : ByteArray), .int .i64 0, .int .i64 0] 31 (0, 0))) := ⟨h2_⟩
                        have n3_ : Aside0 (w.heap.size ≤ gb683) := ⟨h3_⟩
                        have n4_ : Aside0 (w.heap.size ≤ gb683) := ⟨h4_⟩
                        have n5_ : Aside0 (gb667 ≠ gb683) := ⟨h5_⟩
                        have n6_ : Aside0 (gb683 ≠ gb667) := ⟨h6_⟩
                        have n7_ : Aside0 (gb668 ≠ gb683) := ⟨h7_⟩
                        have n8_ : Aside0 (gb683 ≠ gb668) := ⟨h8_⟩
                        have n9_ : Aside0 (Below w.heap.size w w34) := ⟨h9_⟩
                        clear BK667
                        clear BK668
                        clear HB
                        clear h0_ h1_ h2_ h3_ h4_ h5_ h6_ h7_ h8_ h9_
                        have BK667 := n0_
                        have BK668 := n1_
                        have BK683 := n2_
                        have GW683 := n3_
                        have GE683 := n4_
                        have NB667_683 := n5_
                        have NB683_667 := n6_
                        have NB668_683 := n7_
                        have NB683_668 := n8_
                        have HB := n9_
                        clear n0_ n1_ n2_ n3_ n4_ n5_ n6_ n7_ n8_ n9_
                        have hHeld : w34.cell? ⟨gb667, 0, none⟩ = some (.string a1_0) ∧ w34.cell? ⟨gb667, 1, none⟩ = some (.int .i64 a1_1) ∧ w34.cell? ⟨gb667, 2, none⟩ = some (.int .i64 a1_2) ∧ w34.cell? ⟨gb668, 0, none⟩ = some (.int .i64 a2_0) ∧ w34.cell? ⟨gb668, 1, none⟩ = some (.bool a2_1) := hS_
                        refine norm_ (a' := ?_) ?_ ?_
                        rotate_left
                        · simp only [putAll, Act.put, List.setIfInBounds_toArray, List.set_cons_zero, List.set_cons_succ]
                          rfl
                        refine one_ (i := 1) (N := some 25) #[true, true, true, false, true, false, false, false, false, false, true, false, false] rfl rfl (one_of HT_.out (by kernel_rfl)) (by decide) (fun K hK => ?_)
                        refine goes_ Try.func38 (by kernel_rfl) rfl #[.slice A0 l0.length c0] (by rfl) rfl rfl (by (try simp only [List.map_toArray, List.map_cons, List.map_nil]); first | done | rfl | (simp only [List.length_drop, List.length_take]; rfl)) ?_
                        with_reducible refine (laws_toRecPhaseS.calls k _ _ l0 t671 _ ?side1 ?side2 A17.out).mono ?_
                        (case side1 => repeat (first | exact (Kd.C_below HR0.out HB.out) | (with_reducible refine Kd.C_alloc ?_ _) | (with_reducible refine Kd.C_drewN ?_ _) | (with_reducible refine Kd.C_drew ?_)))
                        (case side2 => exact HC0.out)
                        rintro e w35 ⟨v672, rfl, ho0, hb⟩
                        refine ⟨_, rfl, ?_⟩
                        have n0_ := Aside0.mk (Kd.R_lower ho0 (below_size (by repeat (first | (with_reducible first | exact HB.out | apply below_alloc | apply pw_below_drewN | apply below_drew1 | refine below_set ?_ GE667.out | refine below_set ?_ GE668.out | refine below_set ?_ GE683.out) | exact HB.out))))
                        have n1_ := Aside0.mk (blk_below (g := gb667) (o := .cells #[.string a1_0, .int .i64 a1_1, .int .i64 a1_2] 65 (0, 0)) (by (with_reducible repeat (first | refine blk_drewN ?_ _ | refine blk_drew ?_ | refine blk_alloc ?_ _)); exact BK667.out) hb)
                        have n2_ := Aside0.mk (blk_below (g := gb668) (o := .cells #[.int .i64 a2_0, .bool a2_1] 66 (0, 0)) (by (with_reducible repeat (first | refine blk_drewN ?_ _ | refine blk_drew ?_ | refine blk_alloc ?_ _)); exact BK668.out) hb)
                        have n3_ := Aside0.mk (blk_below (g := gb683) (o := .cells #[.string (⟨#[]⟩ : ByteArray), .int .i64 0, .int .i64 0] 31 (0, 0)) (by (with_reducible repeat (first | refine blk_drewN ?_ _ | refine blk_drew ?_ | refine blk_alloc ?_ _)); exact BK683.out) hb)
                        have n4_ := Aside0.mk (below_step (by repeat (first | (with_reducible first | exact HB.out | apply below_alloc | apply pw_below_drewN | apply below_drew1 | refine below_set ?_ GE667.out | refine below_set ?_ GE668.out | refine below_set ?_ GE683.out) | exact HB.out)) hb)
                        clear BK667
                        clear BK668
                        clear BK683
                        clear HB
                        have HO673 := n0_
                        have BK667 := n1_
                        have BK668 := n2_
                        have BK683 := n3_
                        have HB := n4_
                        clear n0_ n1_ n2_ n3_ n4_
                        (try clear hb)
                        (try clear hb2)
                        (try clear hk)
                        (try clear hi)
                        (try clear ho0)
                        refine hK.out _ _ ⟨(blk_cell BK667.out 0).trans rfl, (blk_cell BK667.out 1).trans rfl, (blk_cell BK667.out 2).trans rfl, (blk_cell BK668.out 0).trans rfl, (blk_cell BK668.out 1).trans rfl⟩ (fun hHeld => ?_)
                        clear hK K
                        refine norm_ (a' := ?_) ?_ ?_
                        rotate_left
                        · show Act.put _ (some 25) _ = _
                          simp only [Act.put, List.setIfInBounds_toArray, List.set_cons_zero, List.set_cons_succ, i64_w, i32_w]
                          rfl
                        exact norm_ (by first | (simp only [putAll, Act.put, List.setIfInBounds_toArray, List.set_cons_zero, List.set_cons_succ]; done) | (simp only [putAll, Act.put, List.setIfInBounds_toArray, List.set_cons_zero, List.set_cons_succ]; rfl)) (hJ1_10 (v672, gb683) _ ⟨hHeld, (by (with_reducible repeat (first | apply Kd.R_alloc | apply Kd.R_drewN | apply Kd.R_drew)); exact HO673.out), (by (with_reducible repeat (first | refine blk_drewN ?_ _ | refine blk_drew ?_ | refine blk_alloc ?_ _)); exact BK667.out), (by (with_reducible repeat (first | refine blk_drewN ?_ _ | refine blk_drew ?_ | refine blk_alloc ?_ _)); exact BK668.out), (by (with_reducible repeat (first | refine blk_drewN ?_ _ | refine blk_drew ?_ | refine blk_alloc ?_ _)); exact BK683.out), GW683.out, GE683.out, NB667_683.out, NB683_667.out, NB668_683.out, NB683_668.out, (by repeat (first | (with_reducible first | exact HB.out | apply below_alloc | apply pw_below_drewN | apply below_drew1 | refine below_set ?_ GE667.out | refine below_set ?_ GE668.out | refine below_set ?_ GE683.out) | exact HB.out))⟩)
                    · skip
                      rintro v672 w34 ⟨hS_, h0_, h1_, h2_, h3_⟩
                      have n0_ : Aside0 (Kd.R k39 39 w34 w.heap.size (fun _ => True) v672 t671) := ⟨h0_⟩
                      have n1_ : Aside0 (w34.heap[gb667]? = some (.cells #[.string a1_0, .int .i64 a1_1, .int .i64 a1_2] 65 (0, 0))) := ⟨h1_⟩
                      have n2_ : Aside0 (w34.heap[gb668]? = some (.cells #[.int .i64 a2_0, .bool a2_1] 66 (0, 0))) := ⟨h2_⟩
                      have n3_ : Aside0 (Below w.heap.size w w34) := ⟨h3_⟩
                      clear BK667
                      clear BK668
                      clear HB
                      clear h0_ h1_ h2_ h3_
                      have HO673 := n0_
                      have BK667 := n1_
                      have BK668 := n2_
                      have HB := n3_
                      clear n0_ n1_ n2_ n3_
                      have hHeld : w34.cell? ⟨gb667, 0, none⟩ = some (.string a1_0) ∧ w34.cell? ⟨gb667, 1, none⟩ = some (.int .i64 a1_1) ∧ w34.cell? ⟨gb667, 2, none⟩ = some (.int .i64 a1_2) ∧ w34.cell? ⟨gb668, 0, none⟩ = some (.int .i64 a2_0) ∧ w34.cell? ⟨gb668, 1, none⟩ = some (.bool a2_1) := hS_
                      refine norm_ (a' := ?_) ?_ ?_
                      rotate_left
                      · simp only [putAll, Act.put, List.setIfInBounds_toArray, List.set_cons_zero, List.set_cons_succ]
                        rfl
                      refine two_ (i := 3) (j := 10) (Ni := some 27) (Nj := some 8) #[true, true, true, true, true, false, false, false, false, false, false, false, false] #[true, true, true, false, true, false, false, false, false, false, true, false, false] rfl rfl rfl rfl (two_of HT_.out (by kernel_rfl)) (by decide) (by decide) (fun K hK => ?_) (fun K hK => ?_)
                      · skip
                        refine goes_ Try.func48 (by kernel_rfl) rfl #[.agg #[.string a1_0, .int .i64 a1_1, .int .i64 a1_2]] (by rfl) rfl rfl (by (try simp only [List.map_toArray, List.map_cons, List.map_nil]); first | done | rfl | (simp only [List.length_drop, List.length_take]; rfl)) ?_
                        with_reducible refine (laws_toRecState.calls a1_0 a1_1 a1_2 t674 t675 t676 _ A18.out).mono ?_
                        rintro e w35 ⟨rfl, hb⟩
                        refine ⟨_, rfl, ?_⟩
                        have n0_ := Aside0.mk (Kd.R_below (by (with_reducible repeat (first | apply Kd.R_alloc | apply Kd.R_drewN | apply Kd.R_drew)); exact HO673.out) hb)
                        have n1_ := Aside0.mk (blk_below (g := gb667) (o := .cells #[.string a1_0, .int .i64 a1_1, .int .i64 a1_2] 65 (0, 0)) (by (with_reducible repeat (first | refine blk_drewN ?_ _ | refine blk_drew ?_ | refine blk_alloc ?_ _)); exact BK667.out) hb)
                        have n2_ := Aside0.mk (blk_below (g := gb668) (o := .cells #[.int .i64 a2_0, .bool a2_1] 66 (0, 0)) (by (with_reducible repeat (first | refine blk_drewN ?_ _ | refine blk_drew ?_ | refine blk_alloc ?_ _)); exact BK668.out) hb)
                        have n3_ := Aside0.mk (below_step (by repeat (first | (with_reducible first | exact HB.out | apply below_alloc | apply pw_below_drewN | apply below_drew1 | refine below_set ?_ GE667.out | refine below_set ?_ GE668.out) | exact HB.out)) hb)
                        clear HO673
                        clear BK667
                        clear BK668
                        clear HB
                        have HO673 := n0_
                        have BK667 := n1_
                        have BK668 := n2_
                        have HB := n3_
                        clear n0_ n1_ n2_ n3_
                        (try clear hb)
                        (try clear hb2)
                        (try clear hk)
                        (try clear hi)
                        refine hK.out _ _ ⟨(blk_cell BK667.out 0).trans rfl, (blk_cell BK667.out 1).trans rfl, (blk_cell BK667.out 2).trans rfl, (blk_cell BK668.out 0).trans rfl, (blk_cell BK668.out 1).trans rfl⟩ (fun hHeld => ?_)
                        clear hK K
                        refine norm_ (a' := ?_) ?_ ?_
                        rotate_left
                        · show Act.put _ (some 27) _ = _
                          simp only [Act.put, List.setIfInBounds_toArray, List.set_cons_zero, List.set_cons_succ, i64_w, i32_w]
                          rfl
                        exact norm_ (by first | (simp only [putAll, Act.put, List.setIfInBounds_toArray, List.set_cons_zero, List.set_cons_succ]; done) | (simp only [putAll, Act.put, List.setIfInBounds_toArray, List.set_cons_zero, List.set_cons_succ]; rfl)) (hJ1_3 (v672) _ ⟨hHeld, (by (with_reducible repeat (first | apply Kd.R_alloc | apply Kd.R_drewN | apply Kd.R_drew)); exact HO673.out), (by (with_reducible repeat (first | refine blk_drewN ?_ _ | refine blk_drew ?_ | refine blk_alloc ?_ _)); exact BK667.out), (by (with_reducible repeat (first | refine blk_drewN ?_ _ | refine blk_drew ?_ | refine blk_alloc ?_ _)); exact BK668.out), (by repeat (first | (with_reducible first | exact HB.out | apply below_alloc | apply pw_below_drewN | apply below_drew1 | refine below_set ?_ GE667.out | refine below_set ?_ GE668.out) | exact HB.out))⟩)
                      · skip
                        refine box_step ?hg (N := 8) ?hd (cs := #[.string (⟨#[]⟩ : ByteArray), .int .i64 0, .int .i64 0]) (t := 31) ?hr ?_; (case hd => rfl); (case hg => rfl); (case hr => first | (go_simp; done) | (go_simp; rfl))
                        intro gb683 hg w35 hbox hb
                        have n0_ := Aside0.mk (Kd.R_below (by (with_reducible repeat (first | apply Kd.R_alloc | apply Kd.R_drewN | apply Kd.R_drew)); exact HO673.out) hb)
                        have n1_ := Aside0.mk (blk_below (g := gb667) (o := .cells #[.string a1_0, .int .i64 a1_1, .int .i64 a1_2] 65 (0, 0)) (by (with_reducible repeat (first | refine blk_drewN ?_ _ | refine blk_drew ?_ | refine blk_alloc ?_ _)); exact BK667.out) hb)
                        have n2_ := Aside0.mk (blk_below (g := gb668) (o := .cells #[.int .i64 a2_0, .bool a2_1] 66 (0, 0)) (by (with_reducible repeat (first | refine blk_drewN ?_ _ | refine blk_drew ?_ | refine blk_alloc ?_ _)); exact BK668.out) hb)
                        have n3_ := Aside0.mk (below_step (by repeat (first | (with_reducible first | exact HB.out | apply below_alloc | apply pw_below_drewN | apply below_drew1 | refine below_set ?_ GE667.out | refine below_set ?_ GE668.out) | exact HB.out)) hb)
                        have n4_ := Aside0.mk (hbox)
                        have n5_ := Aside0.mk ((by rw [hg]; exact (below_size (by repeat (first | (with_reducible first | exact HB.out | apply below_alloc | apply pw_below_drewN | apply below_drew1 | refine below_set ?_ GE667.out | refine below_set ?_ GE668.out) | exact HB.out))) : w.heap.size ≤ gb683))
                        have n6_ := Aside0.mk ((by rw [hg]; exact (below_size (by repeat (first | (with_reducible first | exact HB.out | apply below_alloc | apply pw_below_drewN | apply below_drew1 | refine below_set ?_ GE667.out | refine below_set ?_ GE668.out) | exact HB.out))) : w.heap.size ≤ gb683))
                        have n7_ := Aside0.mk ((by rw [hg]; exact Nat.ne_of_lt (blk_lt (g := gb667) (o := .cells #[.string a1_0, .int .i64 a1_1, .int .i64 a1_2] 65 (0, 0)) (by (with_reducible repeat (first | refine blk_drewN ?_ _ | refine blk_drew ?_ | refine blk_alloc ?_ _)); exact BK667.out)) : gb667 ≠ gb683))
                        have n8_ := Aside0.mk ((by rw [hg]; exact Nat.ne_of_gt (blk_lt (g := gb667) (o := .cells #[.string a1_0, .int .i64 a1_1, .int .i64 a1_2] 65 (0, 0)) (by (with_reducible repeat (first | refine blk_drewN ?_ _ | refine blk_drew ?_ | refine blk_alloc ?_ _)); exact BK667.out)) : gb683 ≠ gb667))
                        have n9_ := Aside0.mk ((by rw [hg]; exact Nat.ne_of_lt (blk_lt (g := gb668) (o := .cells #[.int .i64 a2_0, .bool a2_1] 66 (0, 0)) (by (with_reducible repeat (first | refine blk_drewN ?_ _ | refine blk_drew ?_ | refine blk_alloc ?_ _)); exact BK668.out)) : gb668 ≠ gb683))
                        have n10_ := Aside0.mk ((by rw [hg]; exact Nat.ne_of_gt (blk_lt (g := gb668) (o := .cells #[.int .i64 a2_0, .bool a2_1] 66 (0, 0)) (by (with_reducible repeat (first | refine blk_drewN ?_ _ | refine blk_drew ?_ | refine blk_alloc ?_ _)); exact BK668.out)) : gb683 ≠ gb668))
                        clear HO673
                        clear BK667
                        clear BK668
                        clear HB
                        have HO673 := n0_
                        have BK667 := n1_
                        have BK668 := n2_
                        have HB := n3_
                        have BK683 := n4_
                        have GW683 := n5_
                        have GE683 := n6_
                        have NB667_683 := n7_
                        have NB683_667 := n8_
                        have NB668_683 := n9_
                        have NB683_668 := n10_
                        clear n0_ n1_ n2_ n3_ n4_ n5_ n6_ n7_ n8_ n9_ n10_
                        clear hb hbox hg
                        refine hK.out _ _ ⟨(blk_cell BK667.out 0).trans rfl, (blk_cell BK667.out 1).trans rfl, (blk_cell BK667.out 2).trans rfl, (blk_cell BK668.out 0).trans rfl, (blk_cell BK668.out 1).trans rfl⟩ (fun hHeld => ?_)
                        clear hK K
                        refine norm_ (a' := ?_) ?_ ?_
                        rotate_left
                        · show Act.put _ (some 8) _ = _
                          simp only [Act.put, List.setIfInBounds_toArray, List.set_cons_zero, List.set_cons_succ, i64_w, i32_w]
                          rfl
                        exact norm_ (by first | (simp only [putAll, Act.put, List.setIfInBounds_toArray, List.set_cons_zero, List.set_cons_succ]; done) | (simp only [putAll, Act.put, List.setIfInBounds_toArray, List.set_cons_zero, List.set_cons_succ]; rfl)) (hJ1_10 (v672, gb683) _ ⟨hHeld, (by (with_reducible repeat (first | apply Kd.R_alloc | apply Kd.R_drewN | apply Kd.R_drew)); exact HO673.out), (by (with_reducible repeat (first | refine blk_drewN ?_ _ | refine blk_drew ?_ | refine blk_alloc ?_ _)); exact BK667.out), (by (with_reducible repeat (first | refine blk_drewN ?_ _ | refine blk_drew ?_ | refine blk_alloc ?_ _)); exact BK668.out), (by (with_reducible repeat (first | refine blk_drewN ?_ _ | refine blk_drew ?_ | refine blk_alloc ?_ _)); exact BK683.out), GW683.out, GE683.out, NB667_683.out, NB683_667.out, NB668_683.out, NB683_668.out, (by repeat (first | (with_reducible first | exact HB.out | apply below_alloc | apply pw_below_drewN | apply below_drew1 | refine below_set ?_ GE667.out | refine below_set ?_ GE668.out | refine below_set ?_ GE683.out) | exact HB.out))⟩)
                  · skip
                    rintro ⟨v672, gb683⟩ w35 ⟨hS_, h0_, h1_, h2_, h3_, h4_, h5_, h6_, h7_, h8_, h9_, h10_⟩
                    have n0_ : Aside0 (Kd.R k39 39 w35 w.heap.size (fun _ => True) v672 t671) := ⟨h0_⟩
                    have n1_ : Aside0 (w35.heap[gb667]? = some (.cells #[.string a1_0, .int .i64 a1_1, .int .i64 a1_2] 65 (0, 0))) := ⟨h1_⟩
                    have n2_ : Aside0 (w35.heap[gb668]? = some (.cells #[.int .i64 a2_0, .bool a2_1] 66 (0, 0))) := ⟨h2_⟩
                    have n3_ : Aside0 (w35.heap[gb683]? = some (.cells #[.string (⟨#[]⟩ : ByteArray), .int .i64 0, .int .i64 0] 31 (0, 0))) := ⟨h3_⟩
                    have n4_ : Aside0 (w.heap.size ≤ gb683) := ⟨h4_⟩
                    have n5_ : Aside0 (w.heap.size ≤ gb683) := ⟨h5_⟩
                    have n6_ : Aside0 (gb667 ≠ gb683) := ⟨h6_⟩
                    have n7_ : Aside0 (gb683 ≠ gb667) := ⟨h7_⟩
                    have n8_ : Aside0 (gb668 ≠ gb683) := ⟨h8_⟩
                    have n9_ : Aside0 (gb683 ≠ gb668) := ⟨h9_⟩
                    have n10_ : Aside0 (Below w.heap.size w w35) := ⟨h10_⟩
                    clear BK667
                    clear BK668
                    clear HB
                    clear h0_ h1_ h2_ h3_ h4_ h5_ h6_ h7_ h8_ h9_ h10_
                    have HO673 := n0_
                    have BK667 := n1_
                    have BK668 := n2_
                    have BK683 := n3_
                    have GW683 := n4_
                    have GE683 := n5_
                    have NB667_683 := n6_
                    have NB683_667 := n7_
                    have NB668_683 := n8_
                    have NB683_668 := n9_
                    have HB := n10_
                    clear n0_ n1_ n2_ n3_ n4_ n5_ n6_ n7_ n8_ n9_ n10_
                    have hHeld : w35.cell? ⟨gb667, 0, none⟩ = some (.string a1_0) ∧ w35.cell? ⟨gb667, 1, none⟩ = some (.int .i64 a1_1) ∧ w35.cell? ⟨gb667, 2, none⟩ = some (.int .i64 a1_2) ∧ w35.cell? ⟨gb668, 0, none⟩ = some (.int .i64 a2_0) ∧ w35.cell? ⟨gb668, 1, none⟩ = some (.bool a2_1) := hS_
                    refine norm_ (a' := ?_) ?_ ?_
                    rotate_left
                    · simp only [putAll, Act.put, List.setIfInBounds_toArray, List.set_cons_zero, List.set_cons_succ]
                      rfl
                    refine one_ (i := 3) (N := some 27) #[true, true, true, true, true, false, false, false, false, false, true, false, false] rfl rfl (one_of HT_.out (by kernel_rfl)) (by decide) (fun K hK => ?_)
                    refine goes_ Try.func48 (by kernel_rfl) rfl #[.agg #[.string a1_0, .int .i64 a1_1, .int .i64 a1_2]] (by rfl) rfl rfl (by (try simp only [List.map_toArray, List.map_cons, List.map_nil]); first | done | rfl | (simp only [List.length_drop, List.length_take]; rfl)) ?_
                    with_reducible refine (laws_toRecState.calls a1_0 a1_1 a1_2 t674 t675 t676 _ A18.out).mono ?_
                    rintro e w36 ⟨rfl, hb⟩
                    refine ⟨_, rfl, ?_⟩
                    have n0_ := Aside0.mk (Kd.R_below (by (with_reducible repeat (first | apply Kd.R_alloc | apply Kd.R_drewN | apply Kd.R_drew)); exact HO673.out) hb)
                    have n1_ := Aside0.mk (blk_below (g := gb667) (o := .cells #[.string a1_0, .int .i64 a1_1, .int .i64 a1_2] 65 (0, 0)) (by (with_reducible repeat (first | refine blk_drewN ?_ _ | refine blk_drew ?_ | refine blk_alloc ?_ _)); exact BK667.out) hb)
                    have n2_ := Aside0.mk (blk_below (g := gb668) (o := .cells #[.int .i64 a2_0, .bool a2_1] 66 (0, 0)) (by (with_reducible repeat (first | refine blk_drewN ?_ _ | refine blk_drew ?_ | refine blk_alloc ?_ _)); exact BK668.out) hb)
                    have n3_ := Aside0.mk (blk_below (g := gb683) (o := .cells #[.string (⟨#[]⟩ : ByteArray), .int .i64 0, .int .i64 0] 31 (0, 0)) (by (with_reducible repeat (first | refine blk_drewN ?_ _ | refine blk_drew ?_ | refine blk_alloc ?_ _)); exact BK683.out) hb)
                    have n4_ := Aside0.mk (below_step (by repeat (first | (with_reducible first | exact HB.out | apply below_alloc | apply pw_below_drewN | apply below_drew1 | refine below_set ?_ GE667.out | refine below_set ?_ GE668.out | refine below_set ?_ GE683.out) | exact HB.out)) hb)
                    clear HO673
                    clear BK667
                    clear BK668
                    clear BK683
                    clear HB
                    have HO673 := n0_
                    have BK667 := n1_
                    have BK668 := n2_
                    have BK683 := n3_
                    have HB := n4_
                    clear n0_ n1_ n2_ n3_ n4_
                    (try clear hb)
                    (try clear hb2)
                    (try clear hk)
                    (try clear hi)
                    refine hK.out _ _ ⟨(blk_cell BK667.out 0).trans rfl, (blk_cell BK667.out 1).trans rfl, (blk_cell BK667.out 2).trans rfl, (blk_cell BK668.out 0).trans rfl, (blk_cell BK668.out 1).trans rfl⟩ (fun hHeld => ?_)
                    clear hK K
                    refine norm_ (a' := ?_) ?_ ?_
                    rotate_left
                    · show Act.put _ (some 27) _ = _
                      simp only [Act.put, List.setIfInBounds_toArray, List.set_cons_zero, List.set_cons_succ, i64_w, i32_w]
                      rfl
                    exact norm_ (by first | (simp only [putAll, Act.put, List.setIfInBounds_toArray, List.set_cons_zero, List.set_cons_succ]; done) | (simp only [putAll, Act.put, List.setIfInBounds_toArray, List.set_cons_zero, List.set_cons_succ]; rfl)) (hJ1_3_10 (v672, gb683) _ ⟨hHeld, (by (with_reducible repeat (first | apply Kd.R_alloc | apply Kd.R_drewN | apply Kd.R_drew)); exact HO673.out), (by (with_reducible repeat (first | refine blk_drewN ?_ _ | refine blk_drew ?_ | refine blk_alloc ?_ _)); exact BK667.out), (by (with_reducible repeat (first | refine blk_drewN ?_ _ | refine blk_drew ?_ | refine blk_alloc ?_ _)); exact BK668.out), (by (with_reducible repeat (first | refine blk_drewN ?_ _ | refine blk_drew ?_ | refine blk_alloc ?_ _)); exact BK683.out), GW683.out, GE683.out, NB667_683.out, NB683_667.out, NB668_683.out, NB683_668.out, (by repeat (first | (with_reducible first | exact HB.out | apply below_alloc | apply pw_below_drewN | apply below_drew1 | refine below_set ?_ GE667.out | refine below_set ?_ GE668.out | refine below_set ?_ GE683.out) | exact HB.out))⟩)
                · skip
                  rintro v672 w35 ⟨hS_, h0_, h1_, h2_, h3_⟩
                  have n0_ : Aside0 (Kd.R k39 39 w35 w.heap.size (fun _ => True) v672 t671) := ⟨h0_⟩
                  have n1_ : Aside0 (w35.heap[gb667]? = some (.cells #[.string a1_0, .int .i64 a1_1, .int .i64 a1_2] 65 (0, 0))) := ⟨h1_⟩
                  have n2_ : Aside0 (w35.heap[gb668]? = some (.cells #[.int .i64 a2_0, .bool a2_1] 66 (0, 0))) := ⟨h2_⟩
                  have n3_ : Aside0 (Below w.heap.size w w35) := ⟨h3_⟩
                  clear BK667
                  clear BK668
                  clear HB
                  clear h0_ h1_ h2_ h3_
                  have HO673 := n0_
                  have BK667 := n1_
                  have BK668 := n2_
                  have HB := n3_
                  clear n0_ n1_ n2_ n3_
                  have hHeld : w35.cell? ⟨gb667, 0, none⟩ = some (.string a1_0) ∧ w35.cell? ⟨gb667, 1, none⟩ = some (.int .i64 a1_1) ∧ w35.cell? ⟨gb667, 2, none⟩ = some (.int .i64 a1_2) ∧ w35.cell? ⟨gb668, 0, none⟩ = some (.int .i64 a2_0) ∧ w35.cell? ⟨gb668, 1, none⟩ = some (.bool a2_1) := hS_
                  refine norm_ (a' := ?_) ?_ ?_
                  rotate_left
                  · simp only [putAll, Act.put, List.setIfInBounds_toArray, List.set_cons_zero, List.set_cons_succ]
                    rfl
                  refine two_ (i := 5) (j := 10) (Ni := some 29) (Nj := some 8) #[true, true, true, true, true, true, false, false, false, false, false, false, false] #[true, true, true, true, true, false, false, false, false, false, true, false, false] rfl rfl rfl rfl (two_of HT_.out (by kernel_rfl)) (by decide) (by decide) (fun K hK => ?_) (fun K hK => ?_)
                  · skip
                    refine goes_ Try.func49 (by kernel_rfl) rfl #[.agg #[.int .i64 a2_0, .bool a2_1]] (by rfl) rfl rfl (by (try simp only [List.map_toArray, List.map_cons, List.map_nil]); first | done | rfl | (simp only [List.length_drop, List.length_take]; rfl)) ?_
                    with_reducible refine (laws_toRecSay.calls a2_0 a2_1 t677 t678 _ A19.out).mono ?_
                    rintro e w36 ⟨rfl, hb⟩
                    refine ⟨_, rfl, ?_⟩
                    have n0_ := Aside0.mk (Kd.R_below (by (with_reducible repeat (first | apply Kd.R_alloc | apply Kd.R_drewN | apply Kd.R_drew)); exact HO673.out) hb)
                    have n1_ := Aside0.mk (blk_below (g := gb667) (o := .cells #[.string a1_0, .int .i64 a1_1, .int .i64 a1_2] 65 (0, 0)) (by (with_reducible repeat (first | refine blk_drewN ?_ _ | refine blk_drew ?_ | refine blk_alloc ?_ _)); exact BK667.out) hb)
                    have n2_ := Aside0.mk (blk_below (g := gb668) (o := .cells #[.int .i64 a2_0, .bool a2_1] 66 (0, 0)) (by (with_reducible repeat (first | refine blk_drewN ?_ _ | refine blk_drew ?_ | refine blk_alloc ?_ _)); exact BK668.out) hb)
                    have n3_ := Aside0.mk (below_step (by repeat (first | (with_reducible first | exact HB.out | apply below_alloc | apply pw_below_drewN | apply below_drew1 | refine below_set ?_ GE667.out | refine below_set ?_ GE668.out) | exact HB.out)) hb)
                    clear HO673
                    clear BK667
                    clear BK668
                    clear HB
                    have HO673 := n0_
                    have BK667 := n1_
                    have BK668 := n2_
                    have HB := n3_
                    clear n0_ n1_ n2_ n3_
                    (try clear hb)
                    (try clear hb2)
                    (try clear hk)
                    (try clear hi)
                    refine hK.out _ _ ⟨(blk_cell BK667.out 0).trans rfl, (blk_cell BK667.out 1).trans rfl, (blk_cell BK667.out 2).trans rfl, (blk_cell BK668.out 0).trans rfl, (blk_cell BK668.out 1).trans rfl⟩ (fun hHeld => ?_)
                    clear hK K
                    refine norm_ (a' := ?_) ?_ ?_
                    rotate_left
                    · show Act.put _ (some 29) _ = _
                      simp only [Act.put, List.setIfInBounds_toArray, List.set_cons_zero, List.set_cons_succ, i64_w, i32_w]
                      rfl
                    exact norm_ (by first | (simp only [putAll, Act.put, List.setIfInBounds_toArray, List.set_cons_zero, List.set_cons_succ]; done) | (simp only [putAll, Act.put, List.setIfInBounds_toArray, List.set_cons_zero, List.set_cons_succ]; rfl)) (hJ1_3_5 (v672) _ ⟨hHeld, (by (with_reducible repeat (first | apply Kd.R_alloc | apply Kd.R_drewN | apply Kd.R_drew)); exact HO673.out), (by (with_reducible repeat (first | refine blk_drewN ?_ _ | refine blk_drew ?_ | refine blk_alloc ?_ _)); exact BK667.out), (by (with_reducible repeat (first | refine blk_drewN ?_ _ | refine blk_drew ?_ | refine blk_alloc ?_ _)); exact BK668.out), (by repeat (first | (with_reducible first | exact HB.out | apply below_alloc | apply pw_below_drewN | apply below_drew1 | refine below_set ?_ GE667.out | refine below_set ?_ GE668.out) | exact HB.out))⟩)
                  · skip
                    refine box_step ?hg (N := 8) ?hd (cs := #[.string (⟨#[]⟩ : ByteArray), .int .i64 0, .int .i64 0]) (t := 31) ?hr ?_; (case hd => rfl); (case hg => rfl); (case hr => first | (go_simp; done) | (go_simp; rfl))
                    intro gb683 hg w36 hbox hb
                    have n0_ := Aside0.mk (Kd.R_below (by (with_reducible repeat (first | apply Kd.R_alloc | apply Kd.R_drewN | apply Kd.R_drew)); exact HO673.out) hb)
                    have n1_ := Aside0.mk (blk_below (g := gb667) (o := .cells #[.string a1_0, .int .i64 a1_1, .int .i64 a1_2] 65 (0, 0)) (by (with_reducible repeat (first | refine blk_drewN ?_ _ | refine blk_drew ?_ | refine blk_alloc ?_ _)); exact BK667.out) hb)
                    have n2_ := Aside0.mk (blk_below (g := gb668) (o := .cells #[.int .i64 a2_0, .bool a2_1] 66 (0, 0)) (by (with_reducible repeat (first | refine blk_drewN ?_ _ | refine blk_drew ?_ | refine blk_alloc ?_ _)); exact BK668.out) hb)
                    have n3_ := Aside0.mk (below_step (by repeat (first | (with_reducible first | exact HB.out | apply below_alloc | apply pw_below_drewN | apply below_drew1 | refine below_set ?_ GE667.out | refine below_set ?_ GE668.out) | exact HB.out)) hb)
                    have n4_ := Aside0.mk (hbox)
                    have n5_ := Aside0.mk ((by rw [hg]; exact (below_size (by repeat (first | (with_reducible first | exact HB.out | apply below_alloc | apply pw_below_drewN | apply below_drew1 | refine below_set ?_ GE667.out | refine below_set ?_ GE668.out) | exact HB.out))) : w.heap.size ≤ gb683))
                    have n6_ := Aside0.mk ((by rw [hg]; exact (below_size (by repeat (first | (with_reducible first | exact HB.out | apply below_alloc | apply pw_below_drewN | apply below_drew1 | refine below_set ?_ GE667.out | refine below_set ?_ GE668.out) | exact HB.out))) : w.heap.size ≤ gb683))
                    have n7_ := Aside0.mk ((by rw [hg]; exact Nat.ne_of_lt (blk_lt (g := gb667) (o := .cells #[.string a1_0, .int .i64 a1_1, .int .i64 a1_2] 65 (0, 0)) (by (with_reducible repeat (first | refine blk_drewN ?_ _ | refine blk_drew ?_ | refine blk_alloc ?_ _)); exact BK667.out)) : gb667 ≠ gb683))
                    have n8_ := Aside0.mk ((by rw [hg]; exact Nat.ne_of_gt (blk_lt (g := gb667) (o := .cells #[.string a1_0, .int .i64 a1_1, .int .i64 a1_2] 65 (0, 0)) (by (with_reducible repeat (first | refine blk_drewN ?_ _ | refine blk_drew ?_ | refine blk_alloc ?_ _)); exact BK667.out)) : gb683 ≠ gb667))
                    have n9_ := Aside0.mk ((by rw [hg]; exact Nat.ne_of_lt (blk_lt (g := gb668) (o := .cells #[.int .i64 a2_0, .bool a2_1] 66 (0, 0)) (by (with_reducible repeat (first | refine blk_drewN ?_ _ | refine blk_drew ?_ | refine blk_alloc ?_ _)); exact BK668.out)) : gb668 ≠ gb683))
                    have n10_ := Aside0.mk ((by rw [hg]; exact Nat.ne_of_gt (blk_lt (g := gb668) (o := .cells #[.int .i64 a2_0, .bool a2_1] 66 (0, 0)) (by (with_reducible repeat (first | refine blk_drewN ?_ _ | refine blk_drew ?_ | refine blk_alloc ?_ _)); exact BK668.out)) : gb683 ≠ gb668))
                    clear HO673
                    clear BK667
                    clear BK668
                    clear HB
                    have HO673 := n0_
                    have BK667 := n1_
                    have BK668 := n2_
                    have HB := n3_
                    have BK683 := n4_
                    have GW683 := n5_
                    have GE683 := n6_
                    have NB667_683 := n7_
                    have NB683_667 := n8_
                    have NB668_683 := n9_
                    have NB683_668 := n10_
                    clear n0_ n1_ n2_ n3_ n4_ n5_ n6_ n7_ n8_ n9_ n10_
                    clear hb hbox hg
                    refine hK.out _ _ ⟨(blk_cell BK667.out 0).trans rfl, (blk_cell BK667.out 1).trans rfl, (blk_cell BK667.out 2).trans rfl, (blk_cell BK668.out 0).trans rfl, (blk_cell BK668.out 1).trans rfl⟩ (fun hHeld => ?_)
                    clear hK K
                    refine norm_ (a' := ?_) ?_ ?_
                    rotate_left
                    · show Act.put _ (some 8) _ = _
                      simp only [Act.put, List.setIfInBounds_toArray, List.set_cons_zero, List.set_cons_succ, i64_w, i32_w]
                      rfl
                    exact norm_ (by first | (simp only [putAll, Act.put, List.setIfInBounds_toArray, List.set_cons_zero, List.set_cons_succ]; done) | (simp only [putAll, Act.put, List.setIfInBounds_toArray, List.set_cons_zero, List.set_cons_succ]; rfl)) (hJ1_3_10 (v672, gb683) _ ⟨hHeld, (by (with_reducible repeat (first | apply Kd.R_alloc | apply Kd.R_drewN | apply Kd.R_drew)); exact HO673.out), (by (with_reducible repeat (first | refine blk_drewN ?_ _ | refine blk_drew ?_ | refine blk_alloc ?_ _)); exact BK667.out), (by (with_reducible repeat (first | refine blk_drewN ?_ _ | refine blk_drew ?_ | refine blk_alloc ?_ _)); exact BK668.out), (by (with_reducible repeat (first | refine blk_drewN ?_ _ | refine blk_drew ?_ | refine blk_alloc ?_ _)); exact BK683.out), GW683.out, GE683.out, NB667_683.out, NB683_667.out, NB668_683.out, NB683_668.out, (by repeat (first | (with_reducible first | exact HB.out | apply below_alloc | apply pw_below_drewN | apply below_drew1 | refine below_set ?_ GE667.out | refine below_set ?_ GE668.out | refine below_set ?_ GE683.out) | exact HB.out))⟩)
              · skip
                rintro ⟨v672, gb683⟩ w36 ⟨hS_, h0_, h1_, h2_, h3_, h4_, h5_, h6_, h7_, h8_, h9_, h10_⟩
                have n0_ : Aside0 (Kd.R k39 39 w36 w.heap.size (fun _ => True) v672 t671) := ⟨h0_⟩
                have n1_ : Aside0 (w36.heap[gb667]? = some (.cells #[.string a1_0, .int .i64 a1_1, .int .i64 a1_2] 65 (0, 0))) := ⟨h1_⟩
                have n2_ : Aside0 (w36.heap[gb668]? = some (.cells #[.int .i64 a2_0, .bool a2_1] 66 (0, 0))) := ⟨h2_⟩
                have n3_ : Aside0 (w36.heap[gb683]? = some (.cells #[.string (⟨#[]⟩ : ByteArray), .int .i64 0, .int .i64 0] 31 (0, 0))) := ⟨h3_⟩
                have n4_ : Aside0 (w.heap.size ≤ gb683) := ⟨h4_⟩
                have n5_ : Aside0 (w.heap.size ≤ gb683) := ⟨h5_⟩
                have n6_ : Aside0 (gb667 ≠ gb683) := ⟨h6_⟩
                have n7_ : Aside0 (gb683 ≠ gb667) := ⟨h7_⟩
                have n8_ : Aside0 (gb668 ≠ gb683) := ⟨h8_⟩
                have n9_ : Aside0 (gb683 ≠ gb668) := ⟨h9_⟩
                have n10_ : Aside0 (Below w.heap.size w w36) := ⟨h10_⟩
                clear BK667
                clear BK668
                clear HB
                clear h0_ h1_ h2_ h3_ h4_ h5_ h6_ h7_ h8_ h9_ h10_
                have HO673 := n0_
                have BK667 := n1_
                have BK668 := n2_
                have BK683 := n3_
                have GW683 := n4_
                have GE683 := n5_
                have NB667_683 := n6_
                have NB683_667 := n7_
                have NB668_683 := n8_
                have NB683_668 := n9_
                have HB := n10_
                clear n0_ n1_ n2_ n3_ n4_ n5_ n6_ n7_ n8_ n9_ n10_
                have hHeld : w36.cell? ⟨gb667, 0, none⟩ = some (.string a1_0) ∧ w36.cell? ⟨gb667, 1, none⟩ = some (.int .i64 a1_1) ∧ w36.cell? ⟨gb667, 2, none⟩ = some (.int .i64 a1_2) ∧ w36.cell? ⟨gb668, 0, none⟩ = some (.int .i64 a2_0) ∧ w36.cell? ⟨gb668, 1, none⟩ = some (.bool a2_1) := hS_
                refine norm_ (a' := ?_) ?_ ?_
                rotate_left
                · simp only [putAll, Act.put, List.setIfInBounds_toArray, List.set_cons_zero, List.set_cons_succ]
                  rfl
                refine one_ (i := 5) (N := some 29) #[true, true, true, true, true, true, false, false, false, false, true, false, false] rfl rfl (one_of HT_.out (by kernel_rfl)) (by decide) (fun K hK => ?_)
                refine goes_ Try.func49 (by kernel_rfl) rfl #[.agg #[.int .i64 a2_0, .bool a2_1]] (by rfl) rfl rfl (by (try simp only [List.map_toArray, List.map_cons, List.map_nil]); first | done | rfl | (simp only [List.length_drop, List.length_take]; rfl)) ?_
                with_reducible refine (laws_toRecSay.calls a2_0 a2_1 t677 t678 _ A19.out).mono ?_
                rintro e w37 ⟨rfl, hb⟩
                refine ⟨_, rfl, ?_⟩
                have n0_ := Aside0.mk (Kd.R_below (by (with_reducible repeat (first | apply Kd.R_alloc | apply Kd.R_drewN | apply Kd.R_drew)); exact HO673.out) hb)
                have n1_ := Aside0.mk (blk_below (g := gb667) (o := .cells #[.string a1_0, .int .i64 a1_1, .int .i64 a1_2] 65 (0, 0)) (by (with_reducible repeat (first | refine blk_drewN ?_ _ | refine blk_drew ?_ | refine blk_alloc ?_ _)); exact BK667.out) hb)
                have n2_ := Aside0.mk (blk_below (g := gb668) (o := .cells #[.int .i64 a2_0, .bool a2_1] 66 (0, 0)) (by (with_reducible repeat (first | refine blk_drewN ?_ _ | refine blk_drew ?_ | refine blk_alloc ?_ _)); exact BK668.out) hb)
                have n3_ := Aside0.mk (blk_below (g := gb683) (o := .cells #[.string (⟨#[]⟩ : ByteArray), .int .i64 0, .int .i64 0] 31 (0, 0)) (by (with_reducible repeat (first | refine blk_drewN ?_ _ | refine blk_drew ?_ | refine blk_alloc ?_ _)); exact BK683.out) hb)
                have n4_ := Aside0.mk (below_step (by repeat (first | (with_reducible first | exact HB.out | apply below_alloc | apply pw_below_drewN | apply below_drew1 | refine below_set ?_ GE667.out | refine below_set ?_ GE668.out | refine below_set ?_ GE683.out) | exact HB.out)) hb)
                clear HO673
                clear BK667
                clear BK668
                clear BK683
                clear HB
                have HO673 := n0_
                have BK667 := n1_
                have BK668 := n2_
                have BK683 := n3_
                have HB := n4_
                clear n0_ n1_ n2_ n3_ n4_
                (try clear hb)
                (try clear hb2)
                (try clear hk)
                (try clear hi)
                refine hK.out _ _ ⟨(blk_cell BK667.out 0).trans rfl, (blk_cell BK667.out 1).trans rfl, (blk_cell BK667.out 2).trans rfl, (blk_cell BK668.out 0).trans rfl, (blk_cell BK668.out 1).trans rfl⟩ (fun hHeld => ?_)
                clear hK K
                refine norm_ (a' := ?_) ?_ ?_
                rotate_left
                · show Act.put _ (some 29) _ = _
                  simp only [Act.put, List.setIfInBounds_toArray, List.set_cons_zero, List.set_cons_succ, i64_w, i32_w]
                  rfl
                exact norm_ (by first | (simp only [putAll, Act.put, List.setIfInBounds_toArray, List.set_cons_zero, List.set_cons_succ]; done) | (simp only [putAll, Act.put, List.setIfInBounds_toArray, List.set_cons_zero, List.set_cons_succ]; rfl)) (hJ1_3_5_10 (_, gb683) _ ⟨hHeld, (by (with_reducible repeat (first | apply Kd.R_alloc | apply Kd.R_drewN | apply Kd.R_drew)); exact HO673.out), (by (with_reducible repeat (first | refine blk_drewN ?_ _ | refine blk_drew ?_ | refine blk_alloc ?_ _)); exact BK667.out), (by (with_reducible repeat (first | refine blk_drewN ?_ _ | refine blk_drew ?_ | refine blk_alloc ?_ _)); exact BK668.out), (by (with_reducible repeat (first | refine blk_drewN ?_ _ | refine blk_drew ?_ | refine blk_alloc ?_ _)); exact BK683.out), GW683.out, GE683.out, NB667_683.out, NB683_667.out, NB668_683.out, NB683_668.out, (by repeat (first | (with_reducible first | exact HB.out | apply below_alloc | apply pw_below_drewN | apply below_drew1 | refine below_set ?_ GE667.out | refine below_set ?_ GE668.out | refine below_set ?_ GE683.out) | exact HB.out))⟩)
            · skip
              rintro v672 w36 ⟨hS_, h0_, h1_, h2_, h3_⟩
              have n0_ : Aside0 (Kd.R k39 39 w36 w.heap.size (fun _ => True) v672 t671) := ⟨h0_⟩
              have n1_ : Aside0 (w36.heap[gb667]? = some (.cells #[.string a1_0, .int .i64 a1_1, .int .i64 a1_2] 65 (0, 0))) := ⟨h1_⟩
              have n2_ : Aside0 (w36.heap[gb668]? = some (.cells #[.int .i64 a2_0, .bool a2_1] 66 (0, 0))) := ⟨h2_⟩
              have n3_ : Aside0 (Below w.heap.size w w36) := ⟨h3_⟩
              clear BK667
              clear BK668
              clear HB
              clear h0_ h1_ h2_ h3_
              have HO673 := n0_
              have BK667 := n1_
              have BK668 := n2_
              have HB := n3_
              clear n0_ n1_ n2_ n3_
              have hHeld : w36.cell? ⟨gb667, 0, none⟩ = some (.string a1_0) ∧ w36.cell? ⟨gb667, 1, none⟩ = some (.int .i64 a1_1) ∧ w36.cell? ⟨gb667, 2, none⟩ = some (.int .i64 a1_2) ∧ w36.cell? ⟨gb668, 0, none⟩ = some (.int .i64 a2_0) ∧ w36.cell? ⟨gb668, 1, none⟩ = some (.bool a2_1) := hS_
              obtain ⟨Ao37, co37, eo37⟩ := Kd.R_slice HO673.out
              (first | subst eo37 | (injection eo37 with f1_ f2_ f3_; have f4_ := f1_.symm; have f5_ := f3_.symm; clear f1_ f2_ f3_; subst f4_; subst f5_))
              refine norm_ (a' := ?_) ?_ ?_
              rotate_left
              · simp only [putAll, Act.put, List.setIfInBounds_toArray, List.set_cons_zero, List.set_cons_succ]
                rfl
              refine two_ (i := 6) (j := 10) (Ni := some 30) (Nj := some 8) #[true, true, true, true, true, true, true, false, false, false, false, false, false] #[true, true, true, true, true, true, false, false, false, false, true, false, false] rfl rfl rfl rfl (two_of HT_.out (by kernel_rfl)) (by decide) (by decide) (fun K hK => ?_) (fun K hK => ?_)
              · skip
                refine goes_ Try.func47 (by kernel_rfl) rfl #[.slice Ao37 t671.length co37, .agg #[.string t674, .int .i64 t675, .int .i64 t676], .agg #[.int .i64 t677, .bool t678]] (by rfl) rfl rfl (by (try simp only [List.map_toArray, List.map_cons, List.map_nil]); first | done | rfl | (simp only [List.length_drop, List.length_take]; rfl)) ?_
                with_reducible refine (spec_RecGo.calls k _ _ t671 t674 t675 t676 t677 t678 t679 t680 t681 t682 _ ?side1 ?side2 A20.out).mono ?_
                (case side1 => repeat (first | exact (Kd.R_reads' HO673.out).2.2 | (with_reducible refine Kd.C_alloc ?_ _) | (with_reducible refine Kd.C_drewN ?_ _) | (with_reducible refine Kd.C_drew ?_)))
                (case side2 => exact (Kd.R_reads' HO673.out).2.1)
                rintro e w38 ⟨rfl, hb⟩
                refine ⟨_, rfl, ?_⟩
                have n0_ := Aside0.mk (Kd.R_below (by (with_reducible repeat (first | apply Kd.R_alloc | apply Kd.R_drewN | apply Kd.R_drew)); exact HO673.out) hb)
                have n1_ := Aside0.mk (blk_below (g := gb667) (o := .cells #[.string a1_0, .int .i64 a1_1, .int .i64 a1_2] 65 (0, 0)) (by (with_reducible repeat (first | refine blk_drewN ?_ _ | refine blk_drew ?_ | refine blk_alloc ?_ _)); exact BK667.out) hb)
                have n2_ := Aside0.mk (blk_below (g := gb668) (o := .cells #[.int .i64 a2_0, .bool a2_1] 66 (0, 0)) (by (with_reducible repeat (first | refine blk_drewN ?_ _ | refine blk_drew ?_ | refine blk_alloc ?_ _)); exact BK668.out) hb)
                have n3_ := Aside0.mk (below_step (by repeat (first | (with_reducible first | exact HB.out | apply below_alloc | apply pw_below_drewN | apply below_drew1 | refine below_set ?_ GE667.out | refine below_set ?_ GE668.out) | exact HB.out)) hb)
                clear HO673
                clear BK667
                clear BK668
                clear HB
                have HO673 := n0_
                have BK667 := n1_
                have BK668 := n2_
                have HB := n3_
                clear n0_ n1_ n2_ n3_
                (try clear hb)
                (try clear hb2)
                (try clear hk)
                (try clear hi)
                refine hK.out _ _ ⟨(blk_cell BK667.out 0).trans rfl, (blk_cell BK667.out 1).trans rfl, (blk_cell BK667.out 2).trans rfl, (blk_cell BK668.out 0).trans rfl, (blk_cell BK668.out 1).trans rfl⟩ (fun hHeld => ?_)
                clear hK K
                refine norm_ (a' := ?_) ?_ ?_
                rotate_left
                · show Act.put _ (some 30) _ = _
                  simp only [Act.put, List.setIfInBounds_toArray, List.set_cons_zero, List.set_cons_succ, i64_w, i32_w]
                  rfl
                refine pure_ (i := 7) (N := some 23) (v := ?_) (a' := ?_) #[true, true, true, true, true, true, true, true, false, false, false, false, false] rfl rfl (any_of HT_.out (by kernel_rfl)) (fun _ _ _ h => h) (Or.inl ⟨by rfl, ?_⟩) ?_ ?_
                rotate_left
                · intro w'
                  go_simp
                  with_reducible rfl
                rotate_left
                · simp only [Act.put, List.setIfInBounds_toArray, List.set_cons_zero, List.set_cons_succ, i64_w, i32_w]
                  rfl
                refine pure_ (i := 8) (N := some 31) (v := ?_) (a' := ?_) #[true, true, true, true, true, true, true, true, true, false, false, false, false] rfl rfl (any_of HT_.out (by kernel_rfl)) (fun _ _ _ h => h) (Or.inl ⟨by rfl, ?_⟩) ?_ ?_
                rotate_left
                · intro w'
                  go_simp
                  with_reducible rfl
                rotate_left
                · simp only [Act.put, List.setIfInBounds_toArray, List.set_cons_zero, List.set_cons_succ, i64_w, i32_w]
                  rfl
                refine pure_ (i := 9) (N := some 32) (v := ?_) (a' := ?_) #[true, true, true, true, true, true, true, true, true, true, false, false, false] rfl rfl (any_of HT_.out (by kernel_rfl)) (fun _ _ _ h => h) (Or.inl ⟨by rfl, ?_⟩) ?_ ?_
                rotate_left
                · intro w'
                  go_simp
                  with_reducible rfl
                rotate_left
                · simp only [Act.put, List.setIfInBounds_toArray, List.set_cons_zero, List.set_cons_succ, i64_w, i32_w]
                  rfl
                exact norm_ (by first | (simp only [putAll, Act.put, List.setIfInBounds_toArray, List.set_cons_zero, List.set_cons_succ]; done) | (simp only [putAll, Act.put, List.setIfInBounds_toArray, List.set_cons_zero, List.set_cons_succ]; rfl)) (hJ1_3_5_6 (.slice Ao37 t671.length co37) _ ⟨hHeld, (by (with_reducible repeat (first | apply Kd.R_alloc | apply Kd.R_drewN | apply Kd.R_drew)); exact HO673.out), (by (with_reducible repeat (first | refine blk_drewN ?_ _ | refine blk_drew ?_ | refine blk_alloc ?_ _)); exact BK667.out), (by (with_reducible repeat (first | refine blk_drewN ?_ _ | refine blk_drew ?_ | refine blk_alloc ?_ _)); exact BK668.out), (by repeat (first | (with_reducible first | exact HB.out | apply below_alloc | apply pw_below_drewN | apply below_drew1 | refine below_set ?_ GE667.out | refine below_set ?_ GE668.out) | exact HB.out))⟩)
              · skip
                refine box_step ?hg (N := 8) ?hd (cs := #[.string (⟨#[]⟩ : ByteArray), .int .i64 0, .int .i64 0]) (t := 31) ?hr ?_; (case hd => rfl); (case hg => rfl); (case hr => first | (go_simp; done) | (go_simp; rfl))
                intro gb683 hg w37 hbox hb
                have n0_ := Aside0.mk (Kd.R_below (by (with_reducible repeat (first | apply Kd.R_alloc | apply Kd.R_drewN | apply Kd.R_drew)); exact HO673.out) hb)
                have n1_ := Aside0.mk (blk_below (g := gb667) (o := .cells #[.string a1_0, .int .i64 a1_1, .int .i64 a1_2] 65 (0, 0)) (by (with_reducible repeat (first | refine blk_drewN ?_ _ | refine blk_drew ?_ | refine blk_alloc ?_ _)); exact BK667.out) hb)
                have n2_ := Aside0.mk (blk_below (g := gb668) (o := .cells #[.int .i64 a2_0, .bool a2_1] 66 (0, 0)) (by (with_reducible repeat (first | refine blk_drewN ?_ _ | refine blk_drew ?_ | refine blk_alloc ?_ _)); exact BK668.out) hb)
                have n3_ := Aside0.mk (below_step (by repeat (first | (with_reducible first | exact HB.out | apply below_alloc | apply pw_below_drewN | apply below_drew1 | refine below_set ?_ GE667.out | refine below_set ?_ GE668.out) | exact HB.out)) hb)
                have n4_ := Aside0.mk (hbox)
                have n5_ := Aside0.mk ((by rw [hg]; exact (below_size (by repeat (first | (with_reducible first | exact HB.out | apply below_alloc | apply pw_below_drewN | apply below_drew1 | refine below_set ?_ GE667.out | refine below_set ?_ GE668.out) | exact HB.out))) : w.heap.size ≤ gb683))
                have n6_ := Aside0.mk ((by rw [hg]; exact (below_size (by repeat (first | (with_reducible first | exact HB.out | apply below_alloc | apply pw_below_drewN | apply below_drew1 | refine below_set ?_ GE667.out | refine below_set ?_ GE668.out) | exact HB.out))) : w.heap.size ≤ gb683))
                have n7_ := Aside0.mk ((by rw [hg]; exact Nat.ne_of_lt (blk_lt (g := gb667) (o := .cells #[.string a1_0, .int .i64 a1_1, .int .i64 a1_2] 65 (0, 0)) (by (with_reducible repeat (first | refine blk_drewN ?_ _ | refine blk_drew ?_ | refine blk_alloc ?_ _)); exact BK667.out)) : gb667 ≠ gb683))
                have n8_ := Aside0.mk ((by rw [hg]; exact Nat.ne_of_gt (blk_lt (g := gb667) (o := .cells #[.string a1_0, .int .i64 a1_1, .int .i64 a1_2] 65 (0, 0)) (by (with_reducible repeat (first | refine blk_drewN ?_ _ | refine blk_drew ?_ | refine blk_alloc ?_ _)); exact BK667.out)) : gb683 ≠ gb667))
                have n9_ := Aside0.mk ((by rw [hg]; exact Nat.ne_of_lt (blk_lt (g := gb668) (o := .cells #[.int .i64 a2_0, .bool a2_1] 66 (0, 0)) (by (with_reducible repeat (first | refine blk_drewN ?_ _ | refine blk_drew ?_ | refine blk_alloc ?_ _)); exact BK668.out)) : gb668 ≠ gb683))
                have n10_ := Aside0.mk ((by rw [hg]; exact Nat.ne_of_gt (blk_lt (g := gb668) (o := .cells #[.int .i64 a2_0, .bool a2_1] 66 (0, 0)) (by (with_reducible repeat (first | refine blk_drewN ?_ _ | refine blk_drew ?_ | refine blk_alloc ?_ _)); exact BK668.out)) : gb683 ≠ gb668))
                clear HO673
                clear BK667
                clear BK668
                clear HB
                have HO673 := n0_
                have BK667 := n1_
                have BK668 := n2_
                have HB := n3_
                have BK683 := n4_
                have GW683 := n5_
                have GE683 := n6_
                have NB667_683 := n7_
                have NB683_667 := n8_
                have NB668_683 := n9_
                have NB683_668 := n10_
                clear n0_ n1_ n2_ n3_ n4_ n5_ n6_ n7_ n8_ n9_ n10_
                clear hb hbox hg
                refine hK.out _ _ ⟨(blk_cell BK667.out 0).trans rfl, (blk_cell BK667.out 1).trans rfl, (blk_cell BK667.out 2).trans rfl, (blk_cell BK668.out 0).trans rfl, (blk_cell BK668.out 1).trans rfl⟩ (fun hHeld => ?_)
                clear hK K
                refine norm_ (a' := ?_) ?_ ?_
                rotate_left
                · show Act.put _ (some 8) _ = _
                  simp only [Act.put, List.setIfInBounds_toArray, List.set_cons_zero, List.set_cons_succ, i64_w, i32_w]
                  rfl
                exact norm_ (by first | (simp only [putAll, Act.put, List.setIfInBounds_toArray, List.set_cons_zero, List.set_cons_succ]; done) | (simp only [putAll, Act.put, List.setIfInBounds_toArray, List.set_cons_zero, List.set_cons_succ]; rfl)) (hJ1_3_5_10 (_, gb683) _ ⟨hHeld, (by (with_reducible repeat (first | apply Kd.R_alloc | apply Kd.R_drewN | apply Kd.R_drew)); exact HO673.out), (by (with_reducible repeat (first | refine blk_drewN ?_ _ | refine blk_drew ?_ | refine blk_alloc ?_ _)); exact BK667.out), (by (with_reducible repeat (first | refine blk_drewN ?_ _ | refine blk_drew ?_ | refine blk_alloc ?_ _)); exact BK668.out), (by (with_reducible repeat (first | refine blk_drewN ?_ _ | refine blk_drew ?_ | refine blk_alloc ?_ _)); exact BK683.out), GW683.out, GE683.out, NB667_683.out, NB683_667.out, NB668_683.out, NB683_668.out, (by repeat (first | (with_reducible first | exact HB.out | apply below_alloc | apply pw_below_drewN | apply below_drew1 | refine below_set ?_ GE667.out | refine below_set ?_ GE668.out | refine below_set ?_ GE683.out) | exact HB.out))⟩)
          · skip
            rintro ⟨v672, gb683⟩ w37 ⟨hS_, h0_, h1_, h2_, h3_, h4_, h5_, h6_, h7_, h8_, h9_, h10_⟩
            have n0_ : Aside0 (Kd.R k39 39 w37 w.heap.size (fun _ => True) v672 t671) := ⟨h0_⟩
            have n1_ : Aside0 (w37.heap[gb667]? = some (.cells #[.string a1_0, .int .i64 a1_1, .int .i64 a1_2] 65 (0, 0))) := ⟨h1_⟩
            have n2_ : Aside0 (w37.heap[gb668]? = some (.cells #[.int .i64 a2_0, .bool a2_1] 66 (0, 0))) := ⟨h2_⟩
            have n3_ : Aside0 (w37.heap[gb683]? = some (.cells #[.string (⟨#[]⟩ : ByteArray), .int .i64 0, .int .i64 0] 31 (0, 0))) := ⟨h3_⟩
            have n4_ : Aside0 (w.heap.size ≤ gb683) := ⟨h4_⟩
            have n5_ : Aside0 (w.heap.size ≤ gb683) := ⟨h5_⟩
            have n6_ : Aside0 (gb667 ≠ gb683) := ⟨h6_⟩
            have n7_ : Aside0 (gb683 ≠ gb667) := ⟨h7_⟩
            have n8_ : Aside0 (gb668 ≠ gb683) := ⟨h8_⟩
            have n9_ : Aside0 (gb683 ≠ gb668) := ⟨h9_⟩
            have n10_ : Aside0 (Below w.heap.size w w37) := ⟨h10_⟩
            clear BK667
            clear BK668
            clear HB
            clear h0_ h1_ h2_ h3_ h4_ h5_ h6_ h7_ h8_ h9_ h10_
            have HO673 := n0_
            have BK667 := n1_
            have BK668 := n2_
            have BK683 := n3_
            have GW683 := n4_
            have GE683 := n5_
            have NB667_683 := n6_
            have NB683_667 := n7_
            have NB668_683 := n8_
            have NB683_668 := n9_
            have HB := n10_
            clear n0_ n1_ n2_ n3_ n4_ n5_ n6_ n7_ n8_ n9_ n10_
            have hHeld : w37.cell? ⟨gb667, 0, none⟩ = some (.string a1_0) ∧ w37.cell? ⟨gb667, 1, none⟩ = some (.int .i64 a1_1) ∧ w37.cell? ⟨gb667, 2, none⟩ = some (.int .i64 a1_2) ∧ w37.cell? ⟨gb668, 0, none⟩ = some (.int .i64 a2_0) ∧ w37.cell? ⟨gb668, 1, none⟩ = some (.bool a2_1) := hS_
            obtain ⟨Ao38, co38, eo38⟩ := Kd.R_slice HO673.out
            (first | subst eo38 | (injection eo38 with f1_ f2_ f3_; have f4_ := f1_.symm; have f5_ := f3_.symm; clear f1_ f2_ f3_; subst f4_; subst f5_))
            refine norm_ (a' := ?_) ?_ ?_
            rotate_left
            · simp only [putAll, Act.put, List.setIfInBounds_toArray, List.set_cons_zero, List.set_cons_succ]
              rfl
            refine one_ (i := 6) (N := some 30) #[true, true, true, true, true, true, true, false, false, false, true, false, false] rfl rfl (one_of HT_.out (by kernel_rfl)) (by decide) (fun K hK => ?_)
            refine goes_ Try.func47 (by kernel_rfl) rfl #[.slice Ao38 t671.length co38, .agg #[.string t674, .int .i64 t675, .int .i64 t676], .agg #[.int .i64 t677, .bool t678]] (by rfl) rfl rfl (by (try simp only [List.map_toArray, List.map_cons, List.map_nil]); first | done | rfl | (simp only [List.length_drop, List.length_take]; rfl)) ?_
            with_reducible refine (spec_RecGo.calls k _ _ t671 t674 t675 t676 t677 t678 t679 t680 t681 t682 _ ?side1 ?side2 A20.out).mono ?_
            (case side1 => repeat (first | exact (Kd.R_reads' HO673.out).2.2 | (with_reducible refine Kd.C_alloc ?_ _) | (with_reducible refine Kd.C_drewN ?_ _) | (with_reducible refine Kd.C_drew ?_)))
            (case side2 => exact (Kd.R_reads' HO673.out).2.1)
            rintro e w39 ⟨rfl, hb⟩
            refine ⟨_, rfl, ?_⟩
            have n0_ := Aside0.mk (Kd.R_below (by (with_reducible repeat (first | apply Kd.R_alloc | apply Kd.R_drewN | apply Kd.R_drew)); exact HO673.out) hb)
            have n1_ := Aside0.mk (blk_below (g := gb667) (o := .cells #[.string a1_0, .int .i64 a1_1, .int .i64 a1_2] 65 (0, 0)) (by (with_reducible repeat (first | refine blk_drewN ?_ _ | refine blk_drew ?_ | refine blk_alloc ?_ _)); exact BK667.out) hb)
            have n2_ := Aside0.mk (blk_below (g := gb668) (o := .cells #[.int .i64 a2_0, .bool a2_1] 66 (0, 0)) (by (with_reducible repeat (first | refine blk_drewN ?_ _ | refine blk_drew ?_ | refine blk_alloc ?_ _)); exact BK668.out) hb)
            have n3_ := Aside0.mk (blk_below (g := gb683) (o := .cells #[.string (⟨#[]⟩ : ByteArray), .int .i64 0, .int .i64 0] 31 (0, 0)) (by (with_reducible repeat (first | refine blk_drewN ?_ _ | refine blk_drew ?_ | refine blk_alloc ?_ _)); exact BK683.out) hb)
            have n4_ := Aside0.mk (below_step (by repeat (first | (with_reducible first | exact HB.out | apply below_alloc | apply pw_below_drewN | apply below_drew1 | refine below_set ?_ GE667.out | refine below_set ?_ GE668.out | refine below_set ?_ GE683.out) | exact HB.out)) hb)
            clear HO673
            clear BK667
            clear BK668
            clear BK683
            clear HB
            have HO673 := n0_
            have BK667 := n1_
            have BK668 := n2_
            have BK683 := n3_
            have HB := n4_
            clear n0_ n1_ n2_ n3_ n4_
            (try clear hb)
            (try clear hb2)
            (try clear hk)
            (try clear hi)
            refine hK.out _ _ ⟨(blk_cell BK667.out 0).trans rfl, (blk_cell BK667.out 1).trans rfl, (blk_cell BK667.out 2).trans rfl, (blk_cell BK668.out 0).trans rfl, (blk_cell BK668.out 1).trans rfl⟩ (fun hHeld => ?_)
            clear hK K
            refine norm_ (a' := ?_) ?_ ?_
            rotate_left
            · show Act.put _ (some 30) _ = _
              simp only [Act.put, List.setIfInBounds_toArray, List.set_cons_zero, List.set_cons_succ, i64_w, i32_w]
              rfl
            refine pure_ (i := 7) (N := some 23) (v := ?_) (a' := ?_) #[true, true, true, true, true, true, true, true, false, false, true, false, false] rfl rfl (any_of HT_.out (by kernel_rfl)) (fun _ _ _ h => h) (Or.inl ⟨by rfl, ?_⟩) ?_ ?_
            rotate_left
            · intro w'
              go_simp
              with_reducible rfl
            rotate_left
            · simp only [Act.put, List.setIfInBounds_toArray, List.set_cons_zero, List.set_cons_succ, i64_w, i32_w]
              rfl
            refine pure_ (i := 8) (N := some 31) (v := ?_) (a' := ?_) #[true, true, true, true, true, true, true, true, true, false, true, false, false] rfl rfl (any_of HT_.out (by kernel_rfl)) (fun _ _ _ h => h) (Or.inl ⟨by rfl, ?_⟩) ?_ ?_
            rotate_left
            · intro w'
              go_simp
              with_reducible rfl
            rotate_left
            · simp only [Act.put, List.setIfInBounds_toArray, List.set_cons_zero, List.set_cons_succ, i64_w, i32_w]
              rfl
            refine pure_ (i := 9) (N := some 32) (v := ?_) (a' := ?_) #[true, true, true, true, true, true, true, true, true, true, true, false, false] rfl rfl (any_of HT_.out (by kernel_rfl)) (fun _ _ _ h => h) (Or.inl ⟨by rfl, ?_⟩) ?_ ?_
            rotate_left
            · intro w'
              go_simp
              with_reducible rfl
            rotate_left
            · simp only [Act.put, List.setIfInBounds_toArray, List.set_cons_zero, List.set_cons_succ, i64_w, i32_w]
              rfl
            exact norm_ (by first | (simp only [putAll, Act.put, List.setIfInBounds_toArray, List.set_cons_zero, List.set_cons_succ]; done) | (simp only [putAll, Act.put, List.setIfInBounds_toArray, List.set_cons_zero, List.set_cons_succ]; rfl)) (hJ1_3_5_6_10 (.slice Ao38 t671.length co38, gb683) _ ⟨hHeld, (by (with_reducible repeat (first | apply Kd.R_alloc | apply Kd.R_drewN | apply Kd.R_drew)); exact HO673.out), (by (with_reducible repeat (first | refine blk_drewN ?_ _ | refine blk_drew ?_ | refine blk_alloc ?_ _)); exact BK667.out), (by (with_reducible repeat (first | refine blk_drewN ?_ _ | refine blk_drew ?_ | refine blk_alloc ?_ _)); exact BK668.out), (by (with_reducible repeat (first | refine blk_drewN ?_ _ | refine blk_drew ?_ | refine blk_alloc ?_ _)); exact BK683.out), GW683.out, GE683.out, NB667_683.out, NB683_667.out, NB668_683.out, NB683_668.out, (by repeat (first | (with_reducible first | exact HB.out | apply below_alloc | apply pw_below_drewN | apply below_drew1 | refine below_set ?_ GE667.out | refine below_set ?_ GE668.out | refine below_set ?_ GE683.out) | exact HB.out))⟩)
        · skip
          rintro v672 w38 ⟨hS_, h0_, h1_, h2_, h3_⟩
          have n0_ : Aside0 (Kd.R k39 39 w38 w.heap.size (fun _ => True) v672 t671) := ⟨h0_⟩
          have n1_ : Aside0 (w38.heap[gb667]? = some (.cells #[.string a1_0, .int .i64 a1_1, .int .i64 a1_2] 65 (0, 0))) := ⟨h1_⟩
          have n2_ : Aside0 (w38.heap[gb668]? = some (.cells #[.int .i64 a2_0, .bool a2_1] 66 (0, 0))) := ⟨h2_⟩
          have n3_ : Aside0 (Below w.heap.size w w38) := ⟨h3_⟩
          clear BK667
          clear BK668
          clear HB
          clear h0_ h1_ h2_ h3_
          have HO673 := n0_
          have BK667 := n1_
          have BK668 := n2_
          have HB := n3_
          clear n0_ n1_ n2_ n3_
          have hHeld : w38.cell? ⟨gb667, 0, none⟩ = some (.string a1_0) ∧ w38.cell? ⟨gb667, 1, none⟩ = some (.int .i64 a1_1) ∧ w38.cell? ⟨gb667, 2, none⟩ = some (.int .i64 a1_2) ∧ w38.cell? ⟨gb668, 0, none⟩ = some (.int .i64 a2_0) ∧ w38.cell? ⟨gb668, 1, none⟩ = some (.bool a2_1) := hS_
          refine norm_ (a' := ?_) ?_ ?_
          rotate_left
          · simp only [putAll, Act.put, List.setIfInBounds_toArray, List.set_cons_zero, List.set_cons_succ]
            rfl
          refine one_ (i := 10) (N := some 8) #[true, true, true, true, true, true, true, true, true, true, true, false, false] rfl rfl (one_of HT_.out (by kernel_rfl)) (by decide) (fun K hK => ?_)
          refine box_step ?hg (N := 8) ?hd (cs := #[.string (⟨#[]⟩ : ByteArray), .int .i64 0, .int .i64 0]) (t := 31) ?hr ?_; (case hd => rfl); (case hg => rfl); (case hr => first | (go_simp; done) | (go_simp; rfl))
          intro gb683 hg w39 hbox hb
          have n0_ := Aside0.mk (Kd.R_below (by (with_reducible repeat (first | apply Kd.R_alloc | apply Kd.R_drewN | apply Kd.R_drew)); exact HO673.out) hb)
          have n1_ := Aside0.mk (blk_below (g := gb667) (o := .cells #[.string a1_0, .int .i64 a1_1, .int .i64 a1_2] 65 (0, 0)) (by (with_reducible repeat (first | refine blk_drewN ?_ _ | refine blk_drew ?_ | refine blk_alloc ?_ _)); exact BK667.out) hb)
          have n2_ := Aside0.mk (blk_below (g := gb668) (o := .cells #[.int .i64 a2_0, .bool a2_1] 66 (0, 0)) (by (with_reducible repeat (first | refine blk_drewN ?_ _ | refine blk_drew ?_ | refine blk_alloc ?_ _)); exact BK668.out) hb)
          have n3_ := Aside0.mk (below_step (by repeat (first | (with_reducible first | exact HB.out | apply below_alloc | apply pw_below_drewN | apply below_drew1 | refine below_set ?_ GE667.out | refine below_set ?_ GE668.out) | exact HB.out)) hb)
          have n4_ := Aside0.mk (hbox)
          have n5_ := Aside0.mk ((by rw [hg]; exact (below_size (by repeat (first | (with_reducible first | exact HB.out | apply below_alloc | apply pw_below_drewN | apply below_drew1 | refine below_set ?_ GE667.out | refine below_set ?_ GE668.out) | exact HB.out))) : w.heap.size ≤ gb683))
          have n6_ := Aside0.mk ((by rw [hg]; exact (below_size (by repeat (first | (with_reducible first | exact HB.out | apply below_alloc | apply pw_below_drewN | apply below_drew1 | refine below_set ?_ GE667.out | refine below_set ?_ GE668.out) | exact HB.out))) : w.heap.size ≤ gb683))
          have n7_ := Aside0.mk ((by rw [hg]; exact Nat.ne_of_lt (blk_lt (g := gb667) (o := .cells #[.string a1_0, .int .i64 a1_1, .int .i64 a1_2] 65 (0, 0)) (by (with_reducible repeat (first | refine blk_drewN ?_ _ | refine blk_drew ?_ | refine blk_alloc ?_ _)); exact BK667.out)) : gb667 ≠ gb683))
          have n8_ := Aside0.mk ((by rw [hg]; exact Nat.ne_of_gt (blk_lt (g := gb667) (o := .cells #[.string a1_0, .int .i64 a1_1, .int .i64 a1_2] 65 (0, 0)) (by (with_reducible repeat (first | refine blk_drewN ?_ _ | refine blk_drew ?_ | refine blk_alloc ?_ _)); exact BK667.out)) : gb683 ≠ gb667))
          have n9_ := Aside0.mk ((by rw [hg]; exact Nat.ne_of_lt (blk_lt (g := gb668) (o := .cells #[.int .i64 a2_0, .bool a2_1] 66 (0, 0)) (by (with_reducible repeat (first | refine blk_drewN ?_ _ | refine blk_drew ?_ | refine blk_alloc ?_ _)); exact BK668.out)) : gb668 ≠ gb683))
          have n10_ := Aside0.mk ((by rw [hg]; exact Nat.ne_of_gt (blk_lt (g := gb668) (o := .cells #[.int .i64 a2_0, .bool a2_1] 66 (0, 0)) (by (with_reducible repeat (first | refine blk_drewN ?_ _ | refine blk_drew ?_ | refine blk_alloc ?_ _)); exact BK668.out)) : gb683 ≠ gb668))
          clear HO673
          clear BK667
          clear BK668
          clear HB
          have HO673 := n0_
          have BK667 := n1_
          have BK668 := n2_
          have HB := n3_
          have BK683 := n4_
          have GW683 := n5_
          have GE683 := n6_
          have NB667_683 := n7_
          have NB683_667 := n8_
          have NB668_683 := n9_
          have NB683_668 := n10_
          clear n0_ n1_ n2_ n3_ n4_ n5_ n6_ n7_ n8_ n9_ n10_
          clear hb hbox hg
          refine hK.out _ _ ⟨(blk_cell BK667.out 0).trans rfl, (blk_cell BK667.out 1).trans rfl, (blk_cell BK667.out 2).trans rfl, (blk_cell BK668.out 0).trans rfl, (blk_cell BK668.out 1).trans rfl⟩ (fun hHeld => ?_)
          clear hK K
          refine norm_ (a' := ?_) ?_ ?_
          rotate_left
          · show Act.put _ (some 8) _ = _
            simp only [Act.put, List.setIfInBounds_toArray, List.set_cons_zero, List.set_cons_succ, i64_w, i32_w]
            rfl
          exact norm_ (by first | (simp only [putAll, Act.put, List.setIfInBounds_toArray, List.set_cons_zero, List.set_cons_succ]; done) | (simp only [putAll, Act.put, List.setIfInBounds_toArray, List.set_cons_zero, List.set_cons_succ]; rfl)) (hJ1_3_5_6_10 (v672, gb683) _ ⟨hHeld, (by (with_reducible repeat (first | apply Kd.R_alloc | apply Kd.R_drewN | apply Kd.R_drew)); exact HO673.out), (by (with_reducible repeat (first | refine blk_drewN ?_ _ | refine blk_drew ?_ | refine blk_alloc ?_ _)); exact BK667.out), (by (with_reducible repeat (first | refine blk_drewN ?_ _ | refine blk_drew ?_ | refine blk_alloc ?_ _)); exact BK668.out), (by (with_reducible repeat (first | refine blk_drewN ?_ _ | refine blk_drew ?_ | refine blk_alloc ?_ _)); exact BK683.out), GW683.out, GE683.out, NB667_683.out, NB683_667.out, NB668_683.out, NB683_668.out, (by repeat (first | (with_reducible first | exact HB.out | apply below_alloc | apply pw_below_drewN | apply below_drew1 | refine below_set ?_ GE667.out | refine below_set ?_ GE668.out | refine below_set ?_ GE683.out) | exact HB.out))⟩)
      rintro ⟨v672, gb683⟩ w39 ⟨hS_, h0_, h1_, h2_, h3_, h4_, h5_, h6_, h7_, h8_, h9_, h10_⟩
      have n0_ : Aside0 (Kd.R k39 39 w39 w.heap.size (fun _ => True) v672 t671) := ⟨h0_⟩
      have n1_ : Aside0 (w39.heap[gb667]? = some (.cells #[.string a1_0, .int .i64 a1_1, .int .i64 a1_2] 65 (0, 0))) := ⟨h1_⟩
      have n2_ : Aside0 (w39.heap[gb668]? = some (.cells #[.int .i64 a2_0, .bool a2_1] 66 (0, 0))) := ⟨h2_⟩
      have n3_ : Aside0 (w39.heap[gb683]? = some (.cells #[.string (⟨#[]⟩ : ByteArray), .int .i64 0, .int .i64 0] 31 (0, 0))) := ⟨h3_⟩
      have n4_ : Aside0 (w.heap.size ≤ gb683) := ⟨h4_⟩
      have n5_ : Aside0 (w.heap.size ≤ gb683) := ⟨h5_⟩
      have n6_ : Aside0 (gb667 ≠ gb683) := ⟨h6_⟩
      have n7_ : Aside0 (gb683 ≠ gb667) := ⟨h7_⟩
      have n8_ : Aside0 (gb668 ≠ gb683) := ⟨h8_⟩
      have n9_ : Aside0 (gb683 ≠ gb668) := ⟨h9_⟩
      have n10_ : Aside0 (Below w.heap.size w w39) := ⟨h10_⟩
      clear BK667
      clear BK668
      clear HB
      clear h0_ h1_ h2_ h3_ h4_ h5_ h6_ h7_ h8_ h9_ h10_
      have HO673 := n0_
      have BK667 := n1_
      have BK668 := n2_
      have BK683 := n3_
      have GW683 := n4_
      have GE683 := n5_
      have NB667_683 := n6_
      have NB683_667 := n7_
      have NB668_683 := n8_
      have NB683_668 := n9_
      have HB := n10_
      clear n0_ n1_ n2_ n3_ n4_ n5_ n6_ n7_ n8_ n9_ n10_
      have hHeld : w39.cell? ⟨gb667, 0, none⟩ = some (.string a1_0) ∧ w39.cell? ⟨gb667, 1, none⟩ = some (.int .i64 a1_1) ∧ w39.cell? ⟨gb667, 2, none⟩ = some (.int .i64 a1_2) ∧ w39.cell? ⟨gb668, 0, none⟩ = some (.int .i64 a2_0) ∧ w39.cell? ⟨gb668, 1, none⟩ = some (.bool a2_1) := hS_
      refine norm_ (a' := ?_) ?_ ?_
      rotate_left
      · simp only [putAll, Act.put, List.setIfInBounds_toArray, List.set_cons_zero, List.set_cons_succ]
        rfl
      refine one_ (i := 11) (N := none) #[true, true, true, true, true, true, true, true, true, true, true, true, false] rfl rfl (one_of HT_.out (by kernel_rfl)) (by decide) (fun K hK => ?_)
      have hs40 : w39.cell? ⟨gb683, 0, none⟩ = some (.string (⟨#[]⟩ : ByteArray)) := (blk_cell BK683.out 0).trans rfl
      have hfs40 := blk_frozen BK683.out 0
      have hns40_0 := NB667_683.out
      have hns40_1 := NB668_683.out
      have hms40_0 := NB683_667.out
      have hms40_1 := NB683_668.out
      have hs41 : w39.cell? ⟨gb683, 1, none⟩ = some (.int .i64 0) := (blk_cell BK683.out 1).trans rfl
      have hfs41 := blk_frozen BK683.out 1
      have hns41_0 := NB667_683.out
      have hns41_1 := NB668_683.out
      have hms41_0 := NB683_667.out
      have hms41_1 := NB683_668.out
      have hs42 : w39.cell? ⟨gb683, 2, none⟩ = some (.int .i64 0) := (blk_cell BK683.out 2).trans rfl
      have hfs42 := blk_frozen BK683.out 2
      have hns42_0 := NB667_683.out
      have hns42_1 := NB668_683.out
      have hms42_0 := NB683_667.out
      have hms42_1 := NB683_668.out
      refine skip_ (w1 := ?_) (by rfl) rfl ?_ ?_
      rotate_left
      · go_simp
        rfl
      refine hK.out _ _ ⟨((cell_far (p := ⟨gb683, _, none⟩) NB667_683.out _).trans (((cell_far (p := ⟨gb683, _, none⟩) NB667_683.out _).trans (((cell_far (p := ⟨gb683, _, none⟩) NB667_683.out _).trans (hHeld.1)))))), ((cell_far (p := ⟨gb683, _, none⟩) NB667_683.out _).trans (((cell_far (p := ⟨gb683, _, none⟩) NB667_683.out _).trans (((cell_far (p := ⟨gb683, _, none⟩) NB667_683.out _).trans (hHeld.2.1)))))), ((cell_far (p := ⟨gb683, _, none⟩) NB667_683.out _).trans (((cell_far (p := ⟨gb683, _, none⟩) NB667_683.out _).trans (((cell_far (p := ⟨gb683, _, none⟩) NB667_683.out _).trans (hHeld.2.2.1)))))), ((cell_far (p := ⟨gb683, _, none⟩) NB668_683.out _).trans (((cell_far (p := ⟨gb683, _, none⟩) NB668_683.out _).trans (((cell_far (p := ⟨gb683, _, none⟩) NB668_683.out _).trans (hHeld.2.2.2.1)))))), ((cell_far (p := ⟨gb683, _, none⟩) NB668_683.out _).trans (((cell_far (p := ⟨gb683, _, none⟩) NB668_683.out _).trans (((cell_far (p := ⟨gb683, _, none⟩) NB668_683.out _).trans (hHeld.2.2.2.2))))))⟩ (fun hHeld => ?_)
      clear hK K
      refine pure_ (i := 12) (N := some 9) (v := ?_) (a' := ?_) #[true, true, true, true, true, true, true, true, true, true, true, true, true] rfl rfl (any_of HT_.out (by kernel_rfl)) (fun _ _ _ h => h) (Or.inl ⟨by rfl, ?_⟩) ?_ ?_
      rotate_left
      · intro w'
        go_simp
        with_reducible rfl
      rotate_left
      · simp only [Act.put, List.setIfInBounds_toArray, List.set_cons_zero, List.set_cons_succ, i64_w, i32_w]
        rfl
      refine done_ (done_of HT_.out (by kernel_rfl)) ?_
      try go_wp2_with (first | ((with_reducible refine gate_callee (f := 38) rfl ?_); refine goesL_ (some 34) rfl rfl Try.func38 (by kernel_rfl) rfl #[.slice A0 l0.length c0] rfl (by (try simp only [List.map_toArray, List.map_cons, List.map_nil]); first | done | rfl | (simp only [List.length_drop, List.length_take]; rfl)) ?_; (with_reducible refine (laws_toRecPhaseS.calls k _ _ l0 t684 _ ?side1 ?side2 A21.out).mono ?_); (case side1 => exact Kd.C_below HR0.out (by repeat (first | (with_reducible first | exact HB.out | apply below_alloc | apply pw_below_drewN | apply below_drew1 | refine below_set ?_ GE667.out | refine below_set ?_ GE668.out | refine below_set ?_ GE683.out) | exact HB.out))); (case side2 => exact HC0.out); rintro e w43 ⟨v685, rfl, ho0, hb⟩; refine ⟨_, rfl, ?_⟩; have n0_ := Aside0.mk (Kd.R_elder' (by (with_reducible repeat (first | apply Kd.R_alloc | apply Kd.R_drewN | apply Kd.R_drew)); exact (Kd.R_mono (Kd.R_far (p := ⟨gb683, 2, none⟩) (Kd.R_far (p := ⟨gb683, 1, none⟩) (Kd.R_far (p := ⟨gb683, 0, none⟩) (Kd.R_types HO673.out BK683.out (by decide)) (fun _ hk => hk.2) (.string t679)) (fun _ hk => hk.2) (.int .i64 t680)) (fun _ hk => hk.2) (.int .i64 t681)) (fun _ h_ => h_.1))) (Kd.R_base ho0) hb); have n1_ := Aside0.mk (Kd.R_lower (Kd.R_new' ho0 (Kd.R_lt (by (with_reducible repeat (first | apply Kd.R_alloc | apply Kd.R_drewN | apply Kd.R_drew)); exact (Kd.R_mono (Kd.R_far (p := ⟨gb683, 2, none⟩) (Kd.R_far (p := ⟨gb683, 1, none⟩) (Kd.R_far (p := ⟨gb683, 0, none⟩) (Kd.R_types HO673.out BK683.out (by decide)) (fun _ hk => hk.2) (.string t679)) (fun _ hk => hk.2) (.int .i64 t680)) (fun _ hk => hk.2) (.int .i64 t681)) (fun _ h_ => h_.1))))) (below_size (by repeat (first | (with_reducible first | exact HB.out | apply below_alloc | apply pw_below_drewN | apply below_drew1 | refine below_set ?_ GE667.out | refine below_set ?_ GE668.out | refine below_set ?_ GE683.out) | exact HB.out)))); have n2_ := Aside0.mk (blk_below (g := gb667) (o := .cells #[.string a1_0, .int .i64 a1_1, .int .i64 a1_2] 65 (0, 0)) (by (with_reducible repeat (first | refine blk_drewN ?_ _ | refine blk_drew ?_ | refine blk_alloc ?_ _)); refine blk_far ?_ NB667_683.out _; (with_reducible repeat (first | refine blk_drewN ?_ _ | refine blk_drew ?_ | refine blk_alloc ?_ _)); refine blk_far ?_ NB667_683.out _; (with_reducible repeat (first | refine blk_drewN ?_ _ | refine blk_drew ?_ | refine blk_alloc ?_ _)); refine blk_far ?_ NB667_683.out _; (with_reducible repeat (first | refine blk_drewN ?_ _ | refine blk_drew ?_ | refine blk_alloc ?_ _)); exact BK667.out) hb); have n3_ := Aside0.mk (blk_below (g := gb668) (o := .cells #[.int .i64 a2_0, .bool a2_1] 66 (0, 0)) (by (with_reducible repeat (first | refine blk_drewN ?_ _ | refine blk_drew ?_ | refine blk_alloc ?_ _)); refine blk_far ?_ NB668_683.out _; (with_reducible repeat (first | refine blk_drewN ?_ _ | refine blk_drew ?_ | refine blk_alloc ?_ _)); refine blk_far ?_ NB668_683.out _; (with_reducible repeat (first | refine blk_drewN ?_ _ | refine blk_drew ?_ | refine blk_alloc ?_ _)); refine blk_far ?_ NB668_683.out _; (with_reducible repeat (first | refine blk_drewN ?_ _ | refine blk_drew ?_ | refine blk_alloc ?_ _)); exact BK668.out) hb); have n4_ := Aside0.mk (blk_below (g := gb683) (o := .cells #[.string t679, .int .i64 t680, .int .i64 t681] 31 (0, 0)) (by (with_reducible repeat (first | refine blk_drewN ?_ _ | refine blk_drew ?_ | refine blk_alloc ?_ _)); refine blk_put (cs := #[.string t679, .int .i64 t680, .int .i64 0]) ?_ 2 _ rfl; (with_reducible repeat (first | refine blk_drewN ?_ _ | refine blk_drew ?_ | refine blk_alloc ?_ _)); refine blk_put (cs := #[.string t679, .int .i64 0, .int .i64 0]) ?_ 1 _ rfl; (with_reducible repeat (first | refine blk_drewN ?_ _ | refine blk_drew ?_ | refine blk_alloc ?_ _)); refine blk_put (cs := #[.string (⟨#[]⟩ : ByteArray), .int .i64 0, .int .i64 0]) ?_ 0 _ rfl; (with_reducible repeat (first | refine blk_drewN ?_ _ | refine blk_drew ?_ | refine blk_alloc ?_ _)); exact BK683.out) hb); have n5_ := Aside0.mk (below_step (by repeat (first | (with_reducible first | exact HB.out | apply below_alloc | apply pw_below_drewN | apply below_drew1 | refine below_set ?_ GE667.out | refine below_set ?_ GE668.out | refine below_set ?_ GE683.out) | exact HB.out)) hb); clear HO673; clear BK667; clear BK668; clear BK683; clear HB; have HO673 := n0_; have HO686 := n1_; have BK667 := n2_; have BK668 := n3_; have BK683 := n4_; have HB := n5_; clear n0_ n1_ n2_ n3_ n4_ n5_; (try clear hb); (try clear hb2); (try clear hk); (try clear hi); (try clear ho0); obtain ⟨Ao44, co44, eo44⟩ := Kd.R_slice HO686.out; subst eo44))
      have n0_ := Aside0.mk (Kd.R_drew HO673.out)
      have n1_ := Aside0.mk (Kd.R_drew HO686.out)
      have n2_ := Aside0.mk (blk_drew BK667.out)
      have n3_ := Aside0.mk (blk_drew BK668.out)
      have n4_ := Aside0.mk (blk_drew BK683.out)
      have n5_ := Aside0.mk (below_drew1 HB.out)
      clear HO673
      clear HO686
      clear BK667
      clear BK668
      clear BK683
      clear HB
      have HO673 := n0_
      have HO686 := n1_
      have BK667 := n2_
      have BK668 := n3_
      have BK683 := n4_
      have HB := n5_
      clear n0_ n1_ n2_ n3_ n4_ n5_
      refine start_ (n := 12) (S := fun w' => w'.cell? ⟨gb667, 0, none⟩ = some (.string a1_0) ∧ w'.cell? ⟨gb667, 1, none⟩ = some (.int .i64 a1_1) ∧ w'.cell? ⟨gb667, 2, none⟩ = some (.int .i64 a1_2) ∧ w'.cell? ⟨gb668, 0, none⟩ = some (.int .i64 a2_0) ∧ w'.cell? ⟨gb668, 1, none⟩ = some (.bool a2_1)) (ds := []) #[false, false, false, false, false, false, false, false, false, false, false, false] (by kernel_rfl) rfl rfl ⟨(blk_cell BK667.out 0).trans rfl, (blk_cell BK667.out 1).trans rfl, (blk_cell BK667.out 2).trans rfl, (blk_cell BK668.out 0).trans rfl, (blk_cell BK668.out 1).trans rfl⟩ (fun hHeld => ?_); refine with_tabW laws_FnExactRecGo.tab10 laws_FnExactRecGo.bits10 (fun HT_ HW_ => ?_)
      generalize w43.drew = w45 at HO673 HO686 BK667 BK668 BK683 HB hHeld ⊢
      refine pure_ (i := 0) (N := some 36) (v := ?_) (a' := ?_) #[true, false, false, false, false, false, false, false, false, false, false, false] rfl rfl (any_of HT_.out (by kernel_rfl)) (fun _ _ _ h => h) (Or.inl ⟨by rfl, ?_⟩) ?_ ?_
      rotate_left
      · intro w'
        go_simp
        with_reducible rfl
      rotate_left
      · simp only [Act.put, List.setIfInBounds_toArray, List.set_cons_zero, List.set_cons_succ, i64_w, i32_w]
        rfl
      refine take_ (i := 1) (N := some 37) (v := ?_) (a' := ?_) #[true, true, false, false, false, false, false, false, false, false, false, false] rfl rfl (take_ofW HT_.out HW_.out (by kernel_rfl)) (fun _ _ _ h => h) (Or.inl ⟨by rfl, ?_⟩) hHeld ?_ ?_
      rotate_left
      · rintro w' ⟨s0, s1, s2, s3, s4⟩
        go_simp
        with_reducible rfl
      rotate_left
      · simp only [Act.put, List.setIfInBounds_toArray, List.set_cons_zero, List.set_cons_succ, i64_w, i32_w]
        rfl
      refine take_ (i := 3) (N := some 39) (v := ?_) (a' := ?_) #[true, true, false, true, false, false, false, false, false, false, false, false] rfl rfl (take_ofW HT_.out HW_.out (by kernel_rfl)) (fun _ _ _ h => h) (Or.inl ⟨by rfl, ?_⟩) hHeld ?_ ?_
      rotate_left
      · rintro w' ⟨s0, s1, s2, s3, s4⟩
        go_simp
        with_reducible rfl
      rotate_left
      · simp only [Act.put, List.setIfInBounds_toArray, List.set_cons_zero, List.set_cons_succ, i64_w, i32_w]
        rfl
      refine join_ (σ := Nat) 2 #[true, true, true, true, true, true, true, true, true, true, false, false] (fun s_ => [(38, .agg #[.string t687, .int .i64 t688, .int .i64 t689]), (40, .agg #[.int .i64 t690, .bool t691]), (41, .tuple #[.agg #[.string t692, .int .i64 t693, .int .i64 t694], .bool t695]), (11, .pointer (some ⟨s_, 0, none⟩)), (35, .tuple #[.agg #[.string t692, .int .i64 t693, .int .i64 t694], .bool t695]), (42, .agg #[.string t692, .int .i64 t693, .int .i64 t694]), (43, .bool t695)]) (fun s_ w' => (w'.cell? ⟨gb667, 0, none⟩ = some (.string a1_0) ∧ w'.cell? ⟨gb667, 1, none⟩ = some (.int .i64 a1_1) ∧ w'.cell? ⟨gb667, 2, none⟩ = some (.int .i64 a1_2) ∧ w'.cell? ⟨gb668, 0, none⟩ = some (.int .i64 a2_0) ∧ w'.cell? ⟨gb668, 1, none⟩ = some (.bool a2_1)) ∧ (Kd.R k39 39 w' w.heap.size (fun k_ => some k_ ≠ (.slice Ao44 t684.length co44 : Value).ownBlock) v672 t671) ∧ (Kd.R k39 39 w' w.heap.size (fun k_ => some k_ ≠ (v672 : Value).ownBlock) (.slice Ao44 t684.length co44) t684) ∧ (w'.heap[gb667]? = some (.cells #[.string a1_0, .int .i64 a1_1, .int .i64 a1_2] 65 (0, 0))) ∧ (w'.heap[gb668]? = some (.cells #[.int .i64 a2_0, .bool a2_1] 66 (0, 0))) ∧ (w'.heap[gb683]? = some (.cells #[.string t679, .int .i64 t680, .int .i64 t681] 31 (0, 0))) ∧ (w'.heap[s_]? = some (.cells #[.string (⟨#[]⟩ : ByteArray), .int .i64 0, .int .i64 0] 31 (0, 0))) ∧ (w.heap.size ≤ s_) ∧ (w.heap.size ≤ s_) ∧ (gb667 ≠ s_) ∧ (s_ ≠ gb667) ∧ (gb668 ≠ s_) ∧ (s_ ≠ gb668) ∧ (gb683 ≠ s_) ∧ (s_ ≠ gb683) ∧ (Below w.heap.size w w')) ?_ ?_
      rotate_left
      · intro hCont
        refine two_ (i := 2) (j := 9) (Ni := some 38) (Nj := some 11) #[true, true, true, true, false, false, false, false, false, false, false, false] #[true, true, false, true, false, false, false, false, false, true, false, false] rfl rfl rfl rfl (two_of HT_.out (by kernel_rfl)) (by decide) (by decide) (fun K hK => ?_) (fun K hK => ?_)
        · skip
          refine goes_ Try.func48 (by kernel_rfl) rfl #[.agg #[.string a1_0, .int .i64 a1_1, .int .i64 a1_2]] (by rfl) rfl rfl (by (try simp only [List.map_toArray, List.map_cons, List.map_nil]); first | done | rfl | (simp only [List.length_drop, List.length_take]; rfl)) ?_
          with_reducible refine (laws_toRecState.calls a1_0 a1_1 a1_2 t687 t688 t689 _ A22.out).mono ?_
          rintro e w46 ⟨rfl, hb⟩
          refine ⟨_, rfl, ?_⟩
          have n0_ := Aside0.mk (Kd.R_below (by (with_reducible repeat (first | apply Kd.R_alloc | apply Kd.R_drewN | apply Kd.R_drew)); exact HO673.out) hb)
          have n1_ := Aside0.mk (Kd.R_below (by (with_reducible repeat (first | apply Kd.R_alloc | apply Kd.R_drewN | apply Kd.R_drew)); exact HO686.out) hb)
          have n2_ := Aside0.mk (blk_below (g := gb667) (o := .cells #[.string a1_0, .int .i64 a1_1, .int .i64 a1_2] 65 (0, 0)) (by (with_reducible repeat (first | refine blk_drewN ?_ _ | refine blk_drew ?_ | refine blk_alloc ?_ _)); exact BK667.out) hb)
          have n3_ := Aside0.mk (blk_below (g := gb668) (o := .cells #[.int .i64 a2_0, .bool a2_1] 66 (0, 0)) (by (with_reducible repeat (first | refine blk_drewN ?_ _ | refine blk_drew ?_ | refine blk_alloc ?_ _)); exact BK668.out) hb)
          have n4_ := Aside0.mk (blk_below (g := gb683) (o := .cells #[.string t679, .int .i64 t680, .int .i64 t681] 31 (0, 0)) (by (with_reducible repeat (first | refine blk_drewN ?_ _ | refine blk_drew ?_ | refine blk_alloc ?_ _)); exact BK683.out) hb)
          have n5_ := Aside0.mk (below_step (by repeat (first | (with_reducible first | exact HB.out | apply below_alloc | apply pw_below_drewN | apply below_drew1 | refine below_set ?_ GE667.out | refine below_set ?_ GE668.out | refine below_set ?_ GE683.out) | exact HB.out)) hb)
          clear HO673
          clear HO686
          clear BK667
          clear BK668
          clear BK683
          clear HB
          have HO673 := n0_
          have HO686 := n1_
          have BK667 := n2_
          have BK668 := n3_
          have BK683 := n4_
          have HB := n5_
          clear n0_ n1_ n2_ n3_ n4_ n5_
          (try clear hb)
          (try clear hb2)
          (try clear hk)
          (try clear hi)
          refine hK.out _ _ ⟨(blk_cell BK667.out 0).trans rfl, (blk_cell BK667.out 1).trans rfl, (blk_cell BK667.out 2).trans rfl, (blk_cell BK668.out 0).trans rfl, (blk_cell BK668.out 1).trans rfl⟩ (fun hHeld => ?_)
          clear hK K
          refine norm_ (a' := ?_) ?_ ?_
          rotate_left
          · show Act.put _ (some 38) _ = _
            simp only [Act.put, List.setIfInBounds_toArray, List.set_cons_zero, List.set_cons_succ, i64_w, i32_w]
            rfl
          refine two_ (i := 4) (j := 9) (Ni := some 40) (Nj := some 11) #[true, true, true, true, true, false, false, false, false, false, false, false] #[true, true, true, true, false, false, false, false, false, true, false, false] rfl rfl rfl rfl (two_of HT_.out (by kernel_rfl)) (by decide) (by decide) (fun K hK => ?_) (fun K hK => ?_)
          · skip
            refine goes_ Try.func49 (by kernel_rfl) rfl #[.agg #[.int .i64 a2_0, .bool a2_1]] (by rfl) rfl rfl (by (try simp only [List.map_toArray, List.map_cons, List.map_nil]); first | done | rfl | (simp only [List.length_drop, List.length_take]; rfl)) ?_
            with_reducible refine (laws_toRecSay.calls a2_0 a2_1 t690 t691 _ A23.out).mono ?_
            rintro e w47 ⟨rfl, hb⟩
            refine ⟨_, rfl, ?_⟩
            have n0_ := Aside0.mk (Kd.R_below (by (with_reducible repeat (first | apply Kd.R_alloc | apply Kd.R_drewN | apply Kd.R_drew)); exact HO673.out) hb)
            have n1_ := Aside0.mk (Kd.R_below (by (with_reducible repeat (first | apply Kd.R_alloc | apply Kd.R_drewN | apply Kd.R_drew)); exact HO686.out) hb)
            have n2_ := Aside0.mk (blk_below (g := gb667) (o := .cells #[.string a1_0, .int .i64 a1_1, .int .i64 a1_2] 65 (0, 0)) (by (with_reducible repeat (first | refine blk_drewN ?_ _ | refine blk_drew ?_ | refine blk_alloc ?_ _)); exact BK667.out) hb)
            have n3_ := Aside0.mk (blk_below (g := gb668) (o := .cells #[.int .i64 a2_0, .bool a2_1] 66 (0, 0)) (by (with_reducible repeat (first | refine blk_drewN ?_ _ | refine blk_drew ?_ | refine blk_alloc ?_ _)); exact BK668.out) hb)
            have n4_ := Aside0.mk (blk_below (g := gb683) (o := .cells #[.string t679, .int .i64 t680, .int .i64 t681] 31 (0, 0)) (by (with_reducible repeat (first | refine blk_drewN ?_ _ | refine blk_drew ?_ | refine blk_alloc ?_ _)); exact BK683.out) hb)
            have n5_ := Aside0.mk (below_step (by repeat (first | (with_reducible first | exact HB.out | apply below_alloc | apply pw_below_drewN | apply below_drew1 | refine below_set ?_ GE667.out | refine below_set ?_ GE668.out | refine below_set ?_ GE683.out) | exact HB.out)) hb)
            clear HO673
            clear HO686
            clear BK667
            clear BK668
            clear BK683
            clear HB
            have HO673 := n0_
            have HO686 := n1_
            have BK667 := n2_
            have BK668 := n3_
            have BK683 := n4_
            have HB := n5_
            clear n0_ n1_ n2_ n3_ n4_ n5_
            (try clear hb)
            (try clear hb2)
            (try clear hk)
            (try clear hi)
            refine hK.out _ _ ⟨(blk_cell BK667.out 0).trans rfl, (blk_cell BK667.out 1).trans rfl, (blk_cell BK667.out 2).trans rfl, (blk_cell BK668.out 0).trans rfl, (blk_cell BK668.out 1).trans rfl⟩ (fun hHeld => ?_)
            clear hK K
            refine norm_ (a' := ?_) ?_ ?_
            rotate_left
            · show Act.put _ (some 40) _ = _
              simp only [Act.put, List.setIfInBounds_toArray, List.set_cons_zero, List.set_cons_succ, i64_w, i32_w]
              rfl
            refine two_ (i := 5) (j := 9) (Ni := some 41) (Nj := some 11) #[true, true, true, true, true, true, false, false, false, false, false, false] #[true, true, true, true, true, false, false, false, false, true, false, false] rfl rfl rfl rfl (two_of HT_.out (by kernel_rfl)) (by decide) (by decide) (fun K hK => ?_) (fun K hK => ?_)
            · skip
              refine goes_ Try.func28 (by kernel_rfl) rfl #[.slice Ao44 t684.length co44, .agg #[.string t687, .int .i64 t688, .int .i64 t689], .agg #[.int .i64 t690, .bool t691]] (by rfl) rfl rfl (by (try simp only [List.map_toArray, List.map_cons, List.map_nil]); first | done | rfl | (simp only [List.length_drop, List.length_take]; rfl)) ?_
              with_reducible refine (impl_RecGo.calls k _ _ t684 t687 t688 t689 t690 t691 t692 t693 t694 t695 _ ?side1 ?side2 A24.out).mono ?_
              (case side1 => repeat (first | exact (Kd.R_reads' HO686.out).2.2 | (with_reducible refine Kd.C_alloc ?_ _) | (with_reducible refine Kd.C_drewN ?_ _) | (with_reducible refine Kd.C_drew ?_)))
              (case side2 => exact (Kd.R_reads' HO686.out).2.1)
              rintro e w48 ⟨rfl, hb⟩
              refine ⟨_, rfl, ?_⟩
              have n0_ := Aside0.mk (Kd.R_below (by (with_reducible repeat (first | apply Kd.R_alloc | apply Kd.R_drewN | apply Kd.R_drew)); exact HO673.out) hb)
              have n1_ := Aside0.mk (Kd.R_below (by (with_reducible repeat (first | apply Kd.R_alloc | apply Kd.R_drewN | apply Kd.R_drew)); exact HO686.out) hb)
              have n2_ := Aside0.mk (blk_below (g := gb667) (o := .cells #[.string a1_0, .int .i64 a1_1, .int .i64 a1_2] 65 (0, 0)) (by (with_reducible repeat (first | refine blk_drewN ?_ _ | refine blk_drew ?_ | refine blk_alloc ?_ _)); exact BK667.out) hb)
              have n3_ := Aside0.mk (blk_below (g := gb668) (o := .cells #[.int .i64 a2_0, .bool a2_1] 66 (0, 0)) (by (with_reducible repeat (first | refine blk_drewN ?_ _ | refine blk_drew ?_ | refine blk_alloc ?_ _)); exact BK668.out) hb)
              have n4_ := Aside0.mk (blk_below (g := gb683) (o := .cells #[.string t679, .int .i64 t680, .int .i64 t681] 31 (0, 0)) (by (with_reducible repeat (first | refine blk_drewN ?_ _ | refine blk_drew ?_ | refine blk_alloc ?_ _)); exact BK683.out) hb)
              have n5_ := Aside0.mk (below_step (by repeat (first | (with_reducible first | exact HB.out | apply below_alloc | apply pw_below_drewN | apply below_drew1 | refine below_set ?_ GE667.out | refine below_set ?_ GE668.out | refine below_set ?_ GE683.out) | exact HB.out)) hb)
              clear HO673
              clear HO686
              clear BK667
              clear BK668
              clear BK683
              clear HB
              have HO673 := n0_
              have HO686 := n1_
              have BK667 := n2_
              have BK668 := n3_
              have BK683 := n4_
              have HB := n5_
              clear n0_ n1_ n2_ n3_ n4_ n5_
              (try clear hb)
              (try clear hb2)
              (try clear hk)
              (try clear hi)
              refine hK.out _ _ ⟨(blk_cell BK667.out 0).trans rfl, (blk_cell BK667.out 1).trans rfl, (blk_cell BK667.out 2).trans rfl, (blk_cell BK668.out 0).trans rfl, (blk_cell BK668.out 1).trans rfl⟩ (fun hHeld => ?_)
              clear hK K
              refine norm_ (a' := ?_) ?_ ?_
              rotate_left
              · show Act.put _ (some 41) _ = _
                simp only [Act.put, List.setIfInBounds_toArray, List.set_cons_zero, List.set_cons_succ, i64_w, i32_w]
                rfl
              refine pure_ (i := 6) (N := some 35) (v := ?_) (a' := ?_) #[true, true, true, true, true, true, true, false, false, false, false, false] rfl rfl (any_of HT_.out (by kernel_rfl)) (fun _ _ _ h => h) (Or.inl ⟨by rfl, ?_⟩) ?_ ?_
              rotate_left
              · intro w'
                go_simp
                with_reducible rfl
              rotate_left
              · simp only [Act.put, List.setIfInBounds_toArray, List.set_cons_zero, List.set_cons_succ, i64_w, i32_w]
                rfl
              refine pure_ (i := 7) (N := some 42) (v := ?_) (a' := ?_) #[true, true, true, true, true, true, true, true, false, false, false, false] rfl rfl (any_of HT_.out (by kernel_rfl)) (fun _ _ _ h => h) (Or.inl ⟨by rfl, ?_⟩) ?_ ?_
              rotate_left
              · intro w'
                go_simp
                with_reducible rfl
              rotate_left
              · simp only [Act.put, List.setIfInBounds_toArray, List.set_cons_zero, List.set_cons_succ, i64_w, i32_w]
                rfl
              refine pure_ (i := 8) (N := some 43) (v := ?_) (a' := ?_) #[true, true, true, true, true, true, true, true, true, false, false, false] rfl rfl (any_of HT_.out (by kernel_rfl)) (fun _ _ _ h => h) (Or.inl ⟨by rfl, ?_⟩) ?_ ?_
              rotate_left
              · intro w'
                go_simp
                with_reducible rfl
              rotate_left
              · simp only [Act.put, List.setIfInBounds_toArray, List.set_cons_zero, List.set_cons_succ, i64_w, i32_w]
                rfl
              refine one_ (i := 9) (N := some 11) #[true, true, true, true, true, true, true, true, true, true, false, false] rfl rfl (one_of HT_.out (by kernel_rfl)) (by decide) (fun K hK => ?_)
              refine box_step ?hg (N := 11) ?hd (cs := #[.string (⟨#[]⟩ : ByteArray), .int .i64 0, .int .i64 0]) (t := 31) ?hr ?_; (case hd => rfl); (case hg => rfl); (case hr => first | (go_simp; done) | (go_simp; rfl))
              intro gb696 hg w49 hbox hb
              have n0_ := Aside0.mk (Kd.R_below (by (with_reducible repeat (first | apply Kd.R_alloc | apply Kd.R_drewN | apply Kd.R_drew)); exact HO673.out) hb)
              have n1_ := Aside0.mk (Kd.R_below (by (with_reducible repeat (first | apply Kd.R_alloc | apply Kd.R_drewN | apply Kd.R_drew)); exact HO686.out) hb)
              have n2_ := Aside0.mk (blk_below (g := gb667) (o := .cells #[.string a1_0, .int .i64 a1_1, .int .i64 a1_2] 65 (0, 0)) (by (with_reducible repeat (first | refine blk_drewN ?_ _ | refine blk_drew ?_ | refine blk_alloc ?_ _)); exact BK667.out) hb)
              have n3_ := Aside0.mk (blk_below (g := gb668) (o := .cells #[.int .i64 a2_0, .bool a2_1] 66 (0, 0)) (by (with_reducible repeat (first | refine blk_drewN ?_ _ | refine blk_drew ?_ | refine blk_alloc ?_ _)); exact BK668.out) hb)
              have n4_ := Aside0.mk (blk_below (g := gb683) (o := .cells #[.string t679, .int .i64 t680, .int .i64 t681] 31 (0, 0)) (by (with_reducible repeat (first | refine blk_drewN ?_ _ | refine blk_drew ?_ | refine blk_alloc ?_ _)); exact BK683.out) hb)
              have n5_ := Aside0.mk (below_step (by repeat (first | (with_reducible first | exact HB.out | apply below_alloc | apply pw_below_drewN | apply below_drew1 | refine below_set ?_ GE667.out | refine below_set ?_ GE668.out | refine below_set ?_ GE683.out) | exact HB.out)) hb)
              have n6_ := Aside0.mk (hbox)
              have n7_ := Aside0.mk ((by rw [hg]; exact (below_size (by repeat (first | (with_reducible first | exact HB.out | apply below_alloc | apply pw_below_drewN | apply below_drew1 | refine below_set ?_ GE667.out | refine below_set ?_ GE668.out | refine below_set ?_ GE683.out) | exact HB.out))) : w.heap.size ≤ gb696))
              have n8_ := Aside0.mk ((by rw [hg]; exact (below_size (by repeat (first | (with_reducible first | exact HB.out | apply below_alloc | apply pw_below_drewN | apply below_drew1 | refine below_set ?_ GE667.out | refine below_set ?_ GE668.out | refine below_set ?_ GE683.out) | exact HB.out))) : w.heap.size ≤ gb696))
              have n9_ := Aside0.mk ((by rw [hg]; exact Nat.ne_of_lt (blk_lt (g := gb667) (o := .cells #[.string a1_0, .int .i64 a1_1, .int .i64 a1_2] 65 (0, 0)) (by (with_reducible repeat (first | refine blk_drewN ?_ _ | refine blk_drew ?_ | refine blk_alloc ?_ _)); exact BK667.out)) : gb667 ≠ gb696))
              have n10_ := Aside0.mk ((by rw [hg]; exact Nat.ne_of_gt (blk_lt (g := gb667) (o := .cells #[.string a1_0, .int .i64 a1_1, .int .i64 a1_2] 65 (0, 0)) (by (with_reducible repeat (first | refine blk_drewN ?_ _ | refine blk_drew ?_ | refine blk_alloc ?_ _)); exact BK667.out)) : gb696 ≠ gb667))
              have n11_ := Aside0.mk ((by rw [hg]; exact Nat.ne_of_lt (blk_lt (g := gb668) (o := .cells #[.int .i64 a2_0, .bool a2_1] 66 (0, 0)) (by (with_reducible repeat (first | refine blk_drewN ?_ _ | refine blk_drew ?_ | refine blk_alloc ?_ _)); exact BK668.out)) : gb668 ≠ gb696))
              have n12_ := Aside0.mk ((by rw [hg]; exact Nat.ne_of_gt (blk_lt (g := gb668) (o := .cells #[.int .i64 a2_0, .bool a2_1] 66 (0, 0)) (by (with_reducible repeat (first | refine blk_drewN ?_ _ | refine blk_drew ?_ | refine blk_alloc ?_ _)); exact BK668.out)) : gb696 ≠ gb668))
              have n13_ := Aside0.mk ((by rw [hg]; exact Nat.ne_of_lt (blk_lt (g := gb683) (o := .cells #[.string t679, .int .i64 t680, .int .i64 t681] 31 (0, 0)) (by (with_reducible repeat (first | refine blk_drewN ?_ _ | refine blk_drew ?_ | refine blk_alloc ?_ _)); exact BK683.out)) : gb683 ≠ gb696))
              have n14_ := Aside0.mk ((by rw [hg]; exact Nat.ne_of_gt (blk_lt (g := gb683) (o := .cells #[.string t679, .int .i64 t680, .int .i64 t681] 31 (0, 0)) (by (with_reducible repeat (first | refine blk_drewN ?_ _ | refine blk_drew ?_ | refine blk_alloc ?_ _)); exact BK683.out)) : gb696 ≠ gb683))
              clear HO673
              clear HO686
              clear BK667
              clear BK668
              clear BK683
              clear HB
              have HO673 := n0_
              have HO686 := n1_
              have BK667 := n2_
              have BK668 := n3_
              have BK683 := n4_
              have HB := n5_
              have BK696 := n6_
              have GW696 := n7_
              have GE696 := n8_
              have NB667_696 := n9_
              have NB696_667 := n10_
              have NB668_696 := n11_
              have NB696_668 := n12_
              have NB683_696 := n13_
              have NB696_683 := n14_
              clear n0_ n1_ n2_ n3_ n4_ n5_ n6_ n7_ n8_ n9_ n10_ n11_ n12_ n13_ n14_
              clear hb hbox hg
              refine hK.out _ _ ⟨(blk_cell BK667.out 0).trans rfl, (blk_cell BK667.out 1).trans rfl, (blk_cell BK667.out 2).trans rfl, (blk_cell BK668.out 0).trans rfl, (blk_cell BK668.out 1).trans rfl⟩ (fun hHeld => ?_)
              clear hK K
              refine norm_ (a' := ?_) ?_ ?_
              rotate_left
              · show Act.put _ (some 11) _ = _
                simp only [Act.put, List.setIfInBounds_toArray, List.set_cons_zero, List.set_cons_succ, i64_w, i32_w]
                rfl
              exact norm_ (by simp only [putAll, Act.put, List.setIfInBounds_toArray, List.set_cons_zero, List.set_cons_succ]) (hCont (gb696) _ ⟨hHeld, (by (with_reducible repeat (first | apply Kd.R_alloc | apply Kd.R_drewN | apply Kd.R_drew)); exact Kd.R_mono HO673.out (fun _ hk => hk.2)), (by (with_reducible repeat (first | apply Kd.R_alloc | apply Kd.R_drewN | apply Kd.R_drew)); exact Kd.R_mono HO686.out (fun _ hk => hk.2)), (by (with_reducible repeat (first | refine blk_drewN ?_ _ | refine blk_drew ?_ | refine blk_alloc ?_ _)); exact BK667.out), (by (with_reducible repeat (first | refine blk_drewN ?_ _ | refine blk_drew ?_ | refine blk_alloc ?_ _)); exact BK668.out), (by (with_reducible repeat (first | refine blk_drewN ?_ _ | refine blk_drew ?_ | refine blk_alloc ?_ _)); exact BK683.out), (by (with_reducible repeat (first | refine blk_drewN ?_ _ | refine blk_drew ?_ | refine blk_alloc ?_ _)); exact BK696.out), GW696.out, GE696.out, NB667_696.out, NB696_667.out, NB668_696.out, NB696_668.out, NB683_696.out, NB696_683.out, (by repeat (first | (with_reducible first | exact HB.out | apply below_alloc | apply pw_below_drewN | apply below_drew1 | refine below_set ?_ GE667.out | refine below_set ?_ GE668.out | refine below_set ?_ GE683.out | refine below_set ?_ GE696.out) | exact HB.out))⟩)
            · skip
              refine box_step ?hg (N := 11) ?hd (cs := #[.string (⟨#[]⟩ : ByteArray), .int .i64 0, .int .i64 0]) (t := 31) ?hr ?_; (case hd => rfl); (case hg => rfl); (case hr => first | (go_simp; done) | (go_simp; rfl))
              intro gb696 hg w48 hbox hb
              have n0_ := Aside0.mk (Kd.R_below (by (with_reducible repeat (first | apply Kd.R_alloc | apply Kd.R_drewN | apply Kd.R_drew)); exact HO673.out) hb)
              have n1_ := Aside0.mk (Kd.R_below (by (with_reducible repeat (first | apply Kd.R_alloc | apply Kd.R_drewN | apply Kd.R_drew)); exact HO686.out) hb)
              have n2_ := Aside0.mk (blk_below (g := gb667) (o := .cells #[.string a1_0, .int .i64 a1_1, .int .i64 a1_2] 65 (0, 0)) (by (with_reducible repeat (first | refine blk_drewN ?_ _ | refine blk_drew ?_ | refine blk_alloc ?_ _)); exact BK667.out) hb)
              have n3_ := Aside0.mk (blk_below (g := gb668) (o := .cells #[.int .i64 a2_0, .bool a2_1] 66 (0, 0)) (by (with_reducible repeat (first | refine blk_drewN ?_ _ | refine blk_drew ?_ | refine blk_alloc ?_ _)); exact BK668.out) hb)
              have n4_ := Aside0.mk (blk_below (g := gb683) (o := .cells #[.string t679, .int .i64 t680, .int .i64 t681] 31 (0, 0)) (by (with_reducible repeat (first | refine blk_drewN ?_ _ | refine blk_drew ?_ | refine blk_alloc ?_ _)); exact BK683.out) hb)
              have n5_ := Aside0.mk (below_step (by repeat (first | (with_reducible first | exact HB.out | apply below_alloc | apply pw_below_drewN | apply below_drew1 | refine below_set ?_ GE667.out | refine below_set ?_ GE668.out | refine below_set ?_ GE683.out) | exact HB.out)) hb)
              have n6_ := Aside0.mk (hbox)
              have n7_ := Aside0.mk ((by rw [hg]; exact (below_size (by repeat (first | (with_reducible first | exact HB.out | apply below_alloc | apply pw_below_drewN | apply below_drew1 | refine below_set ?_ GE667.out | refine below_set ?_ GE668.out | refine below_set ?_ GE683.out) | exact HB.out))) : w.heap.size ≤ gb696))
              have n8_ := Aside0.mk ((by rw [hg]; exact (below_size (by repeat (first | (with_reducible first | exact HB.out | apply below_alloc | apply pw_below_drewN | apply below_drew1 | refine below_set ?_ GE667.out | refine below_set ?_ GE668.out | refine below_set ?_ GE683.out) | exact HB.out))) : w.heap.size ≤ gb696))
              have n9_ := Aside0.mk ((by rw [hg]; exact Nat.ne_of_lt (blk_lt (g := gb667) (o := .cells #[.string a1_0, .int .i64 a1_1, .int .i64 a1_2] 65 (0, 0)) (by (with_reducible repeat (first | refine blk_drewN ?_ _ | refine blk_drew ?_ | refine blk_alloc ?_ _)); exact BK667.out)) : gb667 ≠ gb696))
              have n10_ := Aside0.mk ((by rw [hg]; exact Nat.ne_of_gt (blk_lt (g := gb667) (o := .cells #[.string a1_0, .int .i64 a1_1, .int .i64 a1_2] 65 (0, 0)) (by (with_reducible repeat (first | refine blk_drewN ?_ _ | refine blk_drew ?_ | refine blk_alloc ?_ _)); exact BK667.out)) : gb696 ≠ gb667))
              have n11_ := Aside0.mk ((by rw [hg]; exact Nat.ne_of_lt (blk_lt (g := gb668) (o := .cells #[.int .i64 a2_0, .bool a2_1] 66 (0, 0)) (by (with_reducible repeat (first | refine blk_drewN ?_ _ | refine blk_drew ?_ | refine blk_alloc ?_ _)); exact BK668.out)) : gb668 ≠ gb696))
              have n12_ := Aside0.mk ((by rw [hg]; exact Nat.ne_of_gt (blk_lt (g := gb668) (o := .cells #[.int .i64 a2_0, .bool a2_1] 66 (0, 0)) (by (with_reducible repeat (first | refine blk_drewN ?_ _ | refine blk_drew ?_ | refine blk_alloc ?_ _)); exact BK668.out)) : gb696 ≠ gb668))
              have n13_ := Aside0.mk ((by rw [hg]; exact Nat.ne_of_lt (blk_lt (g := gb683) (o := .cells #[.string t679, .int .i64 t680, .int .i64 t681] 31 (0, 0)) (by (with_reducible repeat (first | refine blk_drewN ?_ _ | refine blk_drew ?_ | refine blk_alloc ?_ _)); exact BK683.out)) : gb683 ≠ gb696))
              have n14_ := Aside0.mk ((by rw [hg]; exact Nat.ne_of_gt (blk_lt (g := gb683) (o := .cells #[.string t679, .int .i64 t680, .int .i64 t681] 31 (0, 0)) (by (with_reducible repeat (first | refine blk_drewN ?_ _ | refine blk_drew ?_ | refine blk_alloc ?_ _)); exact BK683.out)) : gb696 ≠ gb683))
              clear HO673
              clear HO686
              clear BK667
              clear BK668
              clear BK683
              clear HB
              have HO673 := n0_
              have HO686 := n1_
              have BK667 := n2_
              have BK668 := n3_
              have BK683 := n4_
              have HB := n5_
              have BK696 := n6_
              have GW696 := n7_
              have GE696 := n8_
              have NB667_696 := n9_
              have NB696_667 := n10_
              have NB668_696 := n11_
              have NB696_668 := n12_
              have NB683_696 := n13_
              have NB696_683 := n14_
              clear n0_ n1_ n2_ n3_ n4_ n5_ n6_ n7_ n8_ n9_ n10_ n11_ n12_ n13_ n14_
              clear hb hbox hg
              refine hK.out _ _ ⟨(blk_cell BK667.out 0).trans rfl, (blk_cell BK667.out 1).trans rfl, (blk_cell BK667.out 2).trans rfl, (blk_cell BK668.out 0).trans rfl, (blk_cell BK668.out 1).trans rfl⟩ (fun hHeld => ?_)
              clear hK K
              refine norm_ (a' := ?_) ?_ ?_
              rotate_left
              · show Act.put _ (some 11) _ = _
                simp only [Act.put, List.setIfInBounds_toArray, List.set_cons_zero, List.set_cons_succ, i64_w, i32_w]
                rfl
              refine one_ (i := 5) (N := some 41) #[true, true, true, true, true, true, false, false, false, true, false, false] rfl rfl (one_of HT_.out (by kernel_rfl)) (by decide) (fun K hK => ?_)
              refine goes_ Try.func28 (by kernel_rfl) rfl #[.slice Ao44 t684.length co44, .agg #[.string t687, .int .i64 t688, .int .i64 t689], .agg #[.int .i64 t690, .bool t691]] (by rfl) rfl rfl (by (try simp only [List.map_toArray, List.map_cons, List.map_nil]); first | done | rfl | (simp only [List.length_drop, List.length_take]; rfl)) ?_
              with_reducible refine (impl_RecGo.calls k _ _ t684 t687 t688 t689 t690 t691 t692 t693 t694 t695 _ ?side1 ?side2 A24.out).mono ?_
              (case side1 => repeat (first | exact (Kd.R_reads' HO686.out).2.2 | (with_reducible refine Kd.C_alloc ?_ _) | (with_reducible refine Kd.C_drewN ?_ _) | (with_reducible refine Kd.C_drew ?_)))
              (case side2 => exact (Kd.R_reads' HO686.out).2.1)
              rintro e w49 ⟨rfl, hb⟩
              refine ⟨_, rfl, ?_⟩
              have n0_ := Aside0.mk (Kd.R_below (by (with_reducible repeat (first | apply Kd.R_alloc | apply Kd.R_drewN | apply Kd.R_drew)); exact HO673.out) hb)
              have n1_ := Aside0.mk (Kd.R_below (by (with_reducible repeat (first | apply Kd.R_alloc | apply Kd.R_drewN | apply Kd.R_drew)); exact HO686.out) hb)
              have n2_ := Aside0.mk (blk_below (g := gb667) (o := .cells #[.string a1_0, .int .i64 a1_1, .int .i64 a1_2] 65 (0, 0)) (by (with_reducible repeat (first | refine blk_drewN ?_ _ | refine blk_drew ?_ | refine blk_alloc ?_ _)); exact BK667.out) hb)
              have n3_ := Aside0.mk (blk_below (g := gb668) (o := .cells #[.int .i64 a2_0, .bool a2_1] 66 (0, 0)) (by (with_reducible repeat (first | refine blk_drewN ?_ _ | refine blk_drew ?_ | refine blk_alloc ?_ _)); exact BK668.out) hb)
              have n4_ := Aside0.mk (blk_below (g := gb683) (o := .cells #[.string t679, .int .i64 t680, .int .i64 t681] 31 (0, 0)) (by (with_reducible repeat (first | refine blk_drewN ?_ _ | refine blk_drew ?_ | refine blk_alloc ?_ _)); exact BK683.out) hb)
              have n5_ := Aside0.mk (blk_below (g := gb696) (o := .cells #[.string (⟨#[]⟩ : ByteArray), .int .i64 0, .int .i64 0] 31 (0, 0)) (by (with_reducible repeat (first | refine blk_drewN ?_ _ | refine blk_drew ?_ | refine blk_alloc ?_ _)); exact BK696.out) hb)
              have n6_ := Aside0.mk (below_step (by repeat (first | (with_reducible first | exact HB.out | apply below_alloc | apply pw_below_drewN | apply below_drew1 | refine below_set ?_ GE667.out | refine below_set ?_ GE668.out | refine below_set ?_ GE683.out | refine below_set ?_ GE696.out) | exact HB.out)) hb)
              clear HO673
              clear HO686
              clear BK667
              clear BK668
              clear BK683
              clear BK696
              clear HB
              have HO673 := n0_
              have HO686 := n1_
              have BK667 := n2_
              have BK668 := n3_
              have BK683 := n4_
              have BK696 := n5_
              have HB := n6_
              clear n0_ n1_ n2_ n3_ n4_ n5_ n6_
              (try clear hb)
              (try clear hb2)
              (try clear hk)
              (try clear hi)
              refine hK.out _ _ ⟨(blk_cell BK667.out 0).trans rfl, (blk_cell BK667.out 1).trans rfl, (blk_cell BK667.out 2).trans rfl, (blk_cell BK668.out 0).trans rfl, (blk_cell BK668.out 1).trans rfl⟩ (fun hHeld => ?_)
              clear hK K
              refine norm_ (a' := ?_) ?_ ?_
              rotate_left
              · show Act.put _ (some 41) _ = _
                simp only [Act.put, List.setIfInBounds_toArray, List.set_cons_zero, List.set_cons_succ, i64_w, i32_w]
                rfl
              refine pure_ (i := 6) (N := some 35) (v := ?_) (a' := ?_) #[true, true, true, true, true, true, true, false, false, true, false, false] rfl rfl (any_of HT_.out (by kernel_rfl)) (fun _ _ _ h => h) (Or.inl ⟨by rfl, ?_⟩) ?_ ?_
              rotate_left
              · intro w'
                go_simp
                with_reducible rfl
              rotate_left
              · simp only [Act.put, List.setIfInBounds_toArray, List.set_cons_zero, List.set_cons_succ, i64_w, i32_w]
                rfl
              refine pure_ (i := 7) (N := some 42) (v := ?_) (a' := ?_) #[true, true, true, true, true, true, true, true, false, true, false, false] rfl rfl (any_of HT_.out (by kernel_rfl)) (fun _ _ _ h => h) (Or.inl ⟨by rfl, ?_⟩) ?_ ?_
              rotate_left
              · intro w'
                go_simp
                with_reducible rfl
              rotate_left
              · simp only [Act.put, List.setIfInBounds_toArray, List.set_cons_zero, List.set_cons_succ, i64_w, i32_w]
                rfl
              refine pure_ (i := 8) (N := some 43) (v := ?_) (a' := ?_) #[true, true, true, true, true, true, true, true, true, true, false, false] rfl rfl (any_of HT_.out (by kernel_rfl)) (fun _ _ _ h => h) (Or.inl ⟨by rfl, ?_⟩) ?_ ?_
              rotate_left
              · intro w'
                go_simp
                with_reducible rfl
              rotate_left
              · simp only [Act.put, List.setIfInBounds_toArray, List.set_cons_zero, List.set_cons_succ, i64_w, i32_w]
                rfl
              exact norm_ (by simp only [putAll, Act.put, List.setIfInBounds_toArray, List.set_cons_zero, List.set_cons_succ]) (hCont (gb696) _ ⟨hHeld, (by (with_reducible repeat (first | apply Kd.R_alloc | apply Kd.R_drewN | apply Kd.R_drew)); exact Kd.R_mono HO673.out (fun _ hk => hk.2)), (by (with_reducible repeat (first | apply Kd.R_alloc | apply Kd.R_drewN | apply Kd.R_drew)); exact Kd.R_mono HO686.out (fun _ hk => hk.2)), (by (with_reducible repeat (first | refine blk_drewN ?_ _ | refine blk_drew ?_ | refine blk_alloc ?_ _)); exact BK667.out), (by (with_reducible repeat (first | refine blk_drewN ?_ _ | refine blk_drew ?_ | refine blk_alloc ?_ _)); exact BK668.out), (by (with_reducible repeat (first | refine blk_drewN ?_ _ | refine blk_drew ?_ | refine blk_alloc ?_ _)); exact BK683.out), (by (with_reducible repeat (first | refine blk_drewN ?_ _ | refine blk_drew ?_ | refine blk_alloc ?_ _)); exact BK696.out), GW696.out, GE696.out, NB667_696.out, NB696_667.out, NB668_696.out, NB696_668.out, NB683_696.out, NB696_683.out, (by repeat (first | (with_reducible first | exact HB.out | apply below_alloc | apply pw_below_drewN | apply below_drew1 | refine below_set ?_ GE667.out | refine below_set ?_ GE668.out | refine below_set ?_ GE683.out | refine below_set ?_ GE696.out) | exact HB.out))⟩)
          · skip
            refine box_step ?hg (N := 11) ?hd (cs := #[.string (⟨#[]⟩ : ByteArray), .int .i64 0, .int .i64 0]) (t := 31) ?hr ?_; (case hd => rfl); (case hg => rfl); (case hr => first | (go_simp; done) | (go_simp; rfl))
            intro gb696 hg w47 hbox hb
            have n0_ := Aside0.mk (Kd.R_below (by (with_reducible repeat (first | apply Kd.R_alloc | apply Kd.R_drewN | apply Kd.R_drew)); exact HO673.out) hb)
            have n1_ := Aside0.mk (Kd.R_below (by (with_reducible repeat (first | apply Kd.R_alloc | apply Kd.R_drewN | apply Kd.R_drew)); exact HO686.out) hb)
            have n2_ := Aside0.mk (blk_below (g := gb667) (o := .cells #[.string a1_0, .int .i64 a1_1, .int .i64 a1_2] 65 (0, 0)) (by (with_reducible repeat (first | refine blk_drewN ?_ _ | refine blk_drew ?_ | refine blk_alloc ?_ _)); exact BK667.out) hb)
            have n3_ := Aside0.mk (blk_below (g := gb668) (o := .cells #[.int .i64 a2_0, .bool a2_1] 66 (0, 0)) (by (with_reducible repeat (first | refine blk_drewN ?_ _ | refine blk_drew ?_ | refine blk_alloc ?_ _)); exact BK668.out) hb)
            have n4_ := Aside0.mk (blk_below (g := gb683) (o := .cells #[.string t679, .int .i64 t680, .int .i64 t681] 31 (0, 0)) (by (with_reducible repeat (first | refine blk_drewN ?_ _ | refine blk_drew ?_ | refine blk_alloc ?_ _)); exact BK683.out) hb)
            have n5_ := Aside0.mk (below_step (by repeat (first | (with_reducible first | exact HB.out | apply below_alloc | apply pw_below_drewN | apply below_drew1 | refine below_set ?_ GE667.out | refine below_set ?_ GE668.out | refine below_set ?_ GE683.out) | exact HB.out)) hb)
            have n6_ := Aside0.mk (hbox)
            have n7_ := Aside0.mk ((by rw [hg]; exact (below_size (by repeat (first | (with_reducible first | exact HB.out | apply below_alloc | apply pw_below_drewN | apply below_drew1 | refine below_set ?_ GE667.out | refine below_set ?_ GE668.out | refine below_set ?_ GE683.out) | exact HB.out))) : w.heap.size ≤ gb696))
            have n8_ := Aside0.mk ((by rw [hg]; exact (below_size (by repeat (first | (with_reducible first | exact HB.out | apply below_alloc | apply pw_below_drewN | apply below_drew1 | refine below_set ?_ GE667.out | refine below_set ?_ GE668.out | refine below_set ?_ GE683.out) | exact HB.out))) : w.heap.size ≤ gb696))
            have n9_ := Aside0.mk ((by rw [hg]; exact Nat.ne_of_lt (blk_lt (g := gb667) (o := .cells #[.string a1_0, .int .i64 a1_1, .int .i64 a1_2] 65 (0, 0)) (by (with_reducible repeat (first | refine blk_drewN ?_ _ | refine blk_drew ?_ | refine blk_alloc ?_ _)); exact BK667.out)) : gb667 ≠ gb696))
            have n10_ := Aside0.mk ((by rw [hg]; exact Nat.ne_of_gt (blk_lt (g := gb667) (o := .cells #[.string a1_0, .int .i64 a1_1, .int .i64 a1_2] 65 (0, 0)) (by (with_reducible repeat (first | refine blk_drewN ?_ _ | refine blk_drew ?_ | refine blk_alloc ?_ _)); exact BK667.out)) : gb696 ≠ gb667))
            have n11_ := Aside0.mk ((by rw [hg]; exact Nat.ne_of_lt (blk_lt (g := gb668) (o := .cells #[.int .i64 a2_0, .bool a2_1] 66 (0, 0)) (by (with_reducible repeat (first | refine blk_drewN ?_ _ | refine blk_drew ?_ | refine blk_alloc ?_ _)); exact BK668.out)) : gb668 ≠ gb696))
            have n12_ := Aside0.mk ((by rw [hg]; exact Nat.ne_of_gt (blk_lt (g := gb668) (o := .cells #[.int .i64 a2_0, .bool a2_1] 66 (0, 0)) (by (with_reducible repeat (first | refine blk_drewN ?_ _ | refine blk_drew ?_ | refine blk_alloc ?_ _)); exact BK668.out)) : gb696 ≠ gb668))
            have n13_ := Aside0.mk ((by rw [hg]; exact Nat.ne_of_lt (blk_lt (g := gb683) (o := .cells #[.string t679, .int .i64 t680, .int .i64 t681] 31 (0, 0)) (by (with_reducible repeat (first | refine blk_drewN ?_ _ | refine blk_drew ?_ | refine blk_alloc ?_ _)); exact BK683.out)) : gb683 ≠ gb696))
            have n14_ := Aside0.mk ((by rw [hg]; exact Nat.ne_of_gt (blk_lt (g := gb683) (o := .cells #[.string t679, .int .i64 t680, .int .i64 t681] 31 (0, 0)) (by (with_reducible repeat (first | refine blk_drewN ?_ _ | refine blk_drew ?_ | refine blk_alloc ?_ _)); exact BK683.out)) : gb696 ≠ gb683))
            clear HO673
            clear HO686
            clear BK667
            clear BK668
            clear BK683
            clear HB
            have HO673 := n0_
            have HO686 := n1_
            have BK667 := n2_
            have BK668 := n3_
            have BK683 := n4_
            have HB := n5_
            have BK696 := n6_
            have GW696 := n7_
            have GE696 := n8_
            have NB667_696 := n9_
            have NB696_667 := n10_
            have NB668_696 := n11_
            have NB696_668 := n12_
            have NB683_696 := n13_
            have NB696_683 := n14_
            clear n0_ n1_ n2_ n3_ n4_ n5_ n6_ n7_ n8_ n9_ n10_ n11_ n12_ n13_ n14_
            clear hb hbox hg
            refine hK.out _ _ ⟨(blk_cell BK667.out 0).trans rfl, (blk_cell BK667.out 1).trans rfl, (blk_cell BK667.out 2).trans rfl, (blk_cell BK668.out 0).trans rfl, (blk_cell BK668.out 1).trans rfl⟩ (fun hHeld => ?_)
            clear hK K
            refine norm_ (a' := ?_) ?_ ?_
            rotate_left
            · show Act.put _ (some 11) _ = _
              simp only [Act.put, List.setIfInBounds_toArray, List.set_cons_zero, List.set_cons_succ, i64_w, i32_w]
              rfl
            refine one_ (i := 4) (N := some 40) #[true, true, true, true, true, false, false, false, false, true, false, false] rfl rfl (one_of HT_.out (by kernel_rfl)) (by decide) (fun K hK => ?_)
            refine goes_ Try.func49 (by kernel_rfl) rfl #[.agg #[.int .i64 a2_0, .bool a2_1]] (by rfl) rfl rfl (by (try simp only [List.map_toArray, List.map_cons, List.map_nil]); first | done | rfl | (simp only [List.length_drop, List.length_take]; rfl)) ?_
            with_reducible refine (laws_toRecSay.calls a2_0 a2_1 t690 t691 _ A23.out).mono ?_
            rintro e w48 ⟨rfl, hb⟩
            refine ⟨_, rfl, ?_⟩
            have n0_ := Aside0.mk (Kd.R_below (by (with_reducible repeat (first | apply Kd.R_alloc | apply Kd.R_drewN | apply Kd.R_drew)); exact HO673.out) hb)
            have n1_ := Aside0.mk (Kd.R_below (by (with_reducible repeat (first | apply Kd.R_alloc | apply Kd.R_drewN | apply Kd.R_drew)); exact HO686.out) hb)
            have n2_ := Aside0.mk (blk_below (g := gb667) (o := .cells #[.string a1_0, .int .i64 a1_1, .int .i64 a1_2] 65 (0, 0)) (by (with_reducible repeat (first | refine blk_drewN ?_ _ | refine blk_drew ?_ | refine blk_alloc ?_ _)); exact BK667.out) hb)
            have n3_ := Aside0.mk (blk_below (g := gb668) (o := .cells #[.int .i64 a2_0, .bool a2_1] 66 (0, 0)) (by (with_reducible repeat (first | refine blk_drewN ?_ _ | refine blk_drew ?_ | refine blk_alloc ?_ _)); exact BK668.out) hb)
            have n4_ := Aside0.mk (blk_below (g := gb683) (o := .cells #[.string t679, .int .i64 t680, .int .i64 t681] 31 (0, 0)) (by (with_reducible repeat (first | refine blk_drewN ?_ _ | refine blk_drew ?_ | refine blk_alloc ?_ _)); exact BK683.out) hb)
            have n5_ := Aside0.mk (blk_below (g := gb696) (o := .cells #[.string (⟨#[]⟩ : ByteArray), .int .i64 0, .int .i64 0] 31 (0, 0)) (by (with_reducible repeat (first | refine blk_drewN ?_ _ | refine blk_drew ?_ | refine blk_alloc ?_ _)); exact BK696.out) hb)
            have n6_ := Aside0.mk (below_step (by repeat (first | (with_reducible first | exact HB.out | apply below_alloc | apply pw_below_drewN | apply below_drew1 | refine below_set ?_ GE667.out | refine below_set ?_ GE668.out | refine below_set ?_ GE683.out | refine below_set ?_ GE696.out) | exact HB.out)) hb)
            clear HO673
            clear HO686
            clear BK667
            clear BK668
            clear BK683
            clear BK696
            clear HB
            have HO673 := n0_
            have HO686 := n1_
            have BK667 := n2_
            have BK668 := n3_
            have BK683 := n4_
            have BK696 := n5_
            have HB := n6_
            clear n0_ n1_ n2_ n3_ n4_ n5_ n6_
            (try clear hb)
            (try clear hb2)
            (try clear hk)
            (try clear hi)
            refine hK.out _ _ ⟨(blk_cell BK667.out 0).trans rfl, (blk_cell BK667.out 1).trans rfl, (blk_cell BK667.out 2).trans rfl, (blk_cell BK668.out 0).trans rfl, (blk_cell BK668.out 1).trans rfl⟩ (fun hHeld => ?_)
            clear hK K
            refine norm_ (a' := ?_) ?_ ?_
            rotate_left
            · show Act.put _ (some 40) _ = _
              simp only [Act.put, List.setIfInBounds_toArray, List.set_cons_zero, List.set_cons_succ, i64_w, i32_w]
              rfl
            refine one_ (i := 5) (N := some 41) #[true, true, true, true, true, true, false, false, false, true, false, false] rfl rfl (one_of HT_.out (by kernel_rfl)) (by decide) (fun K hK => ?_)
            refine goes_ Try.func28 (by kernel_rfl) rfl #[.slice Ao44 t684.length co44, .agg #[.string t687, .int .i64 t688, .int .i64 t689], .agg #[.int .i64 t690, .bool t691]] (by rfl) rfl rfl (by (try simp only [List.map_toArray, List.map_cons, List.map_nil]); first | done | rfl | (simp only [List.length_drop, List.length_take]; rfl)) ?_
            with_reducible refine (impl_RecGo.calls k _ _ t684 t687 t688 t689 t690 t691 t692 t693 t694 t695 _ ?side1 ?side2 A24.out).mono ?_
            (case side1 => repeat (first | exact (Kd.R_reads' HO686.out).2.2 | (with_reducible refine Kd.C_alloc ?_ _) | (with_reducible refine Kd.C_drewN ?_ _) | (with_reducible refine Kd.C_drew ?_)))
            (case side2 => exact (Kd.R_reads' HO686.out).2.1)
            rintro e w49 ⟨rfl, hb⟩
            refine ⟨_, rfl, ?_⟩
            have n0_ := Aside0.mk (Kd.R_below (by (with_reducible repeat (first | apply Kd.R_alloc | apply Kd.R_drewN | apply Kd.R_drew)); exact HO673.out) hb)
            have n1_ := Aside0.mk (Kd.R_below (by (with_reducible repeat (first | apply Kd.R_alloc | apply Kd.R_drewN | apply Kd.R_drew)); exact HO686.out) hb)
            have n2_ := Aside0.mk (blk_below (g := gb667) (o := .cells #[.string a1_0, .int .i64 a1_1, .int .i64 a1_2] 65 (0, 0)) (by (with_reducible repeat (first | refine blk_drewN ?_ _ | refine blk_drew ?_ | refine blk_alloc ?_ _)); exact BK667.out) hb)
            have n3_ := Aside0.mk (blk_below (g := gb668) (o := .cells #[.int .i64 a2_0, .bool a2_1] 66 (0, 0)) (by (with_reducible repeat (first | refine blk_drewN ?_ _ | refine blk_drew ?_ | refine blk_alloc ?_ _)); exact BK668.out) hb)
            have n4_ := Aside0.mk (blk_below (g := gb683) (o := .cells #[.string t679, .int .i64 t680, .int .i64 t681] 31 (0, 0)) (by (with_reducible repeat (first | refine blk_drewN ?_ _ | refine blk_drew ?_ | refine blk_alloc ?_ _)); exact BK683.out) hb)
            have n5_ := Aside0.mk (blk_below (g := gb696) (o := .cells #[.string (⟨#[]⟩ : ByteArray), .int .i64 0, .int .i64 0] 31 (0, 0)) (by (with_reducible repeat (first | refine blk_drewN ?_ _ | refine blk_drew ?_ | refine blk_alloc ?_ _)); exact BK696.out) hb)
            have n6_ := Aside0.mk (below_step (by repeat (first | (with_reducible first | exact HB.out | apply below_alloc | apply pw_below_drewN | apply below_drew1 | refine below_set ?_ GE667.out | refine below_set ?_ GE668.out | refine below_set ?_ GE683.out | refine below_set ?_ GE696.out) | exact HB.out)) hb)
            clear HO673
            clear HO686
            clear BK667
            clear BK668
            clear BK683
            clear BK696
            clear HB
            have HO673 := n0_
            have HO686 := n1_
            have BK667 := n2_
            have BK668 := n3_
            have BK683 := n4_
            have BK696 := n5_
            have HB := n6_
            clear n0_ n1_ n2_ n3_ n4_ n5_ n6_
            (try clear hb)
            (try clear hb2)
            (try clear hk)
            (try clear hi)
            refine hK.out _ _ ⟨(blk_cell BK667.out 0).trans rfl, (blk_cell BK667.out 1).trans rfl, (blk_cell BK667.out 2).trans rfl, (blk_cell BK668.out 0).trans rfl, (blk_cell BK668.out 1).trans rfl⟩ (fun hHeld => ?_)
            clear hK K
            refine norm_ (a' := ?_) ?_ ?_
            rotate_left
            · show Act.put _ (some 41) _ = _
              simp only [Act.put, List.setIfInBounds_toArray, List.set_cons_zero, List.set_cons_succ, i64_w, i32_w]
              rfl
            refine pure_ (i := 6) (N := some 35) (v := ?_) (a' := ?_) #[true, true, true, true, true, true, true, false, false, true, false, false] rfl rfl (any_of HT_.out (by kernel_rfl)) (fun _ _ _ h => h) (Or.inl ⟨by rfl, ?_⟩) ?_ ?_
            rotate_left
            · intro w'
              go_simp
              with_reducible rfl
            rotate_left
            · simp only [Act.put, List.setIfInBounds_toArray, List.set_cons_zero, List.set_cons_succ, i64_w, i32_w]
              rfl
            refine pure_ (i := 7) (N := some 42) (v := ?_) (a' := ?_) #[true, true, true, true, true, true, true, true, false, true, false, false] rfl rfl (any_of HT_.out (by kernel_rfl)) (fun _ _ _ h => h) (Or.inl ⟨by rfl, ?_⟩) ?_ ?_
            rotate_left
            · intro w'
              go_simp
              with_reducible rfl
            rotate_left
            · simp only [Act.put, List.setIfInBounds_toArray, List.set_cons_zero, List.set_cons_succ, i64_w, i32_w]
              rfl
            refine pure_ (i := 8) (N := some 43) (v := ?_) (a' := ?_) #[true, true, true, true, true, true, true, true, true, true, false, false] rfl rfl (any_of HT_.out (by kernel_rfl)) (fun _ _ _ h => h) (Or.inl ⟨by rfl, ?_⟩) ?_ ?_
            rotate_left
            · intro w'
              go_simp
              with_reducible rfl
            rotate_left
            · simp only [Act.put, List.setIfInBounds_toArray, List.set_cons_zero, List.set_cons_succ, i64_w, i32_w]
              rfl
            exact norm_ (by simp only [putAll, Act.put, List.setIfInBounds_toArray, List.set_cons_zero, List.set_cons_succ]) (hCont (gb696) _ ⟨hHeld, (by (with_reducible repeat (first | apply Kd.R_alloc | apply Kd.R_drewN | apply Kd.R_drew)); exact Kd.R_mono HO673.out (fun _ hk => hk.2)), (by (with_reducible repeat (first | apply Kd.R_alloc | apply Kd.R_drewN | apply Kd.R_drew)); exact Kd.R_mono HO686.out (fun _ hk => hk.2)), (by (with_reducible repeat (first | refine blk_drewN ?_ _ | refine blk_drew ?_ | refine blk_alloc ?_ _)); exact BK667.out), (by (with_reducible repeat (first | refine blk_drewN ?_ _ | refine blk_drew ?_ | refine blk_alloc ?_ _)); exact BK668.out), (by (with_reducible repeat (first | refine blk_drewN ?_ _ | refine blk_drew ?_ | refine blk_alloc ?_ _)); exact BK683.out), (by (with_reducible repeat (first | refine blk_drewN ?_ _ | refine blk_drew ?_ | refine blk_alloc ?_ _)); exact BK696.out), GW696.out, GE696.out, NB667_696.out, NB696_667.out, NB668_696.out, NB696_668.out, NB683_696.out, NB696_683.out, (by repeat (first | (with_reducible first | exact HB.out | apply below_alloc | apply pw_below_drewN | apply below_drew1 | refine below_set ?_ GE667.out | refine below_set ?_ GE668.out | refine below_set ?_ GE683.out | refine below_set ?_ GE696.out) | exact HB.out))⟩)
        · skip
          refine box_step ?hg (N := 11) ?hd (cs := #[.string (⟨#[]⟩ : ByteArray), .int .i64 0, .int .i64 0]) (t := 31) ?hr ?_; (case hd => rfl); (case hg => rfl); (case hr => first | (go_simp; done) | (go_simp; rfl))
          intro gb696 hg w46 hbox hb
          have n0_ := Aside0.mk (Kd.R_below (by (with_reducible repeat (first | apply Kd.R_alloc | apply Kd.R_drewN | apply Kd.R_drew)); exact HO673.out) hb)
          have n1_ := Aside0.mk (Kd.R_below (by (with_reducible repeat (first | apply Kd.R_alloc | apply Kd.R_drewN | apply Kd.R_drew)); exact HO686.out) hb)
          have n2_ := Aside0.mk (blk_below (g := gb667) (o := .cells #[.string a1_0, .int .i64 a1_1, .int .i64 a1_2] 65 (0, 0)) (by (with_reducible repeat (first | refine blk_drewN ?_ _ | refine blk_drew ?_ | refine blk_alloc ?_ _)); exact BK667.out) hb)
          have n3_ := Aside0.mk (blk_below (g := gb668) (o := .cells #[.int .i64 a2_0, .bool a2_1] 66 (0, 0)) (by (with_reducible repeat (first | refine blk_drewN ?_ _ | refine blk_drew ?_ | refine blk_alloc ?_ _)); exact BK668.out) hb)
          have n4_ := Aside0.mk (blk_below (g := gb683) (o := .cells #[.string t679, .int .i64 t680, .int .i64 t681] 31 (0, 0)) (by (with_reducible repeat (first | refine blk_drewN ?_ _ | refine blk_drew ?_ | refine blk_alloc ?_ _)); exact BK683.out) hb)
          have n5_ := Aside0.mk (below_step (by repeat (first | (with_reducible first | exact HB.out | apply below_alloc | apply pw_below_drewN | apply below_drew1 | refine below_set ?_ GE667.out | refine below_set ?_ GE668.out | refine below_set ?_ GE683.out) | exact HB.out)) hb)
          have n6_ := Aside0.mk (hbox)
          have n7_ := Aside0.mk ((by rw [hg]; exact (below_size (by repeat (first | (with_reducible first | exact HB.out | apply below_alloc | apply pw_below_drewN | apply below_drew1 | refine below_set ?_ GE667.out | refine below_set ?_ GE668.out | refine below_set ?_ GE683.out) | exact HB.out))) : w.heap.size ≤ gb696))
          have n8_ := Aside0.mk ((by rw [hg]; exact (below_size (by repeat (first | (with_reducible first | exact HB.out | apply below_alloc | apply pw_below_drewN | apply below_drew1 | refine below_set ?_ GE667.out | refine below_set ?_ GE668.out | refine below_set ?_ GE683.out) | exact HB.out))) : w.heap.size ≤ gb696))
          have n9_ := Aside0.mk ((by rw [hg]; exact Nat.ne_of_lt (blk_lt (g := gb667) (o := .cells #[.string a1_0, .int .i64 a1_1, .int .i64 a1_2] 65 (0, 0)) (by (with_reducible repeat (first | refine blk_drewN ?_ _ | refine blk_drew ?_ | refine blk_alloc ?_ _)); exact BK667.out)) : gb667 ≠ gb696))
          have n10_ := Aside0.mk ((by rw [hg]; exact Nat.ne_of_gt (blk_lt (g := gb667) (o := .cells #[.string a1_0, .int .i64 a1_1, .int .i64 a1_2] 65 (0, 0)) (by (with_reducible repeat (first | refine blk_drewN ?_ _ | refine blk_drew ?_ | refine blk_alloc ?_ _)); exact BK667.out)) : gb696 ≠ gb667))
          have n11_ := Aside0.mk ((by rw [hg]; exact Nat.ne_of_lt (blk_lt (g := gb668) (o := .cells #[.int .i64 a2_0, .bool a2_1] 66 (0, 0)) (by (with_reducible repeat (first | refine blk_drewN ?_ _ | refine blk_drew ?_ | refine blk_alloc ?_ _)); exact BK668.out)) : gb668 ≠ gb696))
          have n12_ := Aside0.mk ((by rw [hg]; exact Nat.ne_of_gt (blk_lt (g := gb668) (o := .cells #[.int .i64 a2_0, .bool a2_1] 66 (0, 0)) (by (with_reducible repeat (first | refine blk_drewN ?_ _ | refine blk_drew ?_ | refine blk_alloc ?_ _)); exact BK668.out)) : gb696 ≠ gb668))
          have n13_ := Aside0.mk ((by rw [hg]; exact Nat.ne_of_lt (blk_lt (g := gb683) (o := .cells #[.string t679, .int .i64 t680, .int .i64 t681] 31 (0, 0)) (by (with_reducible repeat (first | refine blk_drewN ?_ _ | refine blk_drew ?_ | refine blk_alloc ?_ _)); exact BK683.out)) : gb683 ≠ gb696))
          have n14_ := Aside0.mk ((by rw [hg]; exact Nat.ne_of_gt (blk_lt (g := gb683) (o := .cells #[.string t679, .int .i64 t680, .int .i64 t681] 31 (0, 0)) (by (with_reducible repeat (first | refine blk_drewN ?_ _ | refine blk_drew ?_ | refine blk_alloc ?_ _)); exact BK683.out)) : gb696 ≠ gb683))
          clear HO673
          clear HO686
          clear BK667
          clear BK668
          clear BK683
          clear HB
          have HO673 := n0_
          have HO686 := n1_
          have BK667 := n2_
          have BK668 := n3_
          have BK683 := n4_
          have HB := n5_
          have BK696 := n6_
          have GW696 := n7_
          have GE696 := n8_
          have NB667_696 := n9_
          have NB696_667 := n10_
          have NB668_696 := n11_
          have NB696_668 := n12_
          have NB683_696 := n13_
          have NB696_683 := n14_
          clear n0_ n1_ n2_ n3_ n4_ n5_ n6_ n7_ n8_ n9_ n10_ n11_ n12_ n13_ n14_
          clear hb hbox hg
          refine hK.out _ _ ⟨(blk_cell BK667.out 0).trans rfl, (blk_cell BK667.out 1).trans rfl, (blk_cell BK667.out 2).trans rfl, (blk_cell BK668.out 0).trans rfl, (blk_cell BK668.out 1).trans rfl⟩ (fun hHeld => ?_)
          clear hK K
          refine norm_ (a' := ?_) ?_ ?_
          rotate_left
          · show Act.put _ (some 11) _ = _
            simp only [Act.put, List.setIfInBounds_toArray, List.set_cons_zero, List.set_cons_succ, i64_w, i32_w]
            rfl
          refine one_ (i := 2) (N := some 38) #[true, true, true, true, false, false, false, false, false, true, false, false] rfl rfl (one_of HT_.out (by kernel_rfl)) (by decide) (fun K hK => ?_)
          refine goes_ Try.func48 (by kernel_rfl) rfl #[.agg #[.string a1_0, .int .i64 a1_1, .int .i64 a1_2]] (by rfl) rfl rfl (by (try simp only [List.map_toArray, List.map_cons, List.map_nil]); first | done | rfl | (simp only [List.length_drop, List.length_take]; rfl)) ?_
          with_reducible refine (laws_toRecState.calls a1_0 a1_1 a1_2 t687 t688 t689 _ A22.out).mono ?_
          rintro e w47 ⟨rfl, hb⟩
          refine ⟨_, rfl, ?_⟩
          have n0_ := Aside0.mk (Kd.R_below (by (with_reducible repeat (first | apply Kd.R_alloc | apply Kd.R_drewN | apply Kd.R_drew)); exact HO673.out) hb)
          have n1_ := Aside0.mk (Kd.R_below (by (with_reducible repeat (first | apply Kd.R_alloc | apply Kd.R_drewN | apply Kd.R_drew)); exact HO686.out) hb)
          have n2_ := Aside0.mk (blk_below (g := gb667) (o := .cells #[.string a1_0, .int .i64 a1_1, .int .i64 a1_2] 65 (0, 0)) (by (with_reducible repeat (first | refine blk_drewN ?_ _ | refine blk_drew ?_ | refine blk_alloc ?_ _)); exact BK667.out) hb)
          have n3_ := Aside0.mk (blk_below (g := gb668) (o := .cells #[.int .i64 a2_0, .bool a2_1] 66 (0, 0)) (by (with_reducible repeat (first | refine blk_drewN ?_ _ | refine blk_drew ?_ | refine blk_alloc ?_ _)); exact BK668.out) hb)
          have n4_ := Aside0.mk (blk_below (g := gb683) (o := .cells #[.string t679, .int .i64 t680, .int .i64 t681] 31 (0, 0)) (by (with_reducible repeat (first | refine blk_drewN ?_ _ | refine blk_drew ?_ | refine blk_alloc ?_ _)); exact BK683.out) hb)
          have n5_ := Aside0.mk (blk_below (g := gb696) (o := .cells #[.string (⟨#[]⟩ : ByteArray), .int .i64 0, .int .i64 0] 31 (0, 0)) (by (with_reducible repeat (first | refine blk_drewN ?_ _ | refine blk_drew ?_ | refine blk_alloc ?_ _)); exact BK696.out) hb)
          have n6_ := Aside0.mk (below_step (by repeat (first | (with_reducible first | exact HB.out | apply below_alloc | apply pw_below_drewN | apply below_drew1 | refine below_set ?_ GE667.out | refine below_set ?_ GE668.out | refine below_set ?_ GE683.out | refine below_set ?_ GE696.out) | exact HB.out)) hb)
          clear HO673
          clear HO686
          clear BK667
          clear BK668
          clear BK683
          clear BK696
          clear HB
          have HO673 := n0_
          have HO686 := n1_
          have BK667 := n2_
          have BK668 := n3_
          have BK683 := n4_
          have BK696 := n5_
          have HB := n6_
          clear n0_ n1_ n2_ n3_ n4_ n5_ n6_
          (try clear hb)
          (try clear hb2)
          (try clear hk)
          (try clear hi)
          refine hK.out _ _ ⟨(blk_cell BK667.out 0).trans rfl, (blk_cell BK667.out 1).trans rfl, (blk_cell BK667.out 2).trans rfl, (blk_cell BK668.out 0).trans rfl, (blk_cell BK668.out 1).trans rfl⟩ (fun hHeld => ?_)
          clear hK K
          refine norm_ (a' := ?_) ?_ ?_
          rotate_left
          · show Act.put _ (some 38) _ = _
            simp only [Act.put, List.setIfInBounds_toArray, List.set_cons_zero, List.set_cons_succ, i64_w, i32_w]
            rfl
          refine one_ (i := 4) (N := some 40) #[true, true, true, true, true, false, false, false, false, true, false, false] rfl rfl (one_of HT_.out (by kernel_rfl)) (by decide) (fun K hK => ?_)
          refine goes_ Try.func49 (by kernel_rfl) rfl #[.agg #[.int .i64 a2_0, .bool a2_1]] (by rfl) rfl rfl (by (try simp only [List.map_toArray, List.map_cons, List.map_nil]); first | done | rfl | (simp only [List.length_drop, List.length_take]; rfl)) ?_
          with_reducible refine (laws_toRecSay.calls a2_0 a2_1 t690 t691 _ A23.out).mono ?_
          rintro e w48 ⟨rfl, hb⟩
          refine ⟨_, rfl, ?_⟩
          have n0_ := Aside0.mk (Kd.R_below (by (with_reducible repeat (first | apply Kd.R_alloc | apply Kd.R_drewN | apply Kd.R_drew)); exact HO673.out) hb)
          have n1_ := Aside0.mk (Kd.R_below (by (with_reducible repeat (first | apply Kd.R_alloc | apply Kd.R_drewN | apply Kd.R_drew)); exact HO686.out) hb)
          have n2_ := Aside0.mk (blk_below (g := gb667) (o := .cells #[.string a1_0, .int .i64 a1_1, .int .i64 a1_2] 65 (0, 0)) (by (with_reducible repeat (first | refine blk_drewN ?_ _ | refine blk_drew ?_ | refine blk_alloc ?_ _)); exact BK667.out) hb)
          have n3_ := Aside0.mk (blk_below (g := gb668) (o := .cells #[.int .i64 a2_0, .bool a2_1] 66 (0, 0)) (by (with_reducible repeat (first | refine blk_drewN ?_ _ | refine blk_drew ?_ | refine blk_alloc ?_ _)); exact BK668.out) hb)
          have n4_ := Aside0.mk (blk_below (g := gb683) (o := .cells #[.string t679, .int .i64 t680, .int .i64 t681] 31 (0, 0)) (by (with_reducible repeat (first | refine blk_drewN ?_ _ | refine blk_drew ?_ | refine blk_alloc ?_ _)); exact BK683.out) hb)
          have n5_ := Aside0.mk (blk_below (g := gb696) (o := .cells #[.string (⟨#[]⟩ : ByteArray), .int .i64 0, .int .i64 0] 31 (0, 0)) (by (with_reducible repeat (first | refine blk_drewN ?_ _ | refine blk_drew ?_ | refine blk_alloc ?_ _)); exact BK696.out) hb)
          have n6_ := Aside0.mk (below_step (by repeat (first | (with_reducible first | exact HB.out | apply below_alloc | apply pw_below_drewN | apply below_drew1 | refine below_set ?_ GE667.out | refine below_set ?_ GE668.out | refine below_set ?_ GE683.out | refine below_set ?_ GE696.out) | exact HB.out)) hb)
          clear HO673
          clear HO686
          clear BK667
          clear BK668
          clear BK683
          clear BK696
          clear HB
          have HO673 := n0_
          have HO686 := n1_
          have BK667 := n2_
          have BK668 := n3_
          have BK683 := n4_
          have BK696 := n5_
          have HB := n6_
          clear n0_ n1_ n2_ n3_ n4_ n5_ n6_
          (try clear hb)
          (try clear hb2)
          (try clear hk)
          (try clear hi)
          refine hK.out _ _ ⟨(blk_cell BK667.out 0).trans rfl, (blk_cell BK667.out 1).trans rfl, (blk_cell BK667.out 2).trans rfl, (blk_cell BK668.out 0).trans rfl, (blk_cell BK668.out 1).trans rfl⟩ (fun hHeld => ?_)
          clear hK K
          refine norm_ (a' := ?_) ?_ ?_
          rotate_left
          · show Act.put _ (some 40) _ = _
            simp only [Act.put, List.setIfInBounds_toArray, List.set_cons_zero, List.set_cons_succ, i64_w, i32_w]
            rfl
          refine one_ (i := 5) (N := some 41) #[true, true, true, true, true, true, false, false, false, true, false, false] rfl rfl (one_of HT_.out (by kernel_rfl)) (by decide) (fun K hK => ?_)
          refine goes_ Try.func28 (by kernel_rfl) rfl #[.slice Ao44 t684.length co44, .agg #[.string t687, .int .i64 t688, .int .i64 t689], .agg #[.int .i64 t690, .bool t691]] (by rfl) rfl rfl (by (try simp only [List.map_toArray, List.map_cons, List.map_nil]); first | done | rfl | (simp only [List.length_drop, List.length_take]; rfl)) ?_
          with_reducible refine (impl_RecGo.calls k _ _ t684 t687 t688 t689 t690 t691 t692 t693 t694 t695 _ ?side1 ?side2 A24.out).mono ?_
          (case side1 => repeat (first | exact (Kd.R_reads' HO686.out).2.2 | (with_reducible refine Kd.C_alloc ?_ _) | (with_reducible refine Kd.C_drewN ?_ _) | (with_reducible refine Kd.C_drew ?_)))
          (case side2 => exact (Kd.R_reads' HO686.out).2.1)
          rintro e w49 ⟨rfl, hb⟩
          refine ⟨_, rfl, ?_⟩
          have n0_ := Aside0.mk (Kd.R_below (by (with_reducible repeat (first | apply Kd.R_alloc | apply Kd.R_drewN | apply Kd.R_drew)); exact HO673.out) hb)
          have n1_ := Aside0.mk (Kd.R_below (by (with_reducible repeat (first | apply Kd.R_alloc | apply Kd.R_drewN | apply Kd.R_drew)); exact HO686.out) hb)
          have n2_ := Aside0.mk (blk_below (g := gb667) (o := .cells #[.string a1_0, .int .i64 a1_1, .int .i64 a1_2] 65 (0, 0)) (by (with_reducible repeat (first | refine blk_drewN ?_ _ | refine blk_drew ?_ | refine blk_alloc ?_ _)); exact BK667.out) hb)
          have n3_ := Aside0.mk (blk_below (g := gb668) (o := .cells #[.int .i64 a2_0, .bool a2_1] 66 (0, 0)) (by (with_reducible repeat (first | refine blk_drewN ?_ _ | refine blk_drew ?_ | refine blk_alloc ?_ _)); exact BK668.out) hb)
          have n4_ := Aside0.mk (blk_below (g := gb683) (o := .cells #[.string t679, .int .i64 t680, .int .i64 t681] 31 (0, 0)) (by (with_reducible repeat (first | refine blk_drewN ?_ _ | refine blk_drew ?_ | refine blk_alloc ?_ _)); exact BK683.out) hb)
          have n5_ := Aside0.mk (blk_below (g := gb696) (o := .cells #[.string (⟨#[]⟩ : ByteArray), .int .i64 0, .int .i64 0] 31 (0, 0)) (by (with_reducible repeat (first | refine blk_drewN ?_ _ | refine blk_drew ?_ | refine blk_alloc ?_ _)); exact BK696.out) hb)
          have n6_ := Aside0.mk (below_step (by repeat (first | (with_reducible first | exact HB.out | apply below_alloc | apply pw_below_drewN | apply below_drew1 | refine below_set ?_ GE667.out | refine below_set ?_ GE668.out | refine below_set ?_ GE683.out | refine below_set ?_ GE696.out) | exact HB.out)) hb)
          clear HO673
          clear HO686
          clear BK667
          clear BK668
          clear BK683
          clear BK696
          clear HB
          have HO673 := n0_
          have HO686 := n1_
          have BK667 := n2_
          have BK668 := n3_
          have BK683 := n4_
          have BK696 := n5_
          have HB := n6_
          clear n0_ n1_ n2_ n3_ n4_ n5_ n6_
          (try clear hb)
          (try clear hb2)
          (try clear hk)
          (try clear hi)
          refine hK.out _ _ ⟨(blk_cell BK667.out 0).trans rfl, (blk_cell BK667.out 1).trans rfl, (blk_cell BK667.out 2).trans rfl, (blk_cell BK668.out 0).trans rfl, (blk_cell BK668.out 1).trans rfl⟩ (fun hHeld => ?_)
          clear hK K
          refine norm_ (a' := ?_) ?_ ?_
          rotate_left
          · show Act.put _ (some 41) _ = _
            simp only [Act.put, List.setIfInBounds_toArray, List.set_cons_zero, List.set_cons_succ, i64_w, i32_w]
            rfl
          refine pure_ (i := 6) (N := some 35) (v := ?_) (a' := ?_) #[true, true, true, true, true, true, true, false, false, true, false, false] rfl rfl (any_of HT_.out (by kernel_rfl)) (fun _ _ _ h => h) (Or.inl ⟨by rfl, ?_⟩) ?_ ?_
          rotate_left
          · intro w'
            go_simp
            with_reducible rfl
          rotate_left
          · simp only [Act.put, List.setIfInBounds_toArray, List.set_cons_zero, List.set_cons_succ, i64_w, i32_w]
            rfl
          refine pure_ (i := 7) (N := some 42) (v := ?_) (a' := ?_) #[true, true, true, true, true, true, true, true, false, true, false, false] rfl rfl (any_of HT_.out (by kernel_rfl)) (fun _ _ _ h => h) (Or.inl ⟨by rfl, ?_⟩) ?_ ?_
          rotate_left
          · intro w'
            go_simp
            with_reducible rfl
          rotate_left
          · simp only [Act.put, List.setIfInBounds_toArray, List.set_cons_zero, List.set_cons_succ, i64_w, i32_w]
            rfl
          refine pure_ (i := 8) (N := some 43) (v := ?_) (a' := ?_) #[true, true, true, true, true, true, true, true, true, true, false, false] rfl rfl (any_of HT_.out (by kernel_rfl)) (fun _ _ _ h => h) (Or.inl ⟨by rfl, ?_⟩) ?_ ?_
          rotate_left
          · intro w'
            go_simp
            with_reducible rfl
          rotate_left
          · simp only [Act.put, List.setIfInBounds_toArray, List.set_cons_zero, List.set_cons_succ, i64_w, i32_w]
            rfl
          exact norm_ (by simp only [putAll, Act.put, List.setIfInBounds_toArray, List.set_cons_zero, List.set_cons_succ]) (hCont (gb696) _ ⟨hHeld, (by (with_reducible repeat (first | apply Kd.R_alloc | apply Kd.R_drewN | apply Kd.R_drew)); exact Kd.R_mono HO673.out (fun _ hk => hk.2)), (by (with_reducible repeat (first | apply Kd.R_alloc | apply Kd.R_drewN | apply Kd.R_drew)); exact Kd.R_mono HO686.out (fun _ hk => hk.2)), (by (with_reducible repeat (first | refine blk_drewN ?_ _ | refine blk_drew ?_ | refine blk_alloc ?_ _)); exact BK667.out), (by (with_reducible repeat (first | refine blk_drewN ?_ _ | refine blk_drew ?_ | refine blk_alloc ?_ _)); exact BK668.out), (by (with_reducible repeat (first | refine blk_drewN ?_ _ | refine blk_drew ?_ | refine blk_alloc ?_ _)); exact BK683.out), (by (with_reducible repeat (first | refine blk_drewN ?_ _ | refine blk_drew ?_ | refine blk_alloc ?_ _)); exact BK696.out), GW696.out, GE696.out, NB667_696.out, NB696_667.out, NB668_696.out, NB696_668.out, NB683_696.out, NB696_683.out, (by repeat (first | (with_reducible first | exact HB.out | apply below_alloc | apply pw_below_drewN | apply below_drew1 | refine below_set ?_ GE667.out | refine below_set ?_ GE668.out | refine below_set ?_ GE683.out | refine below_set ?_ GE696.out) | exact HB.out))⟩)
      rintro gb696 w50 ⟨hS_, h0_, h1_, h2_, h3_, h4_, h5_, h6_, h7_, h8_, h9_, h10_, h11_, h12_, h13_, h14_⟩
      have n0_ : Aside0 (Kd.R k39 39 w50 w.heap.size (fun k_ => some k_ ≠ (.slice Ao44 t684.length co44 : Value).ownBlock) v672 t671) := ⟨h0_⟩
      have n1_ : Aside0 (Kd.R k39 39 w50 w.heap.size (fun k_ => some k_ ≠ (v672 : Value).ownBlock) (.slice Ao44 t684.length co44) t684) := ⟨h1_⟩
      have n2_ : Aside0 (w50.heap[gb667]? = some (.cells #[.string a1_0, .int .i64 a1_1, .int .i64 a1_2] 65 (0, 0))) := ⟨h2_⟩
      have n3_ : Aside0 (w50.heap[gb668]? = some (.cells #[.int .i64 a2_0, .bool a2_1] 66 (0, 0))) := ⟨h3_⟩
      have n4_ : Aside0 (w50.heap[gb683]? = some (.cells #[.string t679, .int .i64 t680, .int .i64 t681] 31 (0, 0))) := ⟨h4_⟩
      have n5_ : Aside0 (w50.heap[gb696]? = some (.cells #[.string (⟨#[]⟩ : ByteArray), .int .i64 0, .int .i64 0] 31 (0, 0))) := ⟨h5_⟩
      have n6_ : Aside0 (w.heap.size ≤ gb696) := ⟨h6_⟩
      have n7_ : Aside0 (w.heap.size ≤ gb696) := ⟨h7_⟩
      have n8_ : Aside0 (gb667 ≠ gb696) := ⟨h8_⟩
      have n9_ : Aside0 (gb696 ≠ gb667) := ⟨h9_⟩
      have n10_ : Aside0 (gb668 ≠ gb696) := ⟨h10_⟩
      have n11_ : Aside0 (gb696 ≠ gb668) := ⟨h11_⟩
      have n12_ : Aside0 (gb683 ≠ gb696) := ⟨h12_⟩
      have n13_ : Aside0 (gb696 ≠ gb683) := ⟨h13_⟩
      have n14_ : Aside0 (Below w.heap.size w w50) := ⟨h14_⟩
      clear HO673
      clear HO686
      clear BK667
      clear BK668
      clear BK683
      clear HB
      clear h0_ h1_ h2_ h3_ h4_ h5_ h6_ h7_ h8_ h9_ h10_ h11_ h12_ h13_ h14_
      have HO673 := n0_
      have HO686 := n1_
      have BK667 := n2_
      have BK668 := n3_
      have BK683 := n4_
      have BK696 := n5_
      have GW696 := n6_
      have GE696 := n7_
      have NB667_696 := n8_
      have NB696_667 := n9_
      have NB668_696 := n10_
      have NB696_668 := n11_
      have NB683_696 := n12_
      have NB696_683 := n13_
      have HB := n14_
      clear n0_ n1_ n2_ n3_ n4_ n5_ n6_ n7_ n8_ n9_ n10_ n11_ n12_ n13_ n14_
      have hHeld : w50.cell? ⟨gb667, 0, none⟩ = some (.string a1_0) ∧ w50.cell? ⟨gb667, 1, none⟩ = some (.int .i64 a1_1) ∧ w50.cell? ⟨gb667, 2, none⟩ = some (.int .i64 a1_2) ∧ w50.cell? ⟨gb668, 0, none⟩ = some (.int .i64 a2_0) ∧ w50.cell? ⟨gb668, 1, none⟩ = some (.bool a2_1) := hS_
      refine norm_ (a' := ?_) ?_ ?_
      rotate_left
      · simp only [putAll, Act.put, List.setIfInBounds_toArray, List.set_cons_zero, List.set_cons_succ]
        rfl
      refine one_ (i := 10) (N := none) #[true, true, true, true, true, true, true, true, true, true, true, false] rfl rfl (one_of HT_.out (by kernel_rfl)) (by decide) (fun K hK => ?_)
      have hs51 : w50.cell? ⟨gb696, 0, none⟩ = some (.string (⟨#[]⟩ : ByteArray)) := (blk_cell BK696.out 0).trans rfl
      have hfs51 := blk_frozen BK696.out 0
      have hns51_0 := NB667_696.out
      have hns51_1 := NB668_696.out
      have hns51_2 := NB683_696.out
      have hms51_0 := NB696_667.out
      have hms51_1 := NB696_668.out
      have hms51_2 := NB696_683.out
      have hs52 : w50.cell? ⟨gb696, 1, none⟩ = some (.int .i64 0) := (blk_cell BK696.out 1).trans rfl
      have hfs52 := blk_frozen BK696.out 1
      have hns52_0 := NB667_696.out
      have hns52_1 := NB668_696.out
      have hns52_2 := NB683_696.out
      have hms52_0 := NB696_667.out
      have hms52_1 := NB696_668.out
      have hms52_2 := NB696_683.out
      have hs53 : w50.cell? ⟨gb696, 2, none⟩ = some (.int .i64 0) := (blk_cell BK696.out 2).trans rfl
      have hfs53 := blk_frozen BK696.out 2
      have hns53_0 := NB667_696.out
      have hns53_1 := NB668_696.out
      have hns53_2 := NB683_696.out
      have hms53_0 := NB696_667.out
      have hms53_1 := NB696_668.out
      have hms53_2 := NB696_683.out
      refine skip_ (w1 := ?_) (by rfl) rfl ?_ ?_
      rotate_left
      · go_simp
        rfl
      refine hK.out _ _ ⟨((cell_far (p := ⟨gb696, _, none⟩) NB667_696.out _).trans (((cell_far (p := ⟨gb696, _, none⟩) NB667_696.out _).trans (((cell_far (p := ⟨gb696, _, none⟩) NB667_696.out _).trans (hHeld.1)))))), ((cell_far (p := ⟨gb696, _, none⟩) NB667_696.out _).trans (((cell_far (p := ⟨gb696, _, none⟩) NB667_696.out _).trans (((cell_far (p := ⟨gb696, _, none⟩) NB667_696.out _).trans (hHeld.2.1)))))), ((cell_far (p := ⟨gb696, _, none⟩) NB667_696.out _).trans (((cell_far (p := ⟨gb696, _, none⟩) NB667_696.out _).trans (((cell_far (p := ⟨gb696, _, none⟩) NB667_696.out _).trans (hHeld.2.2.1)))))), ((cell_far (p := ⟨gb696, _, none⟩) NB668_696.out _).trans (((cell_far (p := ⟨gb696, _, none⟩) NB668_696.out _).trans (((cell_far (p := ⟨gb696, _, none⟩) NB668_696.out _).trans (hHeld.2.2.2.1)))))), ((cell_far (p := ⟨gb696, _, none⟩) NB668_696.out _).trans (((cell_far (p := ⟨gb696, _, none⟩) NB668_696.out _).trans (((cell_far (p := ⟨gb696, _, none⟩) NB668_696.out _).trans (hHeld.2.2.2.2))))))⟩ (fun hHeld => ?_)
      clear hK K
      refine pure_ (i := 11) (N := some 12) (v := ?_) (a' := ?_) #[true, true, true, true, true, true, true, true, true, true, true, true] rfl rfl (any_of HT_.out (by kernel_rfl)) (fun _ _ _ h => h) (Or.inl ⟨by rfl, ?_⟩) ?_ ?_
      rotate_left
      · intro w'
        go_simp
        with_reducible rfl
      rotate_left
      · simp only [Act.put, List.setIfInBounds_toArray, List.set_cons_zero, List.set_cons_succ, i64_w, i32_w]
        rfl
      refine done_ (done_of HT_.out (by kernel_rfl)) ?_
      go_upto_region 11 with (fail)
      go_cut [52] (fun v52 wc => ∃ (kq : Nat) (x52_24 : Bool), v52 = .bool x52_24 ∧ Aside0 (laws_FnExactRecGo.j0 kq l0 t684 x52_24 = some r) ∧ Aside0 (kq ≤ k) ∧ Aside0 (Kd.R k39 39 wc w.heap.size (fun _ => True) (.slice Ao44 t684.length co44) t684) ∧ Aside0 (wc.heap[gb667]? = some (.cells #[.string a1_0, .int .i64 a1_1, .int .i64 a1_2] 65 (0, 0))) ∧ Aside0 (wc.heap[gb668]? = some (.cells #[.int .i64 a2_0, .bool a2_1] 66 (0, 0))) ∧ Aside0 (wc.heap[gb683]? = some (.cells #[.string t679, .int .i64 t680, .int .i64 t681] 31 (0, 0))) ∧ Aside0 (wc.heap[gb696]? = some (.cells #[.string t692, .int .i64 t693, .int .i64 t694] 31 (0, 0))) ∧ Aside0 (Below w.heap.size w wc))
      case first =>
        have H := HC25.out
        clear HC25
        replace H := Option.bind_eq_some_iff.mp H
        obtain ⟨t697, A540, H⟩ := H
        replace H : (if t697 = true then (laws_FnExactRecGo.j0 k l0 t684 (t695 != t682)) else (laws_FnExactRecGo.j0 k l0 t684 true)) = some r := H
        have A54 := Aside0.mk A540
        clear A540
        by_cases c55 : t697 = true
        · subst c55
          have H1 : (laws_FnExactRecGo.j0 k l0 t684 (t695 != t682)) = some r := by rw [if_pos rfl] at H; exact H
          clear H
          have H := H1
          clear H1
          have H' := Aside0.mk H
          clear H
          have hnb56 := NB696_667.out
          have hnc56 := NB667_696.out
          have hnb57 := NB696_668.out
          have hnc57 := NB668_696.out
          have hnb58 := NB696_683.out
          have hnc58 := NB683_696.out
          have hcz59_0 : w50.cell? ⟨gb696, 0, none⟩ = some (.string (⟨#[]⟩ : ByteArray)) := (blk_cell BK696.out 0).trans rfl
          have hcz59_1 : w50.cell? ⟨gb696, 1, none⟩ = some (.int .i64 0) := (blk_cell BK696.out 1).trans rfl
          have hcz59_2 : w50.cell? ⟨gb696, 2, none⟩ = some (.int .i64 0) := (blk_cell BK696.out 2).trans rfl
          have hfz59_0 := blk_frozen BK696.out 0
          have hfz59_1 := blk_frozen BK696.out 1
          have hfz59_2 := blk_frozen BK696.out 2
          have hnb60 := NB683_667.out
          have hnc60 := NB667_683.out
          have hnb61 := NB683_668.out
          have hnc61 := NB668_683.out
          have hcz62_0 : w50.cell? ⟨gb683, 0, none⟩ = some (.string t679) := (blk_cell BK683.out 0).trans rfl
          have hcz62_1 : w50.cell? ⟨gb683, 1, none⟩ = some (.int .i64 t680) := (blk_cell BK683.out 1).trans rfl
          have hcz62_2 : w50.cell? ⟨gb683, 2, none⟩ = some (.int .i64 t681) := (blk_cell BK683.out 2).trans rfl
          have hfz62_0 := blk_frozen BK683.out 0
          have hfz62_1 := blk_frozen BK683.out 1
          have hfz62_2 := blk_frozen BK683.out 2
          go_wp2_with (first | ((with_reducible refine gate_callee (f := 43) rfl ?_); refine goesL_ (some 46) rfl rfl Try.func43 (by kernel_rfl) rfl #[.agg #[.string t692, .int .i64 t693, .int .i64 t694], .agg #[.string t679, .int .i64 t680, .int .i64 t681]] rfl (by (try simp only [List.map_toArray, List.map_cons, List.map_nil]); first | done | rfl | (simp only [List.length_drop, List.length_take]; rfl)) ?_; (with_reducible refine (laws_eqRecState.calls t692 t693 t694 t679 t680 t681 true _ A54.out).mono ?_); rintro e w63 ⟨rfl, hb⟩; refine ⟨_, rfl, ?_⟩; have n0_ := Aside0.mk (Kd.R_below (by (with_reducible repeat (first | apply Kd.R_alloc | apply Kd.R_drewN | apply Kd.R_drew)); exact (Kd.R_mono (Kd.R_far (p := ⟨gb696, 2, none⟩) (Kd.R_far (p := ⟨gb696, 1, none⟩) (Kd.R_far (p := ⟨gb696, 0, none⟩) (Kd.R_types HO673.out BK696.out (by decide)) (fun _ hk => hk.2) (.string t692)) (fun _ hk => hk.2) (.int .i64 t693)) (fun _ hk => hk.2) (.int .i64 t694)) (fun _ h_ => h_.1))) hb); have n1_ := Aside0.mk (Kd.R_below (by (with_reducible repeat (first | apply Kd.R_alloc | apply Kd.R_drewN | apply Kd.R_drew)); exact (Kd.R_mono (Kd.R_far (p := ⟨gb696, 2, none⟩) (Kd.R_far (p := ⟨gb696, 1, none⟩) (Kd.R_far (p := ⟨gb696, 0, none⟩) (Kd.R_types HO686.out BK696.out (by decide)) (fun _ hk => hk.2) (.string t692)) (fun _ hk => hk.2) (.int .i64 t693)) (fun _ hk => hk.2) (.int .i64 t694)) (fun _ h_ => h_.1))) hb); have n2_ := Aside0.mk (blk_below (g := gb667) (o := .cells #[.string a1_0, .int .i64 a1_1, .int .i64 a1_2] 65 (0, 0)) (by (with_reducible repeat (first | refine blk_drewN ?_ _ | refine blk_drew ?_ | refine blk_alloc ?_ _)); refine blk_far ?_ NB667_696.out _; (with_reducible repeat (first | refine blk_drewN ?_ _ | refine blk_drew ?_ | refine blk_alloc ?_ _)); refine blk_far ?_ NB667_696.out _; (with_reducible repeat (first | refine blk_drewN ?_ _ | refine blk_drew ?_ | refine blk_alloc ?_ _)); refine blk_far ?_ NB667_696.out _; (with_reducible repeat (first | refine blk_drewN ?_ _ | refine blk_drew ?_ | refine blk_alloc ?_ _)); exact BK667.out) hb); have n3_ := Aside0.mk (blk_below (g := gb668) (o := .cells #[.int .i64 a2_0, .bool a2_1] 66 (0, 0)) (by (with_reducible repeat (first | refine blk_drewN ?_ _ | refine blk_drew ?_ | refine blk_alloc ?_ _)); refine blk_far ?_ NB668_696.out _; (with_reducible repeat (first | refine blk_drewN ?_ _ | refine blk_drew ?_ | refine blk_alloc ?_ _)); refine blk_far ?_ NB668_696.out _; (with_reducible repeat (first | refine blk_drewN ?_ _ | refine blk_drew ?_ | refine blk_alloc ?_ _)); refine blk_far ?_ NB668_696.out _; (with_reducible repeat (first | refine blk_drewN ?_ _ | refine blk_drew ?_ | refine blk_alloc ?_ _)); exact BK668.out) hb); have n4_ := Aside0.mk (blk_below (g := gb683) (o := .cells #[.string t679, .int .i64 t680, .int .i64 t681] 31 (0, 0)) (by (with_reducible repeat (first | refine blk_drewN ?_ _ | refine blk_drew ?_ | refine blk_alloc ?_ _)); refine blk_far ?_ NB683_696.out _; (with_reducible repeat (first | refine blk_drewN ?_ _ | refine blk_drew ?_ | refine blk_alloc ?_ _)); refine blk_far ?_ NB683_696.out _; (with_reducible repeat (first | refine blk_drewN ?_ _ | refine blk_drew ?_ | refine blk_alloc ?_ _)); refine blk_far ?_ NB683_696.out _; (with_reducible repeat (first | refine blk_drewN ?_ _ | refine blk_drew ?_ | refine blk_alloc ?_ _)); exact BK683.out) hb); have n5_ := Aside0.mk (blk_below (g := gb696) (o := .cells #[.string t692, .int .i64 t693, .int .i64 t694] 31 (0, 0)) (by (with_reducible repeat (first | refine blk_drewN ?_ _ | refine blk_drew ?_ | refine blk_alloc ?_ _)); refine blk_put (cs := #[.string t692, .int .i64 t693, .int .i64 0]) ?_ 2 _ rfl; (with_reducible repeat (first | refine blk_drewN ?_ _ | refine blk_drew ?_ | refine blk_alloc ?_ _)); refine blk_put (cs := #[.string t692, .int .i64 0, .int .i64 0]) ?_ 1 _ rfl; (with_reducible repeat (first | refine blk_drewN ?_ _ | refine blk_drew ?_ | refine blk_alloc ?_ _)); refine blk_put (cs := #[.string (⟨#[]⟩ : ByteArray), .int .i64 0, .int .i64 0]) ?_ 0 _ rfl; (with_reducible repeat (first | refine blk_drewN ?_ _ | refine blk_drew ?_ | refine blk_alloc ?_ _)); exact BK696.out) hb); have n6_ := Aside0.mk (below_step (by repeat (first | (with_reducible first | exact HB.out | apply below_alloc | apply pw_below_drewN | apply below_drew1 | refine below_set ?_ GE667.out | refine below_set ?_ GE668.out | refine below_set ?_ GE683.out | refine below_set ?_ GE696.out) | exact HB.out)) hb); clear HO673; clear HO686; clear BK667; clear BK668; clear BK683; clear BK696; clear HB; have HO673 := n0_; have HO686 := n1_; have BK667 := n2_; have BK668 := n3_; have BK683 := n4_; have BK696 := n5_; have HB := n6_; clear n0_ n1_ n2_ n3_ n4_ n5_ n6_; (try clear hb); (try clear hb2); (try clear hk); (try clear hi)))
          go_meet
          case rel => exact ⟨_, ((t695 != t682)), (by first | rfl | (simp; done) | (simp [*]; done)), H', ⟨by first | omega | exact Nat.le_refl _⟩, ⟨by (with_reducible repeat (first | apply Kd.R_alloc | apply Kd.R_drewN | apply Kd.R_drew)); exact Kd.R_mono HO686.out (fun _ hk => trivial)⟩, ⟨by (with_reducible repeat (first | refine blk_drewN ?_ _ | refine blk_drew ?_ | refine blk_alloc ?_ _)); exact BK667.out⟩, ⟨by (with_reducible repeat (first | refine blk_drewN ?_ _ | refine blk_drew ?_ | refine blk_alloc ?_ _)); exact BK668.out⟩, ⟨by (with_reducible repeat (first | refine blk_drewN ?_ _ | refine blk_drew ?_ | refine blk_alloc ?_ _)); exact BK683.out⟩, ⟨by (with_reducible repeat (first | refine blk_drewN ?_ _ | refine blk_drew ?_ | refine blk_alloc ?_ _)); exact BK696.out⟩, ⟨by repeat (first | (with_reducible first | exact HB.out | apply below_alloc | apply pw_below_drewN | apply below_drew1 | refine below_set ?_ GE667.out | refine below_set ?_ GE668.out | refine below_set ?_ GE683.out | refine below_set ?_ GE696.out) | exact HB.out)⟩⟩
        · replace c55 := Bool.eq_false_iff.mpr c55
          subst c55
          have H1 : (laws_FnExactRecGo.j0 k l0 t684 true) = some r := by rw [if_neg (show ¬ (false = true) by decide)] at H; exact H
          clear H
          have H := H1
          clear H1
          have H' := Aside0.mk H
          clear H
          have hnb64 := NB696_667.out
          have hnc64 := NB667_696.out
          have hnb65 := NB696_668.out
          have hnc65 := NB668_696.out
          have hnb66 := NB696_683.out
          have hnc66 := NB683_696.out
          have hcz67_0 : w50.cell? ⟨gb696, 0, none⟩ = some (.string (⟨#[]⟩ : ByteArray)) := (blk_cell BK696.out 0).trans rfl
          have hcz67_1 : w50.cell? ⟨gb696, 1, none⟩ = some (.int .i64 0) := (blk_cell BK696.out 1).trans rfl
          have hcz67_2 : w50.cell? ⟨gb696, 2, none⟩ = some (.int .i64 0) := (blk_cell BK696.out 2).trans rfl
          have hfz67_0 := blk_frozen BK696.out 0
          have hfz67_1 := blk_frozen BK696.out 1
          have hfz67_2 := blk_frozen BK696.out 2
          have hnb68 := NB683_667.out
          have hnc68 := NB667_683.out
          have hnb69 := NB683_668.out
          have hnc69 := NB668_683.out
          have hcz70_0 : w50.cell? ⟨gb683, 0, none⟩ = some (.string t679) := (blk_cell BK683.out 0).trans rfl
          have hcz70_1 : w50.cell? ⟨gb683, 1, none⟩ = some (.int .i64 t680) := (blk_cell BK683.out 1).trans rfl
          have hcz70_2 : w50.cell? ⟨gb683, 2, none⟩ = some (.int .i64 t681) := (blk_cell BK683.out 2).trans rfl
          have hfz70_0 := blk_frozen BK683.out 0
          have hfz70_1 := blk_frozen BK683.out 1
          have hfz70_2 := blk_frozen BK683.out 2
          go_wp2_with (first | ((with_reducible refine gate_callee (f := 43) rfl ?_); refine goesL_ (some 46) rfl rfl Try.func43 (by kernel_rfl) rfl #[.agg #[.string t692, .int .i64 t693, .int .i64 t694], .agg #[.string t679, .int .i64 t680, .int .i64 t681]] rfl (by (try simp only [List.map_toArray, List.map_cons, List.map_nil]); first | done | rfl | (simp only [List.length_drop, List.length_take]; rfl)) ?_; (with_reducible refine (laws_eqRecState.calls t692 t693 t694 t679 t680 t681 false _ A54.out).mono ?_); rintro e w71 ⟨rfl, hb⟩; refine ⟨_, rfl, ?_⟩; have n0_ := Aside0.mk (Kd.R_below (by (with_reducible repeat (first | apply Kd.R_alloc | apply Kd.R_drewN | apply Kd.R_drew)); exact (Kd.R_mono (Kd.R_far (p := ⟨gb696, 2, none⟩) (Kd.R_far (p := ⟨gb696, 1, none⟩) (Kd.R_far (p := ⟨gb696, 0, none⟩) (Kd.R_types HO673.out BK696.out (by decide)) (fun _ hk => hk.2) (.string t692)) (fun _ hk => hk.2) (.int .i64 t693)) (fun _ hk => hk.2) (.int .i64 t694)) (fun _ h_ => h_.1))) hb); have n1_ := Aside0.mk (Kd.R_below (by (with_reducible repeat (first | apply Kd.R_alloc | apply Kd.R_drewN | apply Kd.R_drew)); exact (Kd.R_mono (Kd.R_far (p := ⟨gb696, 2, none⟩) (Kd.R_far (p := ⟨gb696, 1, none⟩) (Kd.R_far (p := ⟨gb696, 0, none⟩) (Kd.R_types HO686.out BK696.out (by decide)) (fun _ hk => hk.2) (.string t692)) (fun _ hk => hk.2) (.int .i64 t693)) (fun _ hk => hk.2) (.int .i64 t694)) (fun _ h_ => h_.1))) hb); have n2_ := Aside0.mk (blk_below (g := gb667) (o := .cells #[.string a1_0, .int .i64 a1_1, .int .i64 a1_2] 65 (0, 0)) (by (with_reducible repeat (first | refine blk_drewN ?_ _ | refine blk_drew ?_ | refine blk_alloc ?_ _)); refine blk_far ?_ NB667_696.out _; (with_reducible repeat (first | refine blk_drewN ?_ _ | refine blk_drew ?_ | refine blk_alloc ?_ _)); refine blk_far ?_ NB667_696.out _; (with_reducible repeat (first | refine blk_drewN ?_ _ | refine blk_drew ?_ | refine blk_alloc ?_ _)); refine blk_far ?_ NB667_696.out _; (with_reducible repeat (first | refine blk_drewN ?_ _ | refine blk_drew ?_ | refine blk_alloc ?_ _)); exact BK667.out) hb); have n3_ := Aside0.mk (blk_below (g := gb668) (o := .cells #[.int .i64 a2_0, .bool a2_1] 66 (0, 0)) (by (with_reducible repeat (first | refine blk_drewN ?_ _ | refine blk_drew ?_ | refine blk_alloc ?_ _)); refine blk_far ?_ NB668_696.out _; (with_reducible repeat (first | refine blk_drewN ?_ _ | refine blk_drew ?_ | refine blk_alloc ?_ _)); refine blk_far ?_ NB668_696.out _; (with_reducible repeat (first | refine blk_drewN ?_ _ | refine blk_drew ?_ | refine blk_alloc ?_ _)); refine blk_far ?_ NB668_696.out _; (with_reducible repeat (first | refine blk_drewN ?_ _ | refine blk_drew ?_ | refine blk_alloc ?_ _)); exact BK668.out) hb); have n4_ := Aside0.mk (blk_below (g := gb683) (o := .cells #[.string t679, .int .i64 t680, .int .i64 t681] 31 (0, 0)) (by (with_reducible repeat (first | refine blk_drewN ?_ _ | refine blk_drew ?_ | refine blk_alloc ?_ _)); refine blk_far ?_ NB683_696.out _; (with_reducible repeat (first | refine blk_drewN ?_ _ | refine blk_drew ?_ | refine blk_alloc ?_ _)); refine blk_far ?_ NB683_696.out _; (with_reducible repeat (first | refine blk_drewN ?_ _ | refine blk_drew ?_ | refine blk_alloc ?_ _)); refine blk_far ?_ NB683_696.out _; (with_reducible repeat (first | refine blk_drewN ?_ _ | refine blk_drew ?_ | refine blk_alloc ?_ _)); exact BK683.out) hb); have n5_ := Aside0.mk (blk_below (g := gb696) (o := .cells #[.string t692, .int .i64 t693, .int .i64 t694] 31 (0, 0)) (by (with_reducible repeat (first | refine blk_drewN ?_ _ | refine blk_drew ?_ | refine blk_alloc ?_ _)); refine blk_put (cs := #[.string t692, .int .i64 t693, .int .i64 0]) ?_ 2 _ rfl; (with_reducible repeat (first | refine blk_drewN ?_ _ | refine blk_drew ?_ | refine blk_alloc ?_ _)); refine blk_put (cs := #[.string t692, .int .i64 0, .int .i64 0]) ?_ 1 _ rfl; (with_reducible repeat (first | refine blk_drewN ?_ _ | refine blk_drew ?_ | refine blk_alloc ?_ _)); refine blk_put (cs := #[.string (⟨#[]⟩ : ByteArray), .int .i64 0, .int .i64 0]) ?_ 0 _ rfl; (with_reducible repeat (first | refine blk_drewN ?_ _ | refine blk_drew ?_ | refine blk_alloc ?_ _)); exact BK696.out) hb); have n6_ := Aside0.mk (below_step (by repeat (first | (with_reducible first | exact HB.out | apply below_alloc | apply pw_below_drewN | apply below_drew1 | refine below_set ?_ GE667.out | refine below_set ?_ GE668.out | refine below_set ?_ GE683.out | refine below_set ?_ GE696.out) | exact HB.out)) hb); clear HO673; clear HO686; clear BK667; clear BK668; clear BK683; clear BK696; clear HB; have HO673 := n0_; have HO686 := n1_; have BK667 := n2_; have BK668 := n3_; have BK683 := n4_; have BK696 := n5_; have HB := n6_; clear n0_ n1_ n2_ n3_ n4_ n5_ n6_; (try clear hb); (try clear hb2); (try clear hk); (try clear hi)))
          go_meet
          case rel => exact ⟨_, (true), (by first | rfl | (simp; done) | (simp [*]; done)), H', ⟨by first | omega | exact Nat.le_refl _⟩, ⟨by (with_reducible repeat (first | apply Kd.R_alloc | apply Kd.R_drewN | apply Kd.R_drew)); exact Kd.R_mono HO686.out (fun _ hk => trivial)⟩, ⟨by (with_reducible repeat (first | refine blk_drewN ?_ _ | refine blk_drew ?_ | refine blk_alloc ?_ _)); exact BK667.out⟩, ⟨by (with_reducible repeat (first | refine blk_drewN ?_ _ | refine blk_drew ?_ | refine blk_alloc ?_ _)); exact BK668.out⟩, ⟨by (with_reducible repeat (first | refine blk_drewN ?_ _ | refine blk_drew ?_ | refine blk_alloc ?_ _)); exact BK683.out⟩, ⟨by (with_reducible repeat (first | refine blk_drewN ?_ _ | refine blk_drew ?_ | refine blk_alloc ?_ _)); exact BK696.out⟩, ⟨by repeat (first | (with_reducible first | exact HB.out | apply below_alloc | apply pw_below_drewN | apply below_drew1 | refine below_set ?_ GE667.out | refine below_set ?_ GE668.out | refine below_set ?_ GE683.out | refine below_set ?_ GE696.out) | exact HB.out)⟩⟩
      case rest =>
        clear HC25
        try clear c2
        try clear p2
        try clear c4
        try clear c5
        try clear c6
        try clear c28
        try clear c43
        try clear c48
        try clear c49
        try clear c55
        try clear c56
        try clear c57
        try clear c58
        try clear c60
        try clear c61
        try clear c64
        try clear c65
        try clear c66
        try clear c68
        try clear c69
        try clear hcz59_0
        try clear hcz59_1
        try clear hcz59_2
        try clear hcz62_0
        try clear hcz62_1
        try clear hcz62_2
        try clear hcz67_0
        try clear hcz67_1
        try clear hcz67_2
        try clear hcz70_0
        try clear hcz70_1
        try clear hcz70_2
        try clear hfz59_0
        try clear hfz59_1
        try clear hfz59_2
        try clear hfz62_0
        try clear hfz62_1
        try clear hfz62_2
        try clear hfz67_0
        try clear hfz67_1
        try clear hfz67_2
        try clear hfz70_0
        try clear hfz70_1
        try clear hfz70_2
        obtain ⟨kq, x52_24, rfl, HA, HJ24, HO_10, BK667, BK668, BK683, BK696, HB⟩ := hcut
        cases kq with
        | zero => exact absurd HA.out (by simp [laws_FnExactRecGo.j0])
        | succ kj24 =>
          have H := HA.out
          clear HA
          simp only [laws_FnExactRecGo.j0] at H
          by_cases c72 : x52_24 = true
          · subst c72
            have H1 : (some false) = some r := by rw [if_pos rfl] at H; exact H
            clear H
            have H := H1
            clear H1
            obtain rfl := Option.some.inj H
            go_wp2
            go_ret
            exact ⟨by first | rfl | (simp [errW_none, errW_some] <;> rfl) | (simp [*, errW_none, errW_some] <;> rfl), by repeat (first | (with_reducible first | exact HB.out | apply below_alloc | apply pw_below_drewN | apply below_drew1 | refine below_set ?_ GE667.out | refine below_set ?_ GE668.out | refine below_set ?_ GE683.out | refine below_set ?_ GE696.out) | exact HB.out)⟩
          · replace c72 := Bool.eq_false_iff.mpr c72
            subst c72
            have H1 : ((laws_toRecPhaseS.f kj24 l0).bind fun t698 => ((laws_eqRecPhaseS.f kj24 t684 t698).bind fun t701 => (if t701 = true then (some true) else (some false)))) = some r := by rw [if_neg (show ¬ (false = true) by decide)] at H; exact H
            clear H
            have H := H1
            clear H1
            replace H := Option.bind_eq_some_iff.mp H
            obtain ⟨t698, A730, H⟩ := H
            replace H : ((laws_eqRecPhaseS.f kj24 t684 t698).bind fun t701 => (if t701 = true then (some true) else (some false))) = some r := H
            have A73 := Aside0.mk A730
            clear A730
            replace H := Option.bind_eq_some_iff.mp H
            obtain ⟨t701, A740, H⟩ := H
            replace H : (if t701 = true then (some true) else (some false)) = some r := H
            have A74 := Aside0.mk A740
            clear A740
            by_cases c75 : t701 = true
            · subst c75
              have H1 : (some true) = some r := by rw [if_pos rfl] at H; exact H
              clear H
              have H := H1
              clear H1
              obtain rfl := Option.some.inj H
              go_wp2_with (first | ((with_reducible refine gate_callee (f := 38) rfl ?_); refine goesL_ (some 55) rfl rfl Try.func38 (by kernel_rfl) rfl #[.slice A0 l0.length c0] rfl (by (try simp only [List.map_toArray, List.map_cons, List.map_nil]); first | done | rfl | (simp only [List.length_drop, List.length_take]; rfl)) ?_; (with_reducible refine (laws_toRecPhaseS.calls kj24 _ _ l0 t698 _ ?side1 ?side2 A73.out).mono ?_); (case side1 => repeat (first | exact (Kd.C_below HR0.out HB.out) | (with_reducible refine Kd.C_alloc ?_ _) | (with_reducible refine Kd.C_drewN ?_ _) | (with_reducible refine Kd.C_drew ?_))); (case side2 => exact HC0.out); rintro e w76 ⟨v699, rfl, ho0, hb⟩; refine ⟨_, rfl, ?_⟩; have n0_ := Aside0.mk (Kd.R_elder' (by (with_reducible repeat (first | apply Kd.R_alloc | apply Kd.R_drewN | apply Kd.R_drew)); exact HO_10.out) (Kd.R_base ho0) hb); have n1_ := Aside0.mk (Kd.R_lower (Kd.R_new' ho0 (Kd.R_lt (by (with_reducible repeat (first | apply Kd.R_alloc | apply Kd.R_drewN | apply Kd.R_drew)); exact HO_10.out))) (below_size (by repeat (first | (with_reducible first | exact HB.out | apply below_alloc | apply pw_below_drewN | apply below_drew1 | refine below_set ?_ GE667.out | refine below_set ?_ GE668.out | refine below_set ?_ GE683.out | refine below_set ?_ GE696.out) | exact HB.out)))); have n2_ := Aside0.mk (blk_below (g := gb667) (o := .cells #[.string a1_0, .int .i64 a1_1, .int .i64 a1_2] 65 (0, 0)) (by (with_reducible repeat (first | refine blk_drewN ?_ _ | refine blk_drew ?_ | refine blk_alloc ?_ _)); exact BK667.out) hb); have n3_ := Aside0.mk (blk_below (g := gb668) (o := .cells #[.int .i64 a2_0, .bool a2_1] 66 (0, 0)) (by (with_reducible repeat (first | refine blk_drewN ?_ _ | refine blk_drew ?_ | refine blk_alloc ?_ _)); exact BK668.out) hb); have n4_ := Aside0.mk (blk_below (g := gb683) (o := .cells #[.string t679, .int .i64 t680, .int .i64 t681] 31 (0, 0)) (by (with_reducible repeat (first | refine blk_drewN ?_ _ | refine blk_drew ?_ | refine blk_alloc ?_ _)); exact BK683.out) hb); have n5_ := Aside0.mk (blk_below (g := gb696) (o := .cells #[.string t692, .int .i64 t693, .int .i64 t694] 31 (0, 0)) (by (with_reducible repeat (first | refine blk_drewN ?_ _ | refine blk_drew ?_ | refine blk_alloc ?_ _)); exact BK696.out) hb); have n6_ := Aside0.mk (below_step (by repeat (first | (with_reducible first | exact HB.out | apply below_alloc | apply pw_below_drewN | apply below_drew1 | refine below_set ?_ GE667.out | refine below_set ?_ GE668.out | refine below_set ?_ GE683.out | refine below_set ?_ GE696.out) | exact HB.out)) hb); clear HO_10; clear BK667; clear BK668; clear BK683; clear BK696; clear HB; have HO_10 := n0_; have HO700 := n1_; have BK667 := n2_; have BK668 := n3_; have BK683 := n4_; have BK696 := n5_; have HB := n6_; clear n0_ n1_ n2_ n3_ n4_ n5_ n6_; (try clear hb); (try clear hb2); (try clear hk); (try clear hi); (try clear ho0); obtain ⟨Ao77, co77, eo77⟩ := Kd.R_slice HO700.out; subst eo77) | ((with_reducible refine gate_callee (f := 39) rfl ?_); refine goesL_ (some 56) rfl rfl Try.func39 (by kernel_rfl) rfl #[.slice Ao44 t684.length co44, .slice Ao77 t698.length co77] rfl (by (try simp only [List.map_toArray, List.map_cons, List.map_nil]); first | done | rfl | (simp only [List.length_drop, List.length_take]; rfl)) ?_; (with_reducible refine (laws_eqRecPhaseS.calls kj24 _ _ t684 _ _ t698 true _ ?side1 ?side2 ?side3 ?side4 A74.out).mono ?_); (case side1 => repeat (first | exact (Kd.R_reads' HO_10.out).2.2 | (with_reducible refine Kd.C_alloc ?_ _) | (with_reducible refine Kd.C_drewN ?_ _) | (with_reducible refine Kd.C_drew ?_))); (case side2 => exact (Kd.R_reads' HO_10.out).2.1); (case side3 => repeat (first | exact (Kd.R_reads' HO700.out).2.2 | (with_reducible refine Kd.C_alloc ?_ _) | (with_reducible refine Kd.C_drewN ?_ _) | (with_reducible refine Kd.C_drew ?_))); (case side4 => exact (Kd.R_reads' HO700.out).2.1); rintro e w78 ⟨rfl, hb⟩; refine ⟨_, rfl, ?_⟩; have n0_ := Aside0.mk (Kd.R_below (by (with_reducible repeat (first | apply Kd.R_alloc | apply Kd.R_drewN | apply Kd.R_drew)); exact HO_10.out) hb); have n1_ := Aside0.mk (Kd.R_below (by (with_reducible repeat (first | apply Kd.R_alloc | apply Kd.R_drewN | apply Kd.R_drew)); exact HO700.out) hb); have n2_ := Aside0.mk (blk_below (g := gb667) (o := .cells #[.string a1_0, .int .i64 a1_1, .int .i64 a1_2] 65 (0, 0)) (by (with_reducible repeat (first | refine blk_drewN ?_ _ | refine blk_drew ?_ | refine blk_alloc ?_ _)); exact BK667.out) hb); have n3_ := Aside0.mk (blk_below (g := gb668) (o := .cells #[.int .i64 a2_0, .bool a2_1] 66 (0, 0)) (by (with_reducible repeat (first | refine blk_drewN ?_ _ | refine blk_drew ?_ | refine blk_alloc ?_ _)); exact BK668.out) hb); have n4_ := Aside0.mk (blk_below (g := gb683) (o := .cells #[.string t679, .int .i64 t680, .int .i64 t681] 31 (0, 0)) (by (with_reducible repeat (first | refine blk_drewN ?_ _ | refine blk_drew ?_ | refine blk_alloc ?_ _)); exact BK683.out) hb); have n5_ := Aside0.mk (blk_below (g := gb696) (o := .cells #[.string t692, .int .i64 t693, .int .i64 t694] 31 (0, 0)) (by (with_reducible repeat (first | refine blk_drewN ?_ _ | refine blk_drew ?_ | refine blk_alloc ?_ _)); exact BK696.out) hb); have n6_ := Aside0.mk (below_step (by repeat (first | (with_reducible first | exact HB.out | apply below_alloc | apply pw_below_drewN | apply below_drew1 | refine below_set ?_ GE667.out | refine below_set ?_ GE668.out | refine below_set ?_ GE683.out | refine below_set ?_ GE696.out) | exact HB.out)) hb); clear HO_10; clear HO700; clear BK667; clear BK668; clear BK683; clear BK696; clear HB; have HO_10 := n0_; have HO700 := n1_; have BK667 := n2_; have BK668 := n3_; have BK683 := n4_; have BK696 := n5_; have HB := n6_; clear n0_ n1_ n2_ n3_ n4_ n5_ n6_; (try clear hb); (try clear hb2); (try clear hk); (try clear hi)))
              go_ret
              exact ⟨by first | rfl | (simp [errW_none, errW_some] <;> rfl) | (simp [*, errW_none, errW_some] <;> rfl), by repeat (first | (with_reducible first | exact HB.out | apply below_alloc | apply pw_below_drewN | apply below_drew1 | refine below_set ?_ GE667.out | refine below_set ?_ GE668.out | refine below_set ?_ GE683.out | refine below_set ?_ GE696.out) | exact HB.out)⟩
            · replace c75 := Bool.eq_false_iff.mpr c75
              subst c75
              have H1 : (some false) = some r := by rw [if_neg (show ¬ (false = true) by decide)] at H; exact H
              clear H
              have H := H1
              clear H1
              obtain rfl := Option.some.inj H
              go_wp2_with (first | ((with_reducible refine gate_callee (f := 38) rfl ?_); refine goesL_ (some 55) rfl rfl Try.func38 (by kernel_rfl) rfl #[.slice A0 l0.length c0] rfl (by (try simp only [List.map_toArray, List.map_cons, List.map_nil]); first | done | rfl | (simp only [List.length_drop, List.length_take]; rfl)) ?_; (with_reducible refine (laws_toRecPhaseS.calls kj24 _ _ l0 t698 _ ?side1 ?side2 A73.out).mono ?_); (case side1 => repeat (first | exact (Kd.C_below HR0.out HB.out) | (with_reducible refine Kd.C_alloc ?_ _) | (with_reducible refine Kd.C_drewN ?_ _) | (with_reducible refine Kd.C_drew ?_))); (case side2 => exact HC0.out); rintro e w79 ⟨v699, rfl, ho0, hb⟩; refine ⟨_, rfl, ?_⟩; have n0_ := Aside0.mk (Kd.R_elder' (by (with_reducible repeat (first | apply Kd.R_alloc | apply Kd.R_drewN | apply Kd.R_drew)); exact HO_10.out) (Kd.R_base ho0) hb); have n1_ := Aside0.mk (Kd.R_lower (Kd.R_new' ho0 (Kd.R_lt (by (with_reducible repeat (first | apply Kd.R_alloc | apply Kd.R_drewN | apply Kd.R_drew)); exact HO_10.out))) (below_size (by repeat (first | (with_reducible first | exact HB.out | apply below_alloc | apply pw_below_drewN | apply below_drew1 | refine below_set ?_ GE667.out | refine below_set ?_ GE668.out | refine below_set ?_ GE683.out | refine below_set ?_ GE696.out) | exact HB.out)))); have n2_ := Aside0.mk (blk_below (g := gb667) (o := .cells #[.string a1_0, .int .i64 a1_1, .int .i64 a1_2] 65 (0, 0)) (by (with_reducible repeat (first | refine blk_drewN ?_ _ | refine blk_drew ?_ | refine blk_alloc ?_ _)); exact BK667.out) hb); have n3_ := Aside0.mk (blk_below (g := gb668) (o := .cells #[.int .i64 a2_0, .bool a2_1] 66 (0, 0)) (by (with_reducible repeat (first | refine blk_drewN ?_ _ | refine blk_drew ?_ | refine blk_alloc ?_ _)); exact BK668.out) hb); have n4_ := Aside0.mk (blk_below (g := gb683) (o := .cells #[.string t679, .int .i64 t680, .int .i64 t681] 31 (0, 0)) (by (with_reducible repeat (first | refine blk_drewN ?_ _ | refine blk_drew ?_ | refine blk_alloc ?_ _)); exact BK683.out) hb); have n5_ := Aside0.mk (blk_below (g := gb696) (o := .cells #[.string t692, .int .i64 t693, .int .i64 t694] 31 (0, 0)) (by (with_reducible repeat (first | refine blk_drewN ?_ _ | refine blk_drew ?_ | refine blk_alloc ?_ _)); exact BK696.out) hb); have n6_ := Aside0.mk (below_step (by repeat (first | (with_reducible first | exact HB.out | apply below_alloc | apply pw_below_drewN | apply below_drew1 | refine below_set ?_ GE667.out | refine below_set ?_ GE668.out | refine below_set ?_ GE683.out | refine below_set ?_ GE696.out) | exact HB.out)) hb); clear HO_10; clear BK667; clear BK668; clear BK683; clear BK696; clear HB; have HO_10 := n0_; have HO700 := n1_; have BK667 := n2_; have BK668 := n3_; have BK683 := n4_; have BK696 := n5_; have HB := n6_; clear n0_ n1_ n2_ n3_ n4_ n5_ n6_; (try clear hb); (try clear hb2); (try clear hk); (try clear hi); (try clear ho0); obtain ⟨Ao80, co80, eo80⟩ := Kd.R_slice HO700.out; subst eo80) | ((with_reducible refine gate_callee (f := 39) rfl ?_); refine goesL_ (some 56) rfl rfl Try.func39 (by kernel_rfl) rfl #[.slice Ao44 t684.length co44, .slice Ao80 t698.length co80] rfl (by (try simp only [List.map_toArray, List.map_cons, List.map_nil]); first | done | rfl | (simp only [List.length_drop, List.length_take]; rfl)) ?_; (with_reducible refine (laws_eqRecPhaseS.calls kj24 _ _ t684 _ _ t698 false _ ?side1 ?side2 ?side3 ?side4 A74.out).mono ?_); (case side1 => repeat (first | exact (Kd.R_reads' HO_10.out).2.2 | (with_reducible refine Kd.C_alloc ?_ _) | (with_reducible refine Kd.C_drewN ?_ _) | (with_reducible refine Kd.C_drew ?_))); (case side2 => exact (Kd.R_reads' HO_10.out).2.1); (case side3 => repeat (first | exact (Kd.R_reads' HO700.out).2.2 | (with_reducible refine Kd.C_alloc ?_ _) | (with_reducible refine Kd.C_drewN ?_ _) | (with_reducible refine Kd.C_drew ?_))); (case side4 => exact (Kd.R_reads' HO700.out).2.1); rintro e w81 ⟨rfl, hb⟩; refine ⟨_, rfl, ?_⟩; have n0_ := Aside0.mk (Kd.R_below (by (with_reducible repeat (first | apply Kd.R_alloc | apply Kd.R_drewN | apply Kd.R_drew)); exact HO_10.out) hb); have n1_ := Aside0.mk (Kd.R_below (by (with_reducible repeat (first | apply Kd.R_alloc | apply Kd.R_drewN | apply Kd.R_drew)); exact HO700.out) hb); have n2_ := Aside0.mk (blk_below (g := gb667) (o := .cells #[.string a1_0, .int .i64 a1_1, .int .i64 a1_2] 65 (0, 0)) (by (with_reducible repeat (first | refine blk_drewN ?_ _ | refine blk_drew ?_ | refine blk_alloc ?_ _)); exact BK667.out) hb); have n3_ := Aside0.mk (blk_below (g := gb668) (o := .cells #[.int .i64 a2_0, .bool a2_1] 66 (0, 0)) (by (with_reducible repeat (first | refine blk_drewN ?_ _ | refine blk_drew ?_ | refine blk_alloc ?_ _)); exact BK668.out) hb); have n4_ := Aside0.mk (blk_below (g := gb683) (o := .cells #[.string t679, .int .i64 t680, .int .i64 t681] 31 (0, 0)) (by (with_reducible repeat (first | refine blk_drewN ?_ _ | refine blk_drew ?_ | refine blk_alloc ?_ _)); exact BK683.out) hb); have n5_ := Aside0.mk (blk_below (g := gb696) (o := .cells #[.string t692, .int .i64 t693, .int .i64 t694] 31 (0, 0)) (by (with_reducible repeat (first | refine blk_drewN ?_ _ | refine blk_drew ?_ | refine blk_alloc ?_ _)); exact BK696.out) hb); have n6_ := Aside0.mk (below_step (by repeat (first | (with_reducible first | exact HB.out | apply below_alloc | apply pw_below_drewN | apply below_drew1 | refine below_set ?_ GE667.out | refine below_set ?_ GE668.out | refine below_set ?_ GE683.out | refine below_set ?_ GE696.out) | exact HB.out)) hb); clear HO_10; clear HO700; clear BK667; clear BK668; clear BK683; clear BK696; clear HB; have HO_10 := n0_; have HO700 := n1_; have BK667 := n2_; have BK668 := n3_; have BK683 := n4_; have BK696 := n5_; have HB := n6_; clear n0_ n1_ n2_ n3_ n4_ n5_ n6_; (try clear hb); (try clear hb2); (try clear hk); (try clear hi)))
              go_ret
              exact ⟨by first | rfl | (simp [errW_none, errW_some] <;> rfl) | (simp [*, errW_none, errW_some] <;> rfl), by repeat (first | (with_reducible first | exact HB.out | apply below_alloc | apply pw_below_drewN | apply below_drew1 | refine below_set ?_ GE667.out | refine below_set ?_ GE668.out | refine below_set ?_ GE683.out | refine below_set ?_ GE696.out) | exact HB.out)⟩

end Go.Proofs.Ytdkologncoofdaa.P
-- Q1
namespace Go.Proofs.Ytdkologncoofdaa.P
open Go.RowKit Go.Proofs.YtdkologncoofdaaW.PrintWords Go.Proofs.YtdkologncoofdaaW.PrintLast
set_option linter.unusedVariables false
set_option linter.unusedSimpArgs false

/-- With enough rounds, and from there on, the answer is r. -/
def Evn {α : Type} (g : Nat → Option α) (r : α) : Prop := ∃ K, ∀ k, K ≤ k → g k = some r
theorem Evn.pure {α : Type} (r : α) : Evn (fun _ => some r) r := ⟨0, fun _ _ => rfl⟩
theorem Evn.bind {α β : Type} {g : Nat → Option α} {r : α} {h : Nat → α → Option β} {s : β} (h1 : Evn g r) (h2 : Evn (fun k => h k r) s) : Evn (fun k => (g k).bind (h k)) s := by
  obtain ⟨K1, h1⟩ := h1
  obtain ⟨K2, h2⟩ := h2
  exact ⟨max K1 K2, fun k hk => by show (g k).bind (h k) = some s; rw [h1 k (by omega)]; exact h2 k (by omega)⟩
theorem Evn.bind' {α β : Type} {r : α} {h : Nat → α → Option β} {s : β} (h2 : Evn (fun k => h k r) s) : Evn (fun k => (some r).bind (h k)) s := h2
theorem Evn.succ {α : Type} {g f : Nat → Option α} {r : α} (h : Evn f r) (e : ∀ k, g (k + 1) = f k) : Evn g r := by
  obtain ⟨K, h⟩ := h
  refine ⟨K + 1, fun k hk => ?_⟩
  obtain ⟨k, rfl⟩ : ∃ m, k = m + 1 := ⟨k - 1, by omega⟩
  rw [e]
  exact h k (by omega)
theorem Evn.congr {α : Type} {g f : Nat → Option α} {r : α} (h : Evn f r) (e : ∀ k, g k = f k) : Evn g r := by
  obtain ⟨K, h⟩ := h
  exact ⟨K, fun k hk => by rw [e]; exact h k hk⟩
theorem Evn.of {α : Type} {g : Nat → Option α} {r s : α} (h : Evn g r) (e : r = s) : Evn g s := e ▸ h
theorem Evn.yes {α : Type} {c : Prop} [Decidable c] {f g : Nat → Option α} {r : α} (hc : c) (h : Evn f r) : Evn (fun k => if c then f k else g k) r := h.congr fun k => if_pos hc
theorem Evn.no {α : Type} {c : Prop} [Decidable c] {f g : Nat → Option α} {r : α} (hc : ¬ c) (h : Evn g r) : Evn (fun k => if c then f k else g k) r := h.congr fun k => if_neg hc
theorem Evn.ite {α : Type} {c : Prop} [Decidable c] {f g : Nat → Option α} {r s : α} (h1 : c → Evn f r) (h2 : ¬ c → Evn g s) : Evn (fun k => if c then f k else g k) (if c then r else s) := by
  by_cases hc : c
  · rw [if_pos hc]; exact Evn.yes hc (h1 hc)
  · rw [if_neg hc]; exact Evn.no hc (h2 hc)
theorem Evn.ends {α : Type} {g : Nat → Option α} {r : α} (h : Evn g r) : ∃ k, g k = some r := by
  obtain ⟨K, h⟩ := h
  exact ⟨K, h K (Nat.le_refl _)⟩
/-- Of two answers there is one. -/
theorem Evn.one {α : Type} {g : Nat → Option α} {r s : α} (h : Evn g r) (h' : Evn g s) : r = s := by
  obtain ⟨K, h⟩ := h
  obtain ⟨K', h'⟩ := h'
  have := (h (max K K') (by omega)).symm.trans (h' (max K K') (by omega))
  exact Option.some.inj this

theorem wrap_id {x : Int} (h1 : -9223372036854775808 ≤ x) (h2 : x ≤ 9223372036854775807) : wrap64 x = x := by unfold wrap64; omega

/-! ### Ends -/
def endOf (a : ByteArray) : Int := if a.toList = ([103, 111, 111, 100] : List UInt8) then 1 else if a.toList = ([115, 97, 118, 101, 100] : List UInt8) then 2 else if a.toList = ([115, 99, 114, 97, 112, 112, 101, 100] : List UInt8) then 3 else 0
theorem endOf_range (a : ByteArray) : 0 ≤ endOf a ∧ endOf a ≤ 3 := by unfold endOf; split <;> (try split) <;> (try split) <;> omega
theorem spec_end (a : ByteArray) : spec_RecEnd.f a = some (endOf a) := by
  unfold spec_RecEnd.f endOf
  split <;> (try split) <;> (try split) <;> rfl
theorem impl_end (a : ByteArray) (k : Nat) : impl_RecEnd.f (k + 4) a = some (endOf a) := by
  have w0 : wrap64 1 = 1 := wrap_id (by omega) (by omega)
  have w1 : wrap64 2 = 2 := wrap_id (by omega) (by omega)
  have w2 : wrap64 3 = 3 := wrap_id (by omega) (by omega)
  have w3 : wrap64 0 = 0 := wrap_id (by omega) (by omega)
  unfold endOf impl_RecEnd.f slices_Index_string_string.f
  simp only [slices_Index_string_string.l0, rdOf, Option.bind_some, List.drop, List.length_cons, List.length_nil]
  by_cases c1 : a.toList = ([103, 111, 111, 100] : List UInt8)
  · simp [c1, w0]
  · by_cases c2 : a.toList = ([115, 97, 118, 101, 100] : List UInt8)
    · simp [c2, w0, w1]
    · by_cases c3 : a.toList = ([115, 99, 114, 97, 112, 112, 101, 100] : List UInt8)
      · simp [c3, w0, w1, w2]
      · simp [c1, c2, c3, w0, w1, w2, w3]
theorem impl_endE (a : ByteArray) : Evn (fun k => impl_RecEnd.f k a) (endOf a) := ⟨4, fun k hk => by
  obtain ⟨k, rfl⟩ : ∃ m, k = m + 4 := ⟨k - 4, by omega⟩
  exact impl_end a k⟩

/-! ### Between two bounds -/
def inB (a b c : Int) : Bool := decide (b ≤ a) && decide (a ≤ c)
theorem spec_in (a b c : Int) : spec_l1In.f a b c = some (inB a b c) := by
  unfold spec_l1In.f inB
  by_cases h : a ≥ b
  · rw [if_pos h]; simp [h]
  · rw [if_neg h]; simp [show ¬ b ≤ a from h]
theorem impl_in' (a b c : Int) : impl_in.f a b c = some (inB a b c) := by
  unfold impl_in.f inB
  by_cases h : a ≥ b
  · rw [if_pos h]; simp [h]
  · rw [if_neg h]; simp [show ¬ b ≤ a from h]
theorem inB_iff {a b c : Int} : inB a b c = true ↔ b ≤ a ∧ a ≤ c := by simp [inB]

/-! ### Names -/
def byteOk (x : Int) : Bool := (decide (97 ≤ x) && decide (x ≤ 122)) || (decide (48 ≤ x) && decide (x ≤ 57)) || decide (x = 45)
/-- All bytes from place i on are those of a name. -/
def tailOk (s : ByteArray) (i : Nat) : Bool := (List.range (s.size - i)).all fun j => byteOk (bt s ((i + j : Nat) : Int))
def nmOk (s : ByteArray) : Bool := inB (s.size : Int) 1 8 && tailOk s 0
theorem tailOk_end (s : ByteArray) (i : Nat) (h : s.size ≤ i) : tailOk s i = true := by
  unfold tailOk; rw [show s.size - i = 0 from by omega]; rfl
theorem tailOk_step (s : ByteArray) (i : Nat) (h : i < s.size) : tailOk s i = (byteOk (bt s (i : Int)) && tailOk s (i + 1)) := by
  unfold tailOk
  rw [show s.size - i = (s.size - (i + 1)) + 1 from by omega, List.range_succ_eq_map, List.all_cons, List.all_map]
  congr 1
  apply congrArg
  funext j
  simp only [Function.comp_apply, Nat.succ_eq_add_one]
  rw [show i + (j + 1) = i + 1 + j from by omega]

theorem nm_loop (s : ByteArray) (hs : s.size ≤ 8) (d : Nat) : ∀ (i : Nat) (k : Nat), i ≤ s.size → s.size - i = d → d < k →
    spec_l1NameOk.l0 k s (i : Int) = some (tailOk s i) ∧ impl_name.l0 k s (i : Int) = some (tailOk s i) := by
  induction d with
  | zero =>
    intro i k hi hd hk
    obtain ⟨k, rfl⟩ : ∃ m, k = m + 1 := ⟨k - 1, by omega⟩
    rw [tailOk_end s i (by omega)]
    simp only [spec_l1NameOk.l0, impl_name.l0]
    exact ⟨by rw [if_neg (by omega)], by rw [if_neg (by omega)]⟩
  | succ d ih =>
    intro i k hi hd hk
    obtain ⟨k, rfl⟩ : ∃ m, k = m + 1 := ⟨k - 1, by omega⟩
    obtain ⟨h1, h2⟩ := ih (i + 1) k (by omega) (by omega) (by omega)
    rw [tailOk_step s i (by omega)]
    simp only [spec_l1NameOk.l0, impl_name.l0]
    rw [show wrap64 ((i : Int) + 1) = ((i + 1 : Nat) : Int) from by rw [wrap_id (by omega) (by omega)]; omega, h1, h2]
    have key : ∀ (x : Int) (b : Bool), (if x ≥ 97 then (if x ≤ 122 then (some b) else (if x ≥ 48 then (if x ≤ 57 then (some b) else (if (x = 45) then (some b) else (some false))) else (if (x = 45) then (some b) else (some false)))) else (if x ≥ 48 then (if x ≤ 57 then (some b) else (if (x = 45) then (some b) else (some false))) else (if (x = 45) then (some b) else (some false)))) = some (byteOk x && b) := by
      intro x b
      unfold byteOk
      by_cases a1 : 97 ≤ x <;> by_cases a2 : x ≤ 122 <;> by_cases a3 : 48 ≤ x <;> by_cases a4 : x ≤ 57 <;> by_cases a5 : x = 45 <;> simp [a1, a2, a3, a4, a5] <;> omega
    exact ⟨by rw [if_pos (by omega), if_pos (by omega)]; exact key _ _, by rw [if_pos (by omega), if_pos (by omega)]; exact key _ _⟩
theorem spec_nm (s : ByteArray) (k : Nat) : spec_l1NameOk.f (k + 9) s = some (nmOk s) := by
  unfold spec_l1NameOk.f nmOk
  rw [spec_in, Option.bind_some]
  by_cases h : inB (s.size : Int) 1 8 = true
  · rw [if_pos h, h]
    have := inB_iff.1 h
    exact (nm_loop s (by omega) s.size 0 (k + 9) (by omega) (by omega) (by omega)).1
  · rw [if_neg h, Bool.eq_false_iff.2 h]; rfl
theorem impl_nm (s : ByteArray) (k : Nat) : impl_name.f (k + 9) s = some (nmOk s) := by
  unfold impl_name.f nmOk
  rw [impl_in', Option.bind_some]
  by_cases h : inB (s.size : Int) 1 8 = true
  · rw [if_pos h, h]
    have := inB_iff.1 h
    exact (nm_loop s (by omega) s.size 0 (k + 9) (by omega) (by omega) (by omega)).2
  · rw [if_neg h, Bool.eq_false_iff.2 h]; rfl

/-! ### Phases -/
def argsOk (x : S39) : Bool :=
  if x.f1 = 1 then nmOk x.f2 && nmOk x.f3 && inB x.f4 1 1000 else
  if x.f1 = 2 then nmOk x.f2 && nmOk x.f3 && (x.f2.toList != x.f3.toList) && inB x.f4 1 1000 else
  if x.f1 = 3 then nmOk x.f2 && decide (x.f3.toList = []) && inB x.f4 1 x.f5 else
  if x.f1 = 4 ∨ x.f1 = 5 then nmOk x.f2 && decide (x.f3.toList = []) && (x.f4 == 0) else false
def phOk (x : S39) : Bool := nmOk x.f0 && (endOf x.f0 == 0) && inB x.f5 1 1000 && argsOk x && nmOk x.f6 && nmOk x.f7

theorem spec_args (x : S39) (k : Nat) : spec_l1ArgsOk.f (k + 9) x.f0 x.f1 x.f2 x.f3 x.f4 x.f5 x.f6 x.f7 = some (argsOk x) := by
  unfold spec_l1ArgsOk.f argsOk
  simp only [spec_nm, spec_in, Option.bind_some]
  by_cases c1 : x.f1 = 1
  · rw [if_pos c1, if_pos c1]
    cases nmOk x.f2 <;> cases nmOk x.f3 <;> simp
  · rw [if_neg c1, if_neg c1]
    by_cases c2 : x.f1 = 2
    · rw [if_pos c2, if_pos c2]
      cases nmOk x.f2 <;> cases nmOk x.f3 <;> simp
      by_cases e : x.f2.toList = x.f3.toList <;> simp [e]
    · rw [if_neg c2, if_neg c2]
      by_cases c3 : x.f1 = 3
      · rw [if_pos c3, if_pos c3]
        cases nmOk x.f2 <;> simp
        by_cases e : x.f3.toList = [] <;> simp [e]
      · rw [if_neg c3, if_neg c3]
        by_cases c4 : x.f1 = 4
        · rw [if_pos c4, if_pos (Or.inl c4)]
          cases nmOk x.f2 <;> simp
          by_cases e : x.f3.toList = [] <;> simp [e]
        · rw [if_neg c4]
          by_cases c5 : x.f1 = 5
          · rw [if_pos c5, if_pos (Or.inr c5)]
            cases nmOk x.f2 <;> simp
            by_cases e : x.f3.toList = [] <;> simp [e]
          · rw [if_neg c5, if_neg (by omega)]
theorem spec_ph (x : S39) (k : Nat) : spec_RecPhaseOk.f (k + 9) x.f0 x.f1 x.f2 x.f3 x.f4 x.f5 x.f6 x.f7 = some (phOk x) := by
  unfold spec_RecPhaseOk.f phOk spec_l1PlainOk.f
  simp only [spec_nm, spec_in, spec_args, spec_end, Option.bind_some]
  generalize (endOf x.f0 == 0) = b
  cases nmOk x.f0 <;> cases b <;> cases inB x.f5 1 1000 <;> cases argsOk x <;> cases nmOk x.f6 <;> simp
theorem impl_j1 (x : S39) (c : Int) (b : Bool) (k : Nat) (hc : c = x.f1) (hb : b = (decide (x.f1 = 1) || decide (x.f1 = 2))) (hA : nmOk x.f2 = true) :
    impl_RecPhaseOk.j1 (k + 10) c b x.f0 x.f1 x.f2 x.f3 x.f4 x.f5 x.f6 x.f7 = some (argsOk x) := by
  subst hc
  simp only [impl_RecPhaseOk.j1]
  unfold argsOk
  simp only [impl_nm, impl_in', Option.bind_some, hA, Bool.true_and]
  by_cases c1 : x.f1 = 1
  · have : b = true := by rw [hb]; simp [c1]
    subst this
    cases nmOk x.f3 <;> cases inB x.f4 1 1000 <;> simp [c1]
  · by_cases c2 : x.f1 = 2
    · have : b = true := by rw [hb]; simp [c2]
      subst this
      cases nmOk x.f3 <;> cases inB x.f4 1 1000 <;> simp [c2]
    · have : b = false := by rw [hb]; simp [c1, c2]
      subst this
      by_cases c3 : x.f1 = 3
      · by_cases e : x.f3.toList = [] <;> simp [e, c3]
      · by_cases c4 : x.f1 = 4
        · by_cases e : x.f3.toList = [] <;> simp [e, c4]
        · by_cases c5 : x.f1 = 5
          · by_cases e : x.f3.toList = [] <;> simp [e, c5]
          · simp [c1, c2, c3, c4, c5]
theorem impl_j0F (x : S39) (k : Nat) : impl_RecPhaseOk.j0 (k + 1) true x.f0 x.f1 x.f2 x.f3 x.f4 x.f5 x.f6 x.f7 = some false := by
  simp [impl_RecPhaseOk.j0]
theorem impl_j0T (x : S39) (k : Nat) (hA : nmOk x.f2 = true) : impl_RecPhaseOk.j0 (k + 11) false x.f0 x.f1 x.f2 x.f3 x.f4 x.f5 x.f6 x.f7 = some (argsOk x) := by
  simp only [impl_RecPhaseOk.j0]
  rw [if_neg (by decide)]
  by_cases c1 : x.f1 = 1
  · rw [if_pos c1]
    exact impl_j1 x _ _ k rfl (by simp [c1]) hA
  · rw [if_neg c1]
    exact impl_j1 x _ _ k rfl (by rw [show decide (x.f1 = 1) = false from decide_eq_false c1]; rfl) hA
theorem argsOk_A (x : S39) (h : nmOk x.f2 = false) : argsOk x = false := by
  unfold argsOk; simp [h]
theorem impl_ph (x : S39) (k : Nat) : impl_RecPhaseOk.f (k + 11) x.f0 x.f1 x.f2 x.f3 x.f4 x.f5 x.f6 x.f7 = some (phOk x) := by
  unfold impl_RecPhaseOk.f phOk
  have e0 : ∀ s, impl_name.f (k + 11) s = some (nmOk s) := fun s => impl_nm s (k + 2)
  have e1 : impl_RecEnd.f (k + 11) x.f0 = some (endOf x.f0) := impl_end _ (k + 7)
  simp only [e0, e1, impl_in', Option.bind_some, impl_j0F x (k + 10)]
  cases h0 : nmOk x.f0
  · simp
  · rw [if_pos rfl]
    have hr := endOf_range x.f0
    by_cases he : endOf x.f0 > 0
    · rw [if_pos he, show (endOf x.f0 == 0) = false from beq_eq_false_iff_ne.2 (by omega)]; simp
    · rw [if_neg he, show (endOf x.f0 == 0) = true from beq_iff_eq.2 (by omega)]
      cases inB x.f5 1 1000
      · simp
      · rw [if_pos rfl]
        cases h2 : nmOk x.f2
        · rw [argsOk_A x h2]; simp
        · rw [if_pos rfl]
          cases h6 : nmOk x.f6
          · simp
          · rw [if_pos rfl]
            cases h7 : nmOk x.f7
            · simp [impl_j0F x (k + 10)]
            · simp [impl_j0T x k h2]

end Go.Proofs.Ytdkologncoofdaa.P
-- Q3
namespace Go.Proofs.Ytdkologncoofdaa.P
open Go.RowKit Go.Proofs.YtdkologncoofdaaW.PrintWords Go.Proofs.YtdkologncoofdaaW.PrintLast
set_option linter.unusedVariables false
set_option linter.unusedSimpArgs false

/-! ### Places -/
/-- The first place from i on of a phase of this name. -/
theorem atOf_range (l : List S39) (a : ByteArray) : -1 ≤ atOf l a ∧ atOf l a < (l.length : Int) := by
  unfold atOf
  cases h : l.findIdx? (fun p => p.f0.toList == a.toList) with
  | none => simp only; omega
  | some i =>
    obtain ⟨hlt, _⟩ := List.findIdx?_eq_some_iff_getElem.1 h
    simp only
    omega
theorem atOf_name (l : List S39) (a : ByteArray) (h : 0 ≤ atOf l a) : (rd_T39 l (atOf l a)).f0.toList = a.toList := by
  unfold atOf at h ⊢
  cases e : l.findIdx? (fun p => p.f0.toList == a.toList) with
  | none => rw [e] at h; simp at h
  | some i =>
    obtain ⟨hlt, h1, _⟩ := List.findIdx?_eq_some_iff_getElem.1 e
    simp only [rd_T39, Int.toNat_natCast]
    rw [List.getD_eq_getElem?_getD, List.getElem?_eq_getElem hlt]
    simpa using h1
theorem atOf_not (l : List S39) (a : ByteArray) (h : atOf l a < 0) (j : Nat) (hj : j < l.length) : (l.getD j z39).f0.toList ≠ a.toList := by
  unfold atOf at h
  cases e : l.findIdx? (fun p => p.f0.toList == a.toList) with
  | some i => rw [e] at h; simp only at h; omega
  | none =>
    have h2 := List.findIdx?_eq_none_iff.1 e (l.getD j z39) (by rw [List.getD_eq_getElem?_getD, List.getElem?_eq_getElem hj]; exact List.getElem_mem hj)
    simpa using h2
theorem at_loop (l : List S39) (a : ByteArray) (hl : l.length ≤ 9223372036854775807) (d : Nat) : ∀ (i k : Nat), i ≤ l.length → l.length - i = d → d < k →
    (∀ j, j < i → ((l.getD j z39).f0.toList == a.toList) = false) → spec_l2At.l0 k l a (i : Int) = some (atOf l a) := by
  induction d with
  | zero =>
    intro i k hi hd hk hb
    obtain ⟨k, rfl⟩ : ∃ m, k = m + 1 := ⟨k - 1, by omega⟩
    simp only [spec_l2At.l0]
    rw [if_neg (by omega), atOf_miss l a (fun j hj => hb j (by omega))]
  | succ d ih =>
    intro i k hi hd hk hb
    obtain ⟨k, rfl⟩ : ∃ m, k = m + 1 := ⟨k - 1, by omega⟩
    simp only [spec_l2At.l0]
    have e : rd_T39 l (i : Int) = l.getD i z39 := by simp [rd_T39]
    rw [if_pos (by omega), if_pos (by omega), e]
    by_cases h : (l.getD i z39).f0.toList = a.toList
    · rw [if_pos h, atOf_hit l a i (by omega) (by simpa using h) hb]
    · rw [if_neg h, show wrap64 ((i : Int) + 1) = ((i + 1 : Nat) : Int) from by rw [wrap_id (by omega) (by omega)]; omega]
      refine ih (i + 1) k (by omega) (by omega) (by omega) (fun j hj => ?_)
      by_cases e2 : j = i
      · subst e2; simpa using h
      · exact hb j (by omega)
theorem spec_at (l : List S39) (a : ByteArray) (hl : l.length ≤ 9223372036854775807) (k : Nat) (hk : l.length < k) : spec_l2At.f k l a = some (atOf l a) :=
  at_loop l a hl l.length 0 k (by omega) (by omega) hk (fun j hj => absurd hj (Nat.not_lt_zero _))

/-! ### Recipes -/
def refOk (l : List S39) (i : Int) (n : ByteArray) : Bool := !(endOf n == 0) || decide (i < atOf l n)
def okAt (l : List S39) (i : Nat) : Bool := phOk (rd_T39 l i) && (atOf l (rd_T39 l i).f0 == (i : Int)) && refOk l i (rd_T39 l i).f6 && refOk l i (rd_T39 l i).f7
def restOk (l : List S39) (i : Nat) : Bool := (List.range (l.length - i)).all fun j => okAt l (i + j)
def recOk (l : List S39) : Bool := inB (l.length : Int) 1 12 && restOk l 0
theorem restOk_end (l : List S39) (i : Nat) (h : l.length ≤ i) : restOk l i = true := by
  unfold restOk; rw [show l.length - i = 0 from by omega]; rfl
theorem restOk_step (l : List S39) (i : Nat) (h : i < l.length) : restOk l i = (okAt l i && restOk l (i + 1)) := by
  unfold restOk
  rw [show l.length - i = (l.length - (i + 1)) + 1 from by omega, List.range_succ_eq_map, List.all_cons, List.all_map]
  congr 1
  apply congrArg
  funext j
  simp only [Function.comp_apply, Nat.succ_eq_add_one]
  rw [show i + (j + 1) = i + 1 + j from by omega]
theorem recOk_at (l : List S39) (h : recOk l = true) (i : Nat) (hi : i < l.length) : okAt l i = true := by
  unfold recOk restOk at h
  simp only [Bool.and_eq_true, List.all_eq_true] at h
  have := h.2 i (List.mem_range.2 (by omega))
  simpa using this
theorem recOk_len (l : List S39) (h : recOk l = true) : 1 ≤ l.length ∧ l.length ≤ 12 := by
  unfold recOk at h
  simp only [Bool.and_eq_true, inB_iff] at h
  omega

theorem spec_ok_loop (l : List S39) (hl : l.length ≤ 12) (d : Nat) : ∀ (i k : Nat), i ≤ l.length → l.length - i = d → 2 * d + 20 ≤ k → spec_RecOk.l0 k l (i : Int) = some (restOk l i) := by
  induction d with
  | zero =>
    intro i k hi hd hk
    obtain ⟨k, rfl⟩ : ∃ m, k = m + 1 := ⟨k - 1, by omega⟩
    simp only [spec_RecOk.l0]
    rw [if_neg (by omega), restOk_end l i (by omega)]
  | succ d ih =>
    intro i k hi hd hk
    obtain ⟨k, rfl⟩ : ∃ m, k = m + 2 := ⟨k - 2, by omega⟩
    have hi' := ih (i + 1) k (by omega) (by omega) (by omega)
    have hw : wrap64 ((i : Int) + 1) = ((i + 1 : Nat) : Int) := by rw [wrap_id (by omega) (by omega)]; omega
    have hph : spec_RecPhaseOk.f (k + 1) (rd_T39 l i).f0 (rd_T39 l i).f1 (rd_T39 l i).f2 (rd_T39 l i).f3 (rd_T39 l i).f4 (rd_T39 l i).f5 (rd_T39 l i).f6 (rd_T39 l i).f7 = some (phOk (rd_T39 l i)) := by
      obtain ⟨m, hm⟩ : ∃ m, k + 1 = m + 9 := ⟨k - 8, by omega⟩
      rw [hm]; exact spec_ph _ m
    have hat : ∀ n, spec_l2At.f (k + 1) l n = some (atOf l n) := fun n => spec_at l n (by omega) _ (by omega)
    have hat' : ∀ n, spec_l2At.f k l n = some (atOf l n) := fun n => spec_at l n (by omega) _ (by omega)
    simp only [spec_RecOk.l0]
    rw [if_pos (by omega), if_pos (by omega), hph, Option.bind_some, hat, Option.bind_some, restOk_step l i (by omega)]
    unfold okAt
    cases h1 : phOk (rd_T39 l i)
    · rw [if_neg (by decide)]
      simp [spec_RecOk.j1]
    · rw [if_pos rfl]
      simp only [spec_RecOk.j1]
      by_cases h2 : atOf l (rd_T39 l i).f0 = (i : Int)
      · rw [if_neg (by simp [h2]), if_pos (by omega), if_pos (by omega), spec_end, Option.bind_some, spec_end, Option.bind_some, hat', hat', Option.bind_some, Option.bind_some, hw, hi']
        unfold refOk
        rw [show (atOf l (rd_T39 l i).f0 == (i : Int)) = true from beq_iff_eq.2 h2]
        by_cases e6 : endOf (rd_T39 l i).f6 = 0 <;> by_cases e7 : endOf (rd_T39 l i).f7 = 0 <;> by_cases a6 : atOf l (rd_T39 l i).f6 ≤ (i : Int) <;> by_cases a7 : atOf l (rd_T39 l i).f7 ≤ (i : Int) <;>
          simp [e6, e7, a6, a7, show (decide ((i : Int) < atOf l (rd_T39 l i).f6)) = !(decide (atOf l (rd_T39 l i).f6 ≤ (i : Int))) from by simp [← decide_not, Int.not_le], show (decide ((i : Int) < atOf l (rd_T39 l i).f7)) = !(decide (atOf l (rd_T39 l i).f7 ≤ (i : Int))) from by simp [← decide_not, Int.not_le]]
      · rw [if_pos (by simpa using h2), show (atOf l (rd_T39 l i).f0 == (i : Int)) = false from beq_eq_false_iff_ne.2 h2]
        simp
theorem spec_ok (l : List S39) (k : Nat) (hk : 44 ≤ k) : spec_RecOk.f k l = some (recOk l) := by
  unfold spec_RecOk.f recOk
  rw [spec_in, Option.bind_some]
  by_cases h : inB (l.length : Int) 1 12 = true
  · rw [if_pos h, h]
    have := inB_iff.1 h
    exact spec_ok_loop l (by omega) l.length 0 k (by omega) (by omega) (by omega)
  · rw [if_neg h, Bool.eq_false_iff.2 h]; rfl

/-- What stands behind a pair of names. -/
theorem impl_pair (l : List S39) (i : Nat) (x12 : Int) (k : Nat) (hk : 10 ≤ k) (n6 n7 : ByteArray) (r : Bool) (h0 : impl_RecOk.l0 k l l x12 (wrap64 ((i : Int) + 1)) = some r) :
    impl_RecOk.l1 (k + 3) l i l x12 i [n6, n7] 2 0 = some (refOk l i n6 && (refOk l i n7 && r)) := by
  have he : ∀ n m, 4 ≤ m → impl_RecEnd.f m n = some (endOf n) := fun n m hm => by
    obtain ⟨q, rfl⟩ : ∃ q, m = q + 4 := ⟨m - 4, by omega⟩
    exact impl_end n q
  have w1 : wrap64 (0 + 1) = 1 := wrap_id (by omega) (by omega)
  have w2 : wrap64 (1 + 1) = 2 := wrap_id (by omega) (by omega)
  have e0 : rdOf ByteArray.empty [n6, n7] 0 = n6 := rfl
  have e1 : rdOf ByteArray.empty [n6, n7] 1 = n7 := rfl
  simp only [impl_RecOk.l1, impl_at.f, w1, w2, e0, e1, List.length_cons, List.length_nil, he n6 (k + 2) (by omega), he n7 (k + 1) (by omega), Option.bind_some, h0]
  unfold refOk
  by_cases e6 : endOf n6 = 0 <;> by_cases e7 : endOf n7 = 0 <;> by_cases a6 : atOf l n6 ≤ (i : Int) <;> by_cases a7 : atOf l n7 ≤ (i : Int) <;>
    simp [show (endOf n6 == 0) = decide (endOf n6 = 0) from rfl, show (endOf n7 == 0) = decide (endOf n7 = 0) from rfl, e6, e7, a6, a7, show (decide ((i : Int) < atOf l n6)) = !(decide (atOf l n6 ≤ (i : Int))) from by simp [← decide_not, Int.not_le], show (decide ((i : Int) < atOf l n7)) = !(decide (atOf l n7 ≤ (i : Int))) from by simp [← decide_not, Int.not_le]]
theorem impl_ok_loop (l : List S39) (hl : l.length ≤ 12) (d : Nat) : ∀ (i k : Nat), i ≤ l.length → l.length - i = d → 5 * d + 20 ≤ k → impl_RecOk.l0 k l l (l.length : Int) (i : Int) = some (restOk l i) := by
  induction d with
  | zero =>
    intro i k hi hd hk
    obtain ⟨k, rfl⟩ : ∃ m, k = m + 1 := ⟨k - 1, by omega⟩
    simp only [impl_RecOk.l0]
    rw [if_neg (by omega), restOk_end l i (by omega)]
  | succ d ih =>
    intro i k hi hd hk
    obtain ⟨k, rfl⟩ : ∃ m, k = m + 5 := ⟨k - 5, by omega⟩
    have hi' := ih (i + 1) k (by omega) (by omega) (by omega)
    have hw : wrap64 ((i : Int) + 1) = ((i + 1 : Nat) : Int) := by rw [wrap_id (by omega) (by omega)]; omega
    have hph : impl_RecPhaseOk.f (k + 4) (rd_T39 l i).f0 (rd_T39 l i).f1 (rd_T39 l i).f2 (rd_T39 l i).f3 (rd_T39 l i).f4 (rd_T39 l i).f5 (rd_T39 l i).f6 (rd_T39 l i).f7 = some (phOk (rd_T39 l i)) := by
      obtain ⟨m, hm⟩ : ∃ m, k + 4 = m + 11 := ⟨k - 7, by omega⟩
      rw [hm]; exact impl_ph _ m
    have hp := impl_pair l i (l.length : Int) k (by omega) (rd_T39 l i).f6 (rd_T39 l i).f7 (restOk l (i + 1)) (by rw [hw]; exact hi')
    simp only [impl_RecOk.l0]
    rw [if_pos (by omega), if_pos (by omega), if_pos (by omega), hph, Option.bind_some, restOk_step l i (by omega)]
    unfold okAt
    cases h1 : phOk (rd_T39 l i)
    · rw [if_neg (by decide)]
      simp [impl_RecOk.j1]
    · rw [if_pos rfl]
      simp only [impl_RecOk.j1, impl_at.f, Option.bind_some]
      by_cases h2 : atOf l (rd_T39 l i).f0 = (i : Int)
      · rw [if_neg (by simp [h2])]
        simp only [List.length_cons, List.length_nil]
        rw [show (((0 + 1 + 1 : Nat) : Int)) = 2 from rfl, hp, show (atOf l (rd_T39 l i).f0 == (i : Int)) = true from beq_iff_eq.2 h2]
        simp only [Bool.true_and, Bool.and_assoc]
      · rw [if_pos (by simpa using h2), show (atOf l (rd_T39 l i).f0 == (i : Int)) = false from beq_eq_false_iff_ne.2 h2]
        simp
theorem impl_ok (l : List S39) (k : Nat) (hk : 80 ≤ k) : impl_RecOk.f k l = some (recOk l) := by
  unfold impl_RecOk.f recOk
  rw [impl_in', Option.bind_some]
  by_cases h : inB (l.length : Int) 1 12 = true
  · rw [if_pos h, h]
    have := inB_iff.1 h
    exact impl_ok_loop l (by omega) l.length 0 k (by omega) (by omega) (by omega)
  · rw [if_neg h, Bool.eq_false_iff.2 h]; rfl

end Go.Proofs.Ytdkologncoofdaa.P
-- Q4
namespace Go.Proofs.Ytdkologncoofdaa.P
open Go.RowKit Go.Proofs.YtdkologncoofdaaW.PrintWords Go.Proofs.YtdkologncoofdaaW.PrintLast
set_option linter.unusedVariables false
set_option linter.unusedSimpArgs false

/-! ### Arguments measured, copied, compared -/
theorem sz_some (x : S48) (n : Int) : ∃ r, laws_szRecPhase.f x.f0 x.f1 x.f2 x.f3 x.f4 x.f5 x.f6 x.f7 n = some r := by
  unfold laws_szRecPhase.f
  repeat' split
  all_goals exact ⟨_, rfl⟩

theorem szS_loop (l : List S48) (hl : l.length ≤ 1048576) (d : Nat) : ∀ (i k : Nat) (n : Int), i ≤ l.length → l.length - i = d → d < k → ∃ r, laws_szRecPhaseS.l0 k l n (i : Int) = some r := by
  induction d with
  | zero =>
    intro i k n hi hd hk
    obtain ⟨k, rfl⟩ : ∃ m, k = m + 1 := ⟨k - 1, by omega⟩
    simp only [laws_szRecPhaseS.l0]
    rw [if_neg (by omega)]
    exact ⟨_, rfl⟩
  | succ d ih =>
    intro i k n hi hd hk
    obtain ⟨k, rfl⟩ : ∃ m, k = m + 1 := ⟨k - 1, by omega⟩
    simp only [laws_szRecPhaseS.l0]
    rw [if_pos (by omega), if_pos (by omega)]
    obtain ⟨r, hr⟩ := sz_some (rd_T48 l i) n
    rw [hr, Option.bind_some, show wrap64 ((i : Int) + 1) = ((i + 1 : Nat) : Int) from by rw [wrap_id (by omega) (by omega)]; omega]
    by_cases h : r < 0
    · rw [if_pos h]; exact ⟨_, rfl⟩
    · rw [if_neg h]; exact ih (i + 1) k r (by omega) (by omega) (by omega)
/-- The arguments' size: an answer; and if it is none of a refusal, the slice is short. -/
theorem szS (l : List S48) (hl : l.length ≤ 9223372036854775807) (k : Nat) (hk : 1048577 < k) : ∃ r, laws_szRecPhaseS.f k l 1048576 = some r ∧ (¬ r < 0 → l.length ≤ 1048576) := by
  unfold laws_szRecPhaseS.f
  rw [wrap_id (by omega) (by omega)]
  by_cases h : 1048576 - (l.length : Int) < 0
  · rw [if_pos h]; exact ⟨-1, rfl, fun h2 => absurd (show (-1 : Int) < 0 by omega) h2⟩
  · rw [if_neg h]
    obtain ⟨r, hr⟩ := szS_loop l (by omega) l.length 0 k (1048576 - (l.length : Int)) (by omega) (by omega) (by omega)
    exact ⟨r, hr, fun _ => by omega⟩
def to39 (x : S48) : S39 := ⟨x.f0, x.f1, x.f2, x.f3, x.f4, x.f5, x.f6, x.f7⟩
theorem toS_loop (l : List S48) (hl : l.length ≤ 1048576) (d : Nat) : ∀ (i k : Nat) (acc : List S39), i ≤ l.length → l.length - i = d → d < k → acc.length = l.length → acc.take i = (l.map to39).take i →
    laws_toRecPhaseS.l0 k l acc (i : Int) = some (l.map to39) := by
  induction d with
  | zero =>
    intro i k acc hi hd hk ha ht
    obtain ⟨k, rfl⟩ : ∃ m, k = m + 1 := ⟨k - 1, by omega⟩
    simp only [laws_toRecPhaseS.l0]
    rw [if_neg (by omega)]
    rw [List.take_of_length_le (by omega), List.take_of_length_le (by rw [List.length_map]; omega)] at ht
    rw [ht]
  | succ d ih =>
    intro i k acc hi hd hk ha ht
    obtain ⟨k, rfl⟩ : ∃ m, k = m + 1 := ⟨k - 1, by omega⟩
    simp only [laws_toRecPhaseS.l0, laws_toRecPhase.f, Option.bind_some]
    rw [if_pos (by omega), if_pos (by omega), if_pos (by omega), show wrap64 ((i : Int) + 1) = ((i + 1 : Nat) : Int) from by rw [wrap_id (by omega) (by omega)]; omega, Int.toNat_natCast]
    refine ih (i + 1) k _ (by omega) (by omega) (by omega) (by rw [List.length_set]; exact ha) ?_
    have hil : i < l.length := by omega
    have e : rd_T48 l (i : Int) = l[i] := by simp [rd_T48, List.getD_eq_getElem?_getD, List.getElem?_eq_getElem hil]
    rw [e, List.take_succ_eq_append_getElem (by rw [List.length_set]; omega), List.take_succ_eq_append_getElem (by rw [List.length_map]; omega), List.take_set_of_le (by omega), ht]
    simp [to39]
theorem toS (l : List S48) (hl : l.length ≤ 1048576) (k : Nat) (hk : 1048577 < k) : laws_toRecPhaseS.f k l = some (l.map to39) := by
  unfold laws_toRecPhaseS.f
  rw [if_pos (by omega), Int.toNat_natCast, if_pos (by omega)]
  exact toS_loop l hl l.length 0 k _ (by omega) (by omega) (by omega) (by simp) (by simp)
theorem eqP_self (x : S39) : laws_eqRecPhase.f x.f0 x.f1 x.f2 x.f3 x.f4 x.f5 x.f6 x.f7 x.f0 x.f1 x.f2 x.f3 x.f4 x.f5 x.f6 x.f7 = some true := by
  unfold laws_eqRecPhase.f
  simp
theorem eqS_loop (l : List S39) (hl : l.length ≤ 1048576) (d : Nat) : ∀ (i k : Nat), i ≤ l.length → l.length - i = d → d < k → laws_eqRecPhaseS.l0 k l l (i : Int) = some true := by
  induction d with
  | zero =>
    intro i k hi hd hk
    obtain ⟨k, rfl⟩ : ∃ m, k = m + 1 := ⟨k - 1, by omega⟩
    simp only [laws_eqRecPhaseS.l0]
    rw [if_neg (by omega)]
  | succ d ih =>
    intro i k hi hd hk
    obtain ⟨k, rfl⟩ : ∃ m, k = m + 1 := ⟨k - 1, by omega⟩
    simp only [laws_eqRecPhaseS.l0]
    rw [if_pos (by omega), if_pos (by omega), if_pos (by omega), eqP_self, Option.bind_some, if_pos rfl, show wrap64 ((i : Int) + 1) = ((i + 1 : Nat) : Int) from by rw [wrap_id (by omega) (by omega)]; omega]
    exact ih (i + 1) k (by omega) (by omega) (by omega)
theorem eqS (l : List S39) (hl : l.length ≤ 1048576) (k : Nat) (hk : 1048577 < k) : laws_eqRecPhaseS.f k l l = some true := by
  unfold laws_eqRecPhaseS.f
  rw [if_pos rfl]
  exact eqS_loop l hl l.length 0 k (by omega) (by omega) (by omega)

/-! ### The bound -/
/-- How many steps there may be from here. -/
def rk (l : List S39) (a : ByteArray) : Nat := (if atOf l a < 0 then 0 else (l.length : Int) - atOf l a).toNat
def bnd (l : List S39) : Nat → ByteArray → Int
  | 0, _ => 0
  | n + 1, a => if atOf l a < 0 then 0 else (rd_T39 l (atOf l a)).f5 + max (bnd l n (rd_T39 l (atOf l a)).f6) (bnd l n (rd_T39 l (atOf l a)).f7)
/-- RecBound of a recipe that is ok. -/
def boundOf (l : List S39) (a : ByteArray) : Int := bnd l 13 a
theorem end_no (l : List S39) (h : recOk l = true) (a : ByteArray) (ha : ¬ endOf a = 0) : atOf l a < 0 := by
  rcases Int.lt_or_le (atOf l a) 0 with h0 | h0
  · exact h0
  · have hr := atOf_range l a
    obtain ⟨i, hi⟩ := Int.eq_ofNat_of_zero_le h0
    have hn := atOf_name l a h0
    have hok := recOk_at l h i (by omega)
    unfold okAt phOk at hok
    simp only [Bool.and_eq_true, beq_iff_eq] at hok
    have e : endOf (rd_T39 l (atOf l a)).f0 = endOf a := by unfold endOf; rw [hn]
    rw [hi] at e
    omega
theorem ok_ref (l : List S39) (h : recOk l = true) (a : ByteArray) (h0 : ¬ atOf l a < 0) :
    rk l (rd_T39 l (atOf l a)).f6 < rk l a ∧ rk l (rd_T39 l (atOf l a)).f7 < rk l a ∧ 1 ≤ (rd_T39 l (atOf l a)).f5 ∧ (rd_T39 l (atOf l a)).f5 ≤ 1000 := by
  have hr := atOf_range l a
  obtain ⟨i, hi⟩ := Int.eq_ofNat_of_zero_le (show 0 ≤ atOf l a by omega)
  have hok := recOk_at l h i (by omega)
  unfold okAt at hok
  simp only [Bool.and_eq_true] at hok
  obtain ⟨⟨⟨h1, _⟩, h6⟩, h7⟩ := hok
  have key : ∀ n, refOk l (i : Int) n = true → rk l n < rk l a := by
    intro n hn
    have hrn := atOf_range l n
    unfold rk
    rw [if_neg h0]
    unfold refOk at hn
    simp only [Bool.or_eq_true, Bool.not_eq_true', beq_eq_false_iff_ne, decide_eq_true_eq] at hn
    rcases hn with hn | hn
    · rw [if_pos (end_no l h n hn)]; omega
    · rw [if_neg (by omega)]; omega
  rw [hi]
  refine ⟨key _ h6, key _ h7, ?_⟩
  unfold phOk at h1
  simp only [Bool.and_eq_true, inB_iff] at h1
  exact h1.1.1.1.2
theorem bnd_bound (l : List S39) (h : recOk l = true) (n : Nat) : ∀ a, 0 ≤ bnd l n a ∧ bnd l n a ≤ 1000 * (n : Int) := by
  induction n with
  | zero => intro a; simp [bnd]
  | succ n ih =>
    intro a
    simp only [bnd]
    by_cases h0 : atOf l a < 0
    · rw [if_pos h0]; omega
    · rw [if_neg h0]
      have hx := ok_ref l h a h0
      have h6 := ih (rd_T39 l (atOf l a)).f6
      have h7 := ih (rd_T39 l (atOf l a)).f7
      omega
theorem bnd_more (l : List S39) (h : recOk l = true) (n : Nat) : ∀ a m, rk l a < n → rk l a < m → bnd l n a = bnd l m a := by
  induction n with
  | zero => intro a m hn; omega
  | succ n ih =>
    intro a m hn hm
    obtain ⟨m, rfl⟩ : ∃ q, m = q + 1 := ⟨m - 1, by omega⟩
    simp only [bnd]
    by_cases h0 : atOf l a < 0
    · rw [if_pos h0, if_pos h0]
    · rw [if_neg h0, if_neg h0]
      have hx := ok_ref l h a h0
      rw [ih _ m (by omega) (by omega), ih (rd_T39 l (atOf l a)).f7 m (by omega) (by omega)]
theorem rk_le (l : List S39) (h : recOk l = true) (a : ByteArray) : rk l a ≤ 12 := by
  have := recOk_len l h
  unfold rk
  split <;> omega
theorem boundOf_step (l : List S39) (h : recOk l = true) (a : ByteArray) : boundOf l a = if atOf l a < 0 then 0 else (rd_T39 l (atOf l a)).f5 + max (boundOf l (rd_T39 l (atOf l a)).f6) (boundOf l (rd_T39 l (atOf l a)).f7) := by
  unfold boundOf
  rw [bnd_more l h 13 a 14 (by have := rk_le l h a; omega) (by have := rk_le l h a; omega)]
  rfl
theorem boundOf_range (l : List S39) (h : recOk l = true) (a : ByteArray) : 0 ≤ boundOf l a ∧ boundOf l a ≤ 13000 := by
  have := bnd_bound l h 13 a
  unfold boundOf
  omega
theorem mx_eq (a b : Int) : mx a b = max a b := by unfold mx; omega
theorem bound_both (l : List S39) (h : recOk l = true) (n : Nat) : ∀ a k, n ≤ 100 → rk l a < n → n + 14 ≤ k → impl_bound.f k l a = some (bnd l n a) ∧ spec_l2Bound.f k l a = some (bnd l n a) := by
  induction n with
  | zero => intro a k _ hn; omega
  | succ n ih =>
    intro a k hn1 hn hk
    obtain ⟨k, rfl⟩ : ∃ m, k = m + 1 := ⟨k - 1, by omega⟩
    have hlen := recOk_len l h
    have hr := atOf_range l a
    simp only [impl_bound.f, spec_l2Bound.f, impl_at.f, spec_at l a (by omega) k (by omega), Option.bind_some, bnd]
    by_cases h0 : atOf l a < 0
    · rw [if_pos h0, if_pos h0, if_pos h0]; exact ⟨rfl, rfl⟩
    · have hx := ok_ref l h a h0
      obtain ⟨a6, b6⟩ := ih (rd_T39 l (atOf l a)).f6 k (by omega) (by omega) (by omega)
      obtain ⟨a7, b7⟩ := ih (rd_T39 l (atOf l a)).f7 k (by omega) (by omega) (by omega)
      have r6 := bnd_bound l h n (rd_T39 l (atOf l a)).f6
      have r7 := bnd_bound l h n (rd_T39 l (atOf l a)).f7
      rw [if_neg h0, if_neg h0, if_neg h0, if_pos (by omega), if_pos (by omega), if_pos (by omega), if_pos (by omega), a6, a7, b6, b7]
      simp only [Option.bind_some]
      rw [mx_eq]
      refine ⟨by rw [wrap_id (by omega) (by omega)], ?_⟩
      by_cases hlt : bnd l n (rd_T39 l (atOf l a)).f6 < bnd l n (rd_T39 l (atOf l a)).f7
      · rw [if_pos hlt, wrap_id (by omega) (by omega), Int.max_eq_right (by omega), Int.add_comm]
      · rw [if_neg hlt, wrap_id (by omega) (by omega), Int.max_eq_left (by omega), Int.add_comm]
theorem impl_bd (l : List S39) (h : recOk l = true) (a : ByteArray) (k : Nat) (hk : 27 ≤ k) : impl_bound.f k l a = some (boundOf l a) := (bound_both l h 13 a k (by omega) (by have := rk_le l h a; omega) (by omega)).1
theorem spec_bd (l : List S39) (h : recOk l = true) (a : ByteArray) (k : Nat) (hk : 27 ≤ k) : spec_l2Bound.f k l a = some (boundOf l a) := (bound_both l h 13 a k (by omega) (by have := rk_le l h a; omega) (by omega)).2

end Go.Proofs.Ytdkologncoofdaa.P
-- Q6
namespace Go.Proofs.Ytdkologncoofdaa.P
open Go.RowKit Go.Proofs.YtdkologncoofdaaW.PrintWords Go.Proofs.YtdkologncoofdaaW.PrintLast
set_option linter.unusedVariables false
set_option linter.unusedSimpArgs false

/-- How long a phase takes, and whether it goes well. -/
def tickOf (p : S39) (t : Int) (w : Bool) : Int := if max t 0 > p.f5 then p.f5 else if w = true ∧ p.f1 = 3 then max (max t 0) p.f4 else max t 0
def wellOf (p : S39) (t : Int) (w : Bool) : Bool := if max t 0 > p.f5 then false else w
def nextOf (p : S39) (t : Int) (w : Bool) : ByteArray := if wellOf p t w = true then p.f6 else p.f7
def canGo (l : List S39) (a : ByteArray) (now : Int) : Bool := recOk l && !(decide (atOf l a < 0)) && inB now 0 12000
def goOf (l : List S39) (a : ByteArray) (now left : Int) (t : Int) (w : Bool) : ByteArray × Int × Int × Bool :=
  if canGo l a now = true then (nextOf (rd_T39 l (atOf l a)) t w, now + tickOf (rd_T39 l (atOf l a)) t w, boundOf l (nextOf (rd_T39 l (atOf l a)) t w), true) else (a, now, left, false)

theorem phase_of (l : List S39) (h : recOk l = true) (a : ByteArray) (h0 : ¬ atOf l a < 0) : phOk (rd_T39 l (atOf l a)) = true := by
  have hr := atOf_range l a
  obtain ⟨i, hi⟩ := Int.eq_ofNat_of_zero_le (show 0 ≤ atOf l a by omega)
  have hok := recOk_at l h i (by omega)
  unfold okAt at hok
  simp only [Bool.and_eq_true] at hok
  rw [hi]
  exact hok.1.1.1
theorem ph_within (p : S39) (h : phOk p = true) : 1 ≤ p.f5 ∧ p.f5 ≤ 1000 := by
  unfold phOk at h
  simp only [Bool.and_eq_true, inB_iff] at h
  exact h.1.1.1.2
theorem ph_hold (p : S39) (h : phOk p = true) (h3 : p.f1 = 3) : 1 ≤ p.f4 ∧ p.f4 ≤ p.f5 := by
  unfold phOk argsOk at h
  rw [if_neg (by omega), if_neg (by omega), if_pos h3] at h
  simp only [Bool.and_eq_true, inB_iff] at h
  exact h.1.1.2.2
theorem tick_range (p : S39) (h : phOk p = true) (t : Int) (w : Bool) : 0 ≤ tickOf p t w ∧ tickOf p t w ≤ p.f5 := by
  have := ph_within p h
  unfold tickOf
  split
  · omega
  · split
    · rename_i h3
      have := ph_hold p h h3.2
      omega
    · omega

theorem impl_go_j1 (l : List S39) (h : recOk l = true) (t : Int) (w : Bool) (a : ByteArray) (now left : Int) (p : S39) (k : Nat) (hk : 28 ≤ k) (hp : phOk p = true) (ht : 0 ≤ t ∧ t ≤ 1000) (hn : 0 ≤ now ∧ now ≤ 12000) :
    impl_RecGo.j1 k l t w a now left p.f0 p.f1 p.f2 p.f3 p.f4 p.f5 p.f6 p.f7 = some (if w = true then p.f6 else p.f7, now + (if w = true ∧ p.f1 = 3 then max t p.f4 else t), boundOf l (if w = true then p.f6 else p.f7), true) := by
  obtain ⟨k, rfl⟩ : ∃ m, k = m + 1 := ⟨k - 1, by omega⟩
  simp only [impl_RecGo.j1, impl_bd l h _ k (by omega), Option.bind_some]
  cases w
  · rw [if_neg (by decide), if_neg (by decide), if_neg (by simp), wrap_id (by omega) (by omega)]
  · by_cases h3 : p.f1 = 3
    · have := ph_hold p hp h3
      have := ph_within p hp
      rw [if_pos rfl, if_pos h3, if_pos rfl, if_pos ⟨rfl, h3⟩, mx_eq, wrap_id (by omega) (by omega)]
    · rw [if_pos rfl, if_neg h3, if_pos rfl, if_neg (fun z => h3 z.2), wrap_id (by omega) (by omega)]
theorem impl_go_j0 (l : List S39) (h : recOk l = true) (t : Int) (w : Bool) (a : ByteArray) (now left : Int) (k : Nat) (hk : 29 ≤ k) (h0 : ¬ atOf l a < 0) (hn : 0 ≤ now ∧ now ≤ 12000) :
    impl_RecGo.j0 k l false a now left t w = some (nextOf (rd_T39 l (atOf l a)) t w, now + tickOf (rd_T39 l (atOf l a)) t w, boundOf l (nextOf (rd_T39 l (atOf l a)) t w), true) := by
  obtain ⟨k, rfl⟩ : ∃ m, k = m + 1 := ⟨k - 1, by omega⟩
  have hp := phase_of l h a h0
  have hr := atOf_range l a
  have hw := ph_within _ hp
  simp only [impl_RecGo.j0, impl_at.f, Option.bind_some, mx_eq]
  rw [if_neg (by decide), if_pos (by omega), if_pos (by omega)]
  unfold nextOf wellOf tickOf
  by_cases c : max t 0 > (rd_T39 l (atOf l a)).f5
  · rw [if_pos c, if_pos c, if_pos c, impl_go_j1 l h _ _ a now left _ k (by omega) hp (by omega) hn]
    simp
  · rw [if_neg c, if_neg c, if_neg c, impl_go_j1 l h _ _ a now left _ k (by omega) hp (by omega) hn]
theorem impl_go (l : List S39) (a : ByteArray) (now left : Int) (t : Int) (w : Bool) (k : Nat) (hk : 80 ≤ k) : impl_RecGo.f k l a now left t w = some (goOf l a now left t w) := by
  have hj : impl_RecGo.j0 k l true a now left t w = some (a, now, left, false) := by
    obtain ⟨k, rfl⟩ : ∃ m, k = m + 1 := ⟨k - 1, by omega⟩
    simp [impl_RecGo.j0]
  unfold impl_RecGo.f goOf canGo
  rw [impl_ok l k (by omega), Option.bind_some]
  cases h : recOk l
  · rw [if_neg (by decide), hj]; simp
  · rw [if_pos rfl]
    simp only [impl_at.f, Option.bind_some, impl_in']
    by_cases h0 : atOf l a < 0
    · rw [if_pos h0, hj]; simp [h0]
    · rw [if_neg h0]
      cases hn : inB now 0 12000
      · simp only [Bool.not_false]; rw [hj]; simp
      · simp only [Bool.not_true]
        rw [impl_go_j0 l h t w a now left k (by omega) h0 (by simpa using inB_iff.1 hn)]
        simp [h0]

theorem spec_at4 (l : List S39) (h : recOk l = true) (a : ByteArray) (n : Int) (k : Nat) (hk : 27 ≤ k) : spec_l4At.f k l a n = some (a, n, boundOf l a) := by
  unfold spec_l4At.f
  rw [spec_bd l h a k hk]; rfl
theorem spec_go_j3 (l : List S39) (h : recOk l = true) (t : Int) (w : Bool) (a : ByteArray) (now left : Int) (p : S39) (k : Nat) (hk : 28 ≤ k) (ht : 0 ≤ t ∧ t ≤ 1000) (hn : 0 ≤ now ∧ now ≤ 12000) :
    spec_l4Go.j3 k l t w a now left p.f0 p.f1 p.f2 p.f3 p.f4 p.f5 p.f6 p.f7 = some (if w = true then p.f6 else p.f7, now + t, boundOf l (if w = true then p.f6 else p.f7)) := by
  obtain ⟨k, rfl⟩ : ∃ m, k = m + 1 := ⟨k - 1, by omega⟩
  simp only [spec_l4Go.j3, spec_at4 l h _ _ k (show 27 ≤ k by omega), Option.bind_some]
  cases w
  · rw [if_neg (by decide), if_neg (by decide), wrap_id (by omega) (by omega)]
  · rw [if_pos rfl, if_pos rfl, wrap_id (by omega) (by omega)]
theorem spec_go_j0 (l : List S39) (h : recOk l = true) (t : Int) (w : Bool) (a : ByteArray) (now left : Int) (p : S39) (k : Nat) (hk : 40 ≤ k) (hp : phOk p = true) (hn : 0 ≤ now ∧ now ≤ 12000) :
    spec_l4Go.j0 k l t w (decide (w = true ∧ p.f1 = 3 ∧ t < p.f4)) a now left p.f0 p.f1 p.f2 p.f3 p.f4 p.f5 p.f6 p.f7 = some (nextOf p t w, now + tickOf p t w, boundOf l (nextOf p t w)) := by
  obtain ⟨k, rfl⟩ : ∃ m, k = m + 3 := ⟨k - 3, by omega⟩
  have hw := ph_within p hp
  have hj : ∀ (x : Int) (b : Bool), (x > p.f5 → spec_l4Go.j1 (k + 2) l x b a now left p.f0 p.f1 p.f2 p.f3 p.f4 p.f5 p.f6 p.f7 = some (p.f7, now + p.f5, boundOf l p.f7)) ∧
      (¬ x > p.f5 → spec_l4Go.j1 (k + 2) l x b a now left p.f0 p.f1 p.f2 p.f3 p.f4 p.f5 p.f6 p.f7 = some (if b = true then p.f6 else p.f7, now + max x 0, boundOf l (if b = true then p.f6 else p.f7))) := by
    intro x b
    refine ⟨fun hx => ?_, fun hx => ?_⟩
    · simp only [spec_l4Go.j1, spec_l4Go.j2]
      rw [if_pos hx, if_neg (by omega), spec_go_j3 l h p.f5 false a now left p k (by omega) (by omega) hn, if_neg (by decide)]
    · simp only [spec_l4Go.j1, spec_l4Go.j2]
      rw [if_neg hx]
      by_cases h0 : x < 0
      · rw [if_pos h0, spec_go_j3 l h 0 b a now left p k (by omega) (by omega) hn, Int.max_eq_right (by omega)]
      · rw [if_neg h0, spec_go_j3 l h x b a now left p k (by omega) (by omega) hn, Int.max_eq_left (by omega)]
  simp only [spec_l4Go.j0]
  unfold nextOf wellOf tickOf
  by_cases c : w = true ∧ p.f1 = 3 ∧ t < p.f4
  · obtain ⟨rfl, h3, h4⟩ := c
    have hh := ph_hold p hp h3
    rw [if_pos (by simp [h3, h4]), (hj p.f4 true).2 (by omega)]
    have e1 : ¬ max t 0 > p.f5 := by omega
    rw [if_neg e1, if_neg e1, if_pos rfl, if_pos (⟨rfl, h3⟩ : true = true ∧ p.f1 = 3), Int.max_eq_left (by omega), Int.max_eq_right (by omega)]
  · rw [if_neg (by simpa using c)]
    by_cases e1 : max t 0 > p.f5
    · rw [(hj t w).1 (by omega), if_pos e1, if_pos e1, if_neg (by decide)]
    · rw [(hj t w).2 (by omega), if_neg e1, if_neg e1]
      by_cases c2 : w = true ∧ p.f1 = 3
      · have : ¬ t < p.f4 := fun z => c ⟨c2.1, c2.2, z⟩
        have hh := ph_hold p hp c2.2
        rw [if_pos c2, Int.max_eq_left (show 0 ≤ t by omega), Int.max_eq_left (by omega)]
      · rw [if_neg c2]
theorem spec_l4 (l : List S39) (h : recOk l = true) (t : Int) (w : Bool) (a : ByteArray) (now left : Int) (k : Nat) (hk : 40 ≤ k) (h0 : ¬ atOf l a < 0) (hn : 0 ≤ now ∧ now ≤ 12000) :
    spec_l4Go.f k l a now left (atOf l a) t w = some (nextOf (rd_T39 l (atOf l a)) t w, now + tickOf (rd_T39 l (atOf l a)) t w, boundOf l (nextOf (rd_T39 l (atOf l a)) t w)) := by
  have hp := phase_of l h a h0
  have hr := atOf_range l a
  rw [← spec_go_j0 l h t w a now left _ k hk hp hn]
  unfold spec_l4Go.f
  rw [if_pos (by omega), if_pos (by omega)]
  by_cases h3 : (rd_T39 l (atOf l a)).f1 = 3
  · rw [if_pos h3]
    cases w
    · rw [if_neg (by decide)]; simp
    · rw [if_pos rfl]; simp [h3]
  · rw [if_neg h3]; simp [h3]
theorem spec_go (l : List S39) (hl : l.length ≤ 1048576) (a : ByteArray) (now left : Int) (t : Int) (w : Bool) (k : Nat) (hk : 1048577 < k) : spec_RecGo.f k l a now left t w = some (goOf l a now left t w) := by
  unfold spec_RecGo.f goOf canGo
  rw [spec_at l a (by omega) k (by omega), Option.bind_some, spec_ok l k (by omega), Option.bind_some]
  cases h : recOk l
  · rw [if_neg (by decide)]; simp
  · rw [if_pos rfl]
    by_cases h0 : atOf l a < 0
    · rw [if_pos h0]; simp [h0]
    · rw [if_neg h0, spec_in, Option.bind_some]
      cases hn : inB now 0 12000
      · rw [if_neg (by decide)]; simp
      · rw [if_pos rfl, spec_l4 l h t w a now left k (by omega) h0 (by simpa using inB_iff.1 hn)]
        simp [h0]

end Go.Proofs.Ytdkologncoofdaa.P
