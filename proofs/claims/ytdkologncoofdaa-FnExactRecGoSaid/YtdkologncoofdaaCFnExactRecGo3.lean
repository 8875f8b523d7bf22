/- Part 3 of the texts that the law FnExactRecGo reaches: contracts of the functions and plain lemmas. -/
import Derived.Test.YtdkologncoofdaaCFnExactRecGo2
-- Px16
namespace Go.Proofs.Ytdkologncoofdaa.P
open Go.RowKit Go.Proofs.YtdkologncoofdaaW.PrintWords Go.Proofs.YtdkologncoofdaaW.PrintLast Go.Proofs.YtdkologncoofdaaW.PrintMore
attribute [local go_sem] max2_int min2_int max_two min_two max_three min_three max_four min_four   -- for this text's walks alone
set_option linter.unusedVariables false
set_option linter.unusedSimpArgs false

/-! ### impl_RecPhaseOk: function 34 -/
mutual
def impl_RecPhaseOk.j0 : Nat → Bool → ByteArray → Int → ByteArray → ByteArray → Int → Int → ByteArray → ByteArray → Option (Bool)
  | 0, _, _, _, _, _, _, _, _, _ => none
  | k + 1, x36, x138000, x138001, x138002, x138003, x138004, x138005, x138006, x138007 => if x36 = true then (some false) else (if x138001 = 1 then (impl_RecPhaseOk.j1 k x138001 (x138001 == 1) x138000 x138001 x138002 x138003 x138004 x138005 x138006 x138007) else (impl_RecPhaseOk.j1 k x138001 (x138001 == 2) x138000 x138001 x138002 x138003 x138004 x138005 x138006 x138007))
def impl_RecPhaseOk.j1 : Nat → Int → Bool → ByteArray → Int → ByteArray → ByteArray → Int → Int → ByteArray → ByteArray → Option (Bool)
  | 0, _, _, _, _, _, _, _, _, _, _ => none
  | k + 1, x38, x39, x138000, x138001, x138002, x138003, x138004, x138005, x138006, x138007 => if x39 = true then ((impl_name.f k x138003).bind fun t144 => (if t144 = true then ((impl_in.f x138004 1 1000).bind fun t145 => (if t145 = true then (if x138001 = 1 then (some true) else (some (x138002.toList != x138003.toList))) else (some false))) else (some false))) else (if x38 = 3 then (if x138003.toList = ([] : List UInt8) then ((impl_in.f x138004 1 x138005).bind fun t146 => (some t146)) else (some false)) else (if x38 = 4 then (if x138003.toList = ([] : List UInt8) then (some (x138004 == 0)) else (some false)) else (if x38 = 5 then (if x138003.toList = ([] : List UInt8) then (some (x138004 == 0)) else (some false)) else (some false))))
end
def impl_RecPhaseOk.f (k : Nat) (a0_0 : ByteArray) (a0_1 : Int) (a0_2 : ByteArray) (a0_3 : ByteArray) (a0_4 : Int) (a0_5 : Int) (a0_6 : ByteArray) (a0_7 : ByteArray) : Option (Bool) := (impl_name.f k a0_0).bind fun t138 => (if t138 = true then ((impl_RecEnd.f k a0_0).bind fun t139 => (if t139 > 0 then (impl_RecPhaseOk.j0 k true a0_0 a0_1 a0_2 a0_3 a0_4 a0_5 a0_6 a0_7) else ((impl_in.f a0_5 1 1000).bind fun t140 => (if t140 = true then ((impl_name.f k a0_2).bind fun t141 => (if t141 = true then ((impl_name.f k a0_6).bind fun t142 => (if t142 = true then ((impl_name.f k a0_7).bind fun t143 => (impl_RecPhaseOk.j0 k (!t143) a0_0 a0_1 a0_2 a0_3 a0_4 a0_5 a0_6 a0_7)) else (impl_RecPhaseOk.j0 k true a0_0 a0_1 a0_2 a0_3 a0_4 a0_5 a0_6 a0_7))) else (impl_RecPhaseOk.j0 k true a0_0 a0_1 a0_2 a0_3 a0_4 a0_5 a0_6 a0_7))) else (impl_RecPhaseOk.j0 k true a0_0 a0_1 a0_2 a0_3 a0_4 a0_5 a0_6 a0_7))))) else (impl_RecPhaseOk.j0 k true a0_0 a0_1 a0_2 a0_3 a0_4 a0_5 a0_6 a0_7))
theorem impl_RecPhaseOk.mono_l : ∀ k, (∀ y0 y1 y2 y3 y4 y5 y6 y7 y8, LeO (impl_RecPhaseOk.j0 k y0 y1 y2 y3 y4 y5 y6 y7 y8) (impl_RecPhaseOk.j0 (k + 1) y0 y1 y2 y3 y4 y5 y6 y7 y8)) ∧ (∀ y0 y1 y2 y3 y4 y5 y6 y7 y8 y9, LeO (impl_RecPhaseOk.j1 k y0 y1 y2 y3 y4 y5 y6 y7 y8 y9) (impl_RecPhaseOk.j1 (k + 1) y0 y1 y2 y3 y4 y5 y6 y7 y8 y9))
  | 0 => ⟨fun _ _ _ _ _ _ _ _ _ r h => by simp [impl_RecPhaseOk.j0] at h, fun _ _ _ _ _ _ _ _ _ _ r h => by simp [impl_RecPhaseOk.j1] at h⟩
  | k + 1 => by
    obtain ⟨ih0, ih1⟩ := impl_RecPhaseOk.mono_l k
    refine ⟨?_, ?_⟩
    · intro y0 y1 y2 y3 y4 y5 y6 y7 y8
      unfold impl_RecPhaseOk.j0
      repeat' first
      | (with_reducible exact ih0 _ _ _ _ _ _ _ _ _)
      | (with_reducible exact ih1 _ _ _ _ _ _ _ _ _ _)
      | (with_reducible exact impl_RecEnd.mono _ _)
      | (with_reducible exact impl_name.mono _ _)
      | (with_reducible exact LeO.refl _)
      | (with_reducible exact LeO.none _)
      | (with_reducible refine LeO.ite ?_ ?_)
      | (with_reducible refine LeO.bind ?_ (fun _ => ?_))
      | exact ih0 _ _ _ _ _ _ _ _ _
      | exact ih1 _ _ _ _ _ _ _ _ _ _
      | exact impl_RecEnd.mono _ _
      | exact impl_name.mono _ _
      | exact LeO.none _
      | refine LeO.ite ?_ ?_
      | refine LeO.bind ?_ (fun _ => ?_)
    · intro y0 y1 y2 y3 y4 y5 y6 y7 y8 y9
      unfold impl_RecPhaseOk.j1
      repeat' first
      | (with_reducible exact ih0 _ _ _ _ _ _ _ _ _)
      | (with_reducible exact ih1 _ _ _ _ _ _ _ _ _ _)
      | (with_reducible exact impl_RecEnd.mono _ _)
      | (with_reducible exact impl_name.mono _ _)
      | (with_reducible exact LeO.refl _)
      | (with_reducible exact LeO.none _)
      | (with_reducible refine LeO.ite ?_ ?_)
      | (with_reducible refine LeO.bind ?_ (fun _ => ?_))
      | exact ih0 _ _ _ _ _ _ _ _ _
      | exact ih1 _ _ _ _ _ _ _ _ _ _
      | exact impl_RecEnd.mono _ _
      | exact impl_name.mono _ _
      | exact LeO.none _
      | refine LeO.ite ?_ ?_
      | refine LeO.bind ?_ (fun _ => ?_)
theorem impl_RecPhaseOk.mono : ∀ a0 a1 a2 a3 a4 a5 a6 a7 k, LeO (impl_RecPhaseOk.f k a0 a1 a2 a3 a4 a5 a6 a7) (impl_RecPhaseOk.f (k + 1) a0 a1 a2 a3 a4 a5 a6 a7) := by
  intro a0 a1 a2 a3 a4 a5 a6 a7 k
  obtain ⟨ih0, ih1⟩ := impl_RecPhaseOk.mono_l k
  unfold impl_RecPhaseOk.f
  repeat' first
      | (with_reducible exact ih0 _ _ _ _ _ _ _ _ _)
      | (with_reducible exact ih1 _ _ _ _ _ _ _ _ _ _)
      | (with_reducible exact impl_RecEnd.mono _ _)
      | (with_reducible exact impl_name.mono _ _)
      | (with_reducible exact LeO.refl _)
      | (with_reducible exact LeO.none _)
      | (with_reducible refine LeO.ite ?_ ?_)
      | (with_reducible refine LeO.bind ?_ (fun _ => ?_))
      | exact ih0 _ _ _ _ _ _ _ _ _
      | exact ih1 _ _ _ _ _ _ _ _ _ _
      | exact impl_RecEnd.mono _ _
      | exact impl_name.mono _ _
      | exact LeO.none _
      | refine LeO.ite ?_ ?_
      | refine LeO.bind ?_ (fun _ => ?_)
set_option maxHeartbeats 8000000 in
set_option maxRecDepth 100000 in
theorem impl_RecPhaseOk.calls (k : Nat) (a0_0 : ByteArray) (a0_1 : Int) (a0_2 : ByteArray) (a0_3 : ByteArray) (a0_4 : Int) (a0_5 : Int) (a0_6 : ByteArray) (a0_7 : ByteArray) (r : Bool) (w : World) (h : impl_RecPhaseOk.f k a0_0 a0_1 a0_2 a0_3 a0_4 a0_5 a0_6 a0_7 = some r) :
    Calls Try.prog 34 #[.agg #[.string a0_0, .int .i64 a0_1, .string a0_2, .string a0_3, .int .i64 a0_4, .int .i64 a0_5, .string a0_6, .string a0_7]] w fun e w' => e = .returned (.bool r) ∧ Below w.heap.size w w' := by
  have hu39 := Try.underlying39
  have HB := Aside0.mk (Below.refl w.heap.size w)
  have H : ((impl_name.f k a0_0).bind fun t138 => (if t138 = true then ((impl_RecEnd.f k a0_0).bind fun t139 => (if t139 > 0 then (impl_RecPhaseOk.j0 k true a0_0 a0_1 a0_2 a0_3 a0_4 a0_5 a0_6 a0_7) else ((impl_in.f a0_5 1 1000).bind fun t140 => (if t140 = true then ((impl_name.f k a0_2).bind fun t141 => (if t141 = true then ((impl_name.f k a0_6).bind fun t142 => (if t142 = true then ((impl_name.f k a0_7).bind fun t143 => (impl_RecPhaseOk.j0 k (!t143) a0_0 a0_1 a0_2 a0_3 a0_4 a0_5 a0_6 a0_7)) else (impl_RecPhaseOk.j0 k true a0_0 a0_1 a0_2 a0_3 a0_4 a0_5 a0_6 a0_7))) else (impl_RecPhaseOk.j0 k true a0_0 a0_1 a0_2 a0_3 a0_4 a0_5 a0_6 a0_7))) else (impl_RecPhaseOk.j0 k true a0_0 a0_1 a0_2 a0_3 a0_4 a0_5 a0_6 a0_7))))) else (impl_RecPhaseOk.j0 k true a0_0 a0_1 a0_2 a0_3 a0_4 a0_5 a0_6 a0_7))) = some r := h
  clear h
  have HC2 := Aside0.mk H
  clear H
  go_enter Try.func34, Try.ntmps34
  go_upto_region 1 with (first | ((with_reducible refine gate_dst (N := 1) rfl ?_); refine box_event ?hg (N := 1) ?hd (cs := #[.string a0_0, .int .i64 a0_1, .string a0_2, .string a0_3, .int .i64 a0_4, .int .i64 a0_5, .string a0_6, .string a0_7]) (t := 39) ?hr ?_; (case hd => rfl); (case hg => rfl); (case hr => first | (go_simp; done) | (go_simp; rfl)); intro gb137 hg w3 hbox hb; have n0_ := Aside0.mk (below_step (by repeat (first | (with_reducible first | exact HB.out | apply below_alloc | apply pw_below_drewN | apply below_drew1) | exact HB.out)) hb); have n1_ := Aside0.mk (hbox); have n2_ := Aside0.mk ((by rw [hg]; exact (below_size (by repeat (first | (with_reducible first | exact HB.out | apply below_alloc | apply pw_below_drewN | apply below_drew1) | exact HB.out))) : w.heap.size ≤ gb137)); have n3_ := Aside0.mk ((by rw [hg]; exact (below_size (by repeat (first | (with_reducible first | exact HB.out | apply below_alloc | apply pw_below_drewN | apply below_drew1) | exact HB.out))) : w.heap.size ≤ gb137)); clear HB; have HB := n0_; have BK137 := n1_; have GW137 := n2_; have GE137 := n3_; clear n0_ n1_ n2_ n3_; clear hb hbox hg))
  (try simp only [Act.put, List.setIfInBounds_toArray, List.set_cons_zero, List.set_cons_succ])
  go_cut [36] (fun v36 wc => ∃ (kq : Nat) (x36_1 : Bool), v36 = .bool x36_1 ∧ Aside0 (impl_RecPhaseOk.j0 kq x36_1 a0_0 a0_1 a0_2 a0_3 a0_4 a0_5 a0_6 a0_7 = some r) ∧ Aside0 (kq ≤ k) ∧ Aside0 (wc.heap[gb137]? = some (.cells #[.string a0_0, .int .i64 a0_1, .string a0_2, .string a0_3, .int .i64 a0_4, .int .i64 a0_5, .string a0_6, .string a0_7] 39 (0, 0))) ∧ Aside0 (Below w.heap.size w wc))
  case first =>
    have H := HC2.out
    clear HC2
    replace H := Option.bind_eq_some_iff.mp H
    obtain ⟨t138, A40, H⟩ := H
    replace H : (if t138 = true then ((impl_RecEnd.f k a0_0).bind fun t139 => (if t139 > 0 then (impl_RecPhaseOk.j0 k true a0_0 a0_1 a0_2 a0_3 a0_4 a0_5 a0_6 a0_7) else ((impl_in.f a0_5 1 1000).bind fun t140 => (if t140 = true then ((impl_name.f k a0_2).bind fun t141 => (if t141 = true then ((impl_name.f k a0_6).bind fun t142 => (if t142 = true then ((impl_name.f k a0_7).bind fun t143 => (impl_RecPhaseOk.j0 k (!t143) a0_0 a0_1 a0_2 a0_3 a0_4 a0_5 a0_6 a0_7)) else (impl_RecPhaseOk.j0 k true a0_0 a0_1 a0_2 a0_3 a0_4 a0_5 a0_6 a0_7))) else (impl_RecPhaseOk.j0 k true a0_0 a0_1 a0_2 a0_3 a0_4 a0_5 a0_6 a0_7))) else (impl_RecPhaseOk.j0 k true a0_0 a0_1 a0_2 a0_3 a0_4 a0_5 a0_6 a0_7))))) else (impl_RecPhaseOk.j0 k true a0_0 a0_1 a0_2 a0_3 a0_4 a0_5 a0_6 a0_7)) = some r := H
    have A4 := Aside0.mk A40
    clear A40
    by_cases c5 : t138 = true
    · subst c5
      have H1 : ((impl_RecEnd.f k a0_0).bind fun t139 => (if t139 > 0 then (impl_RecPhaseOk.j0 k true a0_0 a0_1 a0_2 a0_3 a0_4 a0_5 a0_6 a0_7) else ((impl_in.f a0_5 1 1000).bind fun t140 => (if t140 = true then ((impl_name.f k a0_2).bind fun t141 => (if t141 = true then ((impl_name.f k a0_6).bind fun t142 => (if t142 = true then ((impl_name.f k a0_7).bind fun t143 => (impl_RecPhaseOk.j0 k (!t143) a0_0 a0_1 a0_2 a0_3 a0_4 a0_5 a0_6 a0_7)) else (impl_RecPhaseOk.j0 k true a0_0 a0_1 a0_2 a0_3 a0_4 a0_5 a0_6 a0_7))) else (impl_RecPhaseOk.j0 k true a0_0 a0_1 a0_2 a0_3 a0_4 a0_5 a0_6 a0_7))) else (impl_RecPhaseOk.j0 k true a0_0 a0_1 a0_2 a0_3 a0_4 a0_5 a0_6 a0_7))))) = some r := by rw [if_pos rfl] at H; exact H
      clear H
      have H := H1
      clear H1
      replace H := Option.bind_eq_some_iff.mp H
      obtain ⟨t139, A60, H⟩ := H
      replace H : (if t139 > 0 then (impl_RecPhaseOk.j0 k true a0_0 a0_1 a0_2 a0_3 a0_4 a0_5 a0_6 a0_7) else ((impl_in.f a0_5 1 1000).bind fun t140 => (if t140 = true then ((impl_name.f k a0_2).bind fun t141 => (if t141 = true then ((impl_name.f k a0_6).bind fun t142 => (if t142 = true then ((impl_name.f k a0_7).bind fun t143 => (impl_RecPhaseOk.j0 k (!t143) a0_0 a0_1 a0_2 a0_3 a0_4 a0_5 a0_6 a0_7)) else (impl_RecPhaseOk.j0 k true a0_0 a0_1 a0_2 a0_3 a0_4 a0_5 a0_6 a0_7))) else (impl_RecPhaseOk.j0 k true a0_0 a0_1 a0_2 a0_3 a0_4 a0_5 a0_6 a0_7))) else (impl_RecPhaseOk.j0 k true a0_0 a0_1 a0_2 a0_3 a0_4 a0_5 a0_6 a0_7)))) = some r := H
      have A6 := Aside0.mk A60
      clear A60
      by_cases c7 : t139 > 0
      · rw [if_pos c7] at H
        have c7b0 : decide (0 < t139) = true := decide_eq_true c7
        clear c7
        (first | rw [c7b0] | (simp only [i64_w, i32_w]; rw [c7b0]) | skip)
        have H' := Aside0.mk H
        clear H
        have hcz8_0 : w3.cell? ⟨gb137, 0, none⟩ = some (.string a0_0) := (blk_cell BK137.out 0).trans rfl
        have hcz8_1 : w3.cell? ⟨gb137, 1, none⟩ = some (.int .i64 a0_1) := (blk_cell BK137.out 1).trans rfl
        have hcz8_2 : w3.cell? ⟨gb137, 2, none⟩ = some (.string a0_2) := (blk_cell BK137.out 2).trans rfl
        have hcz8_3 : w3.cell? ⟨gb137, 3, none⟩ = some (.string a0_3) := (blk_cell BK137.out 3).trans rfl
        have hcz8_4 : w3.cell? ⟨gb137, 4, none⟩ = some (.int .i64 a0_4) := (blk_cell BK137.out 4).trans rfl
        have hcz8_5 : w3.cell? ⟨gb137, 5, none⟩ = some (.int .i64 a0_5) := (blk_cell BK137.out 5).trans rfl
        have hcz8_6 : w3.cell? ⟨gb137, 6, none⟩ = some (.string a0_6) := (blk_cell BK137.out 6).trans rfl
        have hcz8_7 : w3.cell? ⟨gb137, 7, none⟩ = some (.string a0_7) := (blk_cell BK137.out 7).trans rfl
        have hfz8_0 := blk_frozen BK137.out 0
        have hfz8_1 := blk_frozen BK137.out 1
        have hfz8_2 := blk_frozen BK137.out 2
        have hfz8_3 := blk_frozen BK137.out 3
        have hfz8_4 := blk_frozen BK137.out 4
        have hfz8_5 := blk_frozen BK137.out 5
        have hfz8_6 := blk_frozen BK137.out 6
        have hfz8_7 := blk_frozen BK137.out 7
        go_wp2_with (first | ((with_reducible refine gate_callee (f := 78) rfl ?_); refine goesL_ (some 5) rfl rfl Try.func78 (by kernel_rfl) rfl #[.string a0_0] rfl (by (try simp only [List.map_toArray, List.map_cons, List.map_nil]); first | done | rfl | (simp only [List.length_drop, List.length_take]; rfl)) ?_; (with_reducible refine (impl_name.calls k a0_0 true _ A4.out).mono ?_); rintro e w' ⟨rfl, ⟨nd, rfl⟩⟩; refine ⟨_, rfl, ?_⟩) | (go_at_call 19; (with_reducible refine (impl_RecEnd.calls k a0_0 t139 _ A6.out).mono ?_); rintro e w9 ⟨rfl, hb⟩; have n0_ := Aside0.mk (blk_below (g := gb137) (o := .cells #[.string a0_0, .int .i64 a0_1, .string a0_2, .string a0_3, .int .i64 a0_4, .int .i64 a0_5, .string a0_6, .string a0_7] 39 (0, 0)) (by (with_reducible repeat (first | refine blk_drewN ?_ _ | refine blk_drew ?_ | refine blk_alloc ?_ _)); exact BK137.out) hb); have n1_ := Aside0.mk (below_step (by repeat (first | (with_reducible first | exact HB.out | apply below_alloc | apply pw_below_drewN | apply below_drew1 | refine below_set ?_ GE137.out) | exact HB.out)) hb); clear BK137; clear HB; have BK137 := n0_; have HB := n1_; clear n0_ n1_; (try clear hb); (try clear hb2); (try clear hk); (try clear hi)))
        go_meet
        case rel => exact ⟨_, (true), (by first | rfl | (simp; done) | (simp [*]; done)), H', ⟨by first | omega | exact Nat.le_refl _⟩, ⟨by (with_reducible repeat (first | refine blk_drewN ?_ _ | refine blk_drew ?_ | refine blk_alloc ?_ _)); exact BK137.out⟩, ⟨by repeat (first | (with_reducible first | exact HB.out | apply below_alloc | apply pw_below_drewN | apply below_drew1 | refine below_set ?_ GE137.out) | exact HB.out)⟩⟩
      · rw [if_neg c7] at H
        have c7b0 : decide (0 < t139) = false := decide_eq_false c7
        clear c7
        (first | rw [c7b0] | (simp only [i64_w, i32_w]; rw [c7b0]) | skip)
        replace H := Option.bind_eq_some_iff.mp H
        obtain ⟨t140, A100, H⟩ := H
        replace H : (if t140 = true then ((impl_name.f k a0_2).bind fun t141 => (if t141 = true then ((impl_name.f k a0_6).bind fun t142 => (if t142 = true then ((impl_name.f k a0_7).bind fun t143 => (impl_RecPhaseOk.j0 k (!t143) a0_0 a0_1 a0_2 a0_3 a0_4 a0_5 a0_6 a0_7)) else (impl_RecPhaseOk.j0 k true a0_0 a0_1 a0_2 a0_3 a0_4 a0_5 a0_6 a0_7))) else (impl_RecPhaseOk.j0 k true a0_0 a0_1 a0_2 a0_3 a0_4 a0_5 a0_6 a0_7))) else (impl_RecPhaseOk.j0 k true a0_0 a0_1 a0_2 a0_3 a0_4 a0_5 a0_6 a0_7)) = some r := H
        have A10 := Aside0.mk A100
        clear A100
        by_cases c11 : t140 = true
        · subst c11
          have H1 : ((impl_name.f k a0_2).bind fun t141 => (if t141 = true then ((impl_name.f k a0_6).bind fun t142 => (if t142 = true then ((impl_name.f k a0_7).bind fun t143 => (impl_RecPhaseOk.j0 k (!t143) a0_0 a0_1 a0_2 a0_3 a0_4 a0_5 a0_6 a0_7)) else (impl_RecPhaseOk.j0 k true a0_0 a0_1 a0_2 a0_3 a0_4 a0_5 a0_6 a0_7))) else (impl_RecPhaseOk.j0 k true a0_0 a0_1 a0_2 a0_3 a0_4 a0_5 a0_6 a0_7))) = some r := by rw [if_pos rfl] at H; exact H
          clear H
          have H := H1
          clear H1
          replace H := Option.bind_eq_some_iff.mp H
          obtain ⟨t141, A120, H⟩ := H
          replace H : (if t141 = true then ((impl_name.f k a0_6).bind fun t142 => (if t142 = true then ((impl_name.f k a0_7).bind fun t143 => (impl_RecPhaseOk.j0 k (!t143) a0_0 a0_1 a0_2 a0_3 a0_4 a0_5 a0_6 a0_7)) else (impl_RecPhaseOk.j0 k true a0_0 a0_1 a0_2 a0_3 a0_4 a0_5 a0_6 a0_7))) else (impl_RecPhaseOk.j0 k true a0_0 a0_1 a0_2 a0_3 a0_4 a0_5 a0_6 a0_7)) = some r := H
          have A12 := Aside0.mk A120
          clear A120
          by_cases c13 : t141 = true
          · subst c13
            have H1 : ((impl_name.f k a0_6).bind fun t142 => (if t142 = true then ((impl_name.f k a0_7).bind fun t143 => (impl_RecPhaseOk.j0 k (!t143) a0_0 a0_1 a0_2 a0_3 a0_4 a0_5 a0_6 a0_7)) else (impl_RecPhaseOk.j0 k true a0_0 a0_1 a0_2 a0_3 a0_4 a0_5 a0_6 a0_7))) = some r := by rw [if_pos rfl] at H; exact H
            clear H
            have H := H1
            clear H1
            replace H := Option.bind_eq_some_iff.mp H
            obtain ⟨t142, A140, H⟩ := H
            replace H : (if t142 = true then ((impl_name.f k a0_7).bind fun t143 => (impl_RecPhaseOk.j0 k (!t143) a0_0 a0_1 a0_2 a0_3 a0_4 a0_5 a0_6 a0_7)) else (impl_RecPhaseOk.j0 k true a0_0 a0_1 a0_2 a0_3 a0_4 a0_5 a0_6 a0_7)) = some r := H
            have A14 := Aside0.mk A140
            clear A140
            by_cases c15 : t142 = true
            · subst c15
              have H1 : ((impl_name.f k a0_7).bind fun t143 => (impl_RecPhaseOk.j0 k (!t143) a0_0 a0_1 a0_2 a0_3 a0_4 a0_5 a0_6 a0_7)) = some r := by rw [if_pos rfl] at H; exact H
              clear H
              have H := H1
              clear H1
              replace H := Option.bind_eq_some_iff.mp H
              obtain ⟨t143, A160, H⟩ := H
              replace H : (impl_RecPhaseOk.j0 k (!t143) a0_0 a0_1 a0_2 a0_3 a0_4 a0_5 a0_6 a0_7) = some r := H
              have A16 := Aside0.mk A160
              clear A160
              have H' := Aside0.mk H
              clear H
              have hcz17_0 : w3.cell? ⟨gb137, 0, none⟩ = some (.string a0_0) := (blk_cell BK137.out 0).trans rfl
              have hcz17_1 : w3.cell? ⟨gb137, 1, none⟩ = some (.int .i64 a0_1) := (blk_cell BK137.out 1).trans rfl
              have hcz17_2 : w3.cell? ⟨gb137, 2, none⟩ = some (.string a0_2) := (blk_cell BK137.out 2).trans rfl
              have hcz17_3 : w3.cell? ⟨gb137, 3, none⟩ = some (.string a0_3) := (blk_cell BK137.out 3).trans rfl
              have hcz17_4 : w3.cell? ⟨gb137, 4, none⟩ = some (.int .i64 a0_4) := (blk_cell BK137.out 4).trans rfl
              have hcz17_5 : w3.cell? ⟨gb137, 5, none⟩ = some (.int .i64 a0_5) := (blk_cell BK137.out 5).trans rfl
              have hcz17_6 : w3.cell? ⟨gb137, 6, none⟩ = some (.string a0_6) := (blk_cell BK137.out 6).trans rfl
              have hcz17_7 : w3.cell? ⟨gb137, 7, none⟩ = some (.string a0_7) := (blk_cell BK137.out 7).trans rfl
              have hfz17_0 := blk_frozen BK137.out 0
              have hfz17_1 := blk_frozen BK137.out 1
              have hfz17_2 := blk_frozen BK137.out 2
              have hfz17_3 := blk_frozen BK137.out 3
              have hfz17_4 := blk_frozen BK137.out 4
              have hfz17_5 := blk_frozen BK137.out 5
              have hfz17_6 := blk_frozen BK137.out 6
              have hfz17_7 := blk_frozen BK137.out 7
              go_wp2_with (first | ((with_reducible refine gate_callee (f := 78) rfl ?_); refine goesL_ (some 5) rfl rfl Try.func78 (by kernel_rfl) rfl #[.string a0_0] rfl (by (try simp only [List.map_toArray, List.map_cons, List.map_nil]); first | done | rfl | (simp only [List.length_drop, List.length_take]; rfl)) ?_; (with_reducible refine (impl_name.calls k a0_0 true _ A4.out).mono ?_); rintro e w' ⟨rfl, ⟨nd, rfl⟩⟩; refine ⟨_, rfl, ?_⟩) | (go_at_call 19; (with_reducible refine (impl_RecEnd.calls k a0_0 t139 _ A6.out).mono ?_); rintro e w18 ⟨rfl, hb⟩; have n0_ := Aside0.mk (blk_below (g := gb137) (o := .cells #[.string a0_0, .int .i64 a0_1, .string a0_2, .string a0_3, .int .i64 a0_4, .int .i64 a0_5, .string a0_6, .string a0_7] 39 (0, 0)) (by (with_reducible repeat (first | refine blk_drewN ?_ _ | refine blk_drew ?_ | refine blk_alloc ?_ _)); exact BK137.out) hb); have n1_ := Aside0.mk (below_step (by repeat (first | (with_reducible first | exact HB.out | apply below_alloc | apply pw_below_drewN | apply below_drew1 | refine below_set ?_ GE137.out) | exact HB.out)) hb); clear BK137; clear HB; have BK137 := n0_; have HB := n1_; clear n0_ n1_; (try clear hb); (try clear hb2); (try clear hk); (try clear hi); have hcz19_0 : w18.cell? ⟨gb137, 0, none⟩ = some (.string a0_0) := (blk_cell BK137.out 0).trans rfl; have hcz19_1 : w18.cell? ⟨gb137, 1, none⟩ = some (.int .i64 a0_1) := (blk_cell BK137.out 1).trans rfl; have hcz19_2 : w18.cell? ⟨gb137, 2, none⟩ = some (.string a0_2) := (blk_cell BK137.out 2).trans rfl; have hcz19_3 : w18.cell? ⟨gb137, 3, none⟩ = some (.string a0_3) := (blk_cell BK137.out 3).trans rfl; have hcz19_4 : w18.cell? ⟨gb137, 4, none⟩ = some (.int .i64 a0_4) := (blk_cell BK137.out 4).trans rfl; have hcz19_5 : w18.cell? ⟨gb137, 5, none⟩ = some (.int .i64 a0_5) := (blk_cell BK137.out 5).trans rfl; have hcz19_6 : w18.cell? ⟨gb137, 6, none⟩ = some (.string a0_6) := (blk_cell BK137.out 6).trans rfl; have hcz19_7 : w18.cell? ⟨gb137, 7, none⟩ = some (.string a0_7) := (blk_cell BK137.out 7).trans rfl; have hfz19_0 := blk_frozen BK137.out 0; have hfz19_1 := blk_frozen BK137.out 1; have hfz19_2 := blk_frozen BK137.out 2; have hfz19_3 := blk_frozen BK137.out 3; have hfz19_4 := blk_frozen BK137.out 4; have hfz19_5 := blk_frozen BK137.out 5; have hfz19_6 := blk_frozen BK137.out 6; have hfz19_7 := blk_frozen BK137.out 7) | (go_at_call 68; (with_reducible refine (impl_in.calls a0_5 1 1000 true _ A10.out).mono ?_); rintro e w' ⟨rfl, ⟨nd, rfl⟩⟩) | (go_at_call 78; (with_reducible refine (impl_name.calls k a0_2 true _ A12.out).mono ?_); rintro e w' ⟨rfl, ⟨nd, rfl⟩⟩) | (go_at_call 78; (with_reducible refine (impl_name.calls k a0_6 true _ A14.out).mono ?_); rintro e w' ⟨rfl, ⟨nd, rfl⟩⟩) | (go_at_call 78; (with_reducible refine (impl_name.calls k a0_7 t143 _ A16.out).mono ?_); rintro e w' ⟨rfl, ⟨nd, rfl⟩⟩))
              go_meet
              case rel => exact ⟨_, (!t143), (by first | rfl | (simp; done) | (simp [*]; done)), H', ⟨by first | omega | exact Nat.le_refl _⟩, ⟨by (with_reducible repeat (first | refine blk_drewN ?_ _ | refine blk_drew ?_ | refine blk_alloc ?_ _)); exact BK137.out⟩, ⟨by repeat (first | (with_reducible first | exact HB.out | apply below_alloc | apply pw_below_drewN | apply below_drew1 | refine below_set ?_ GE137.out) | exact HB.out)⟩⟩
            · replace c15 := Bool.eq_false_iff.mpr c15
              subst c15
              have H1 : (impl_RecPhaseOk.j0 k true a0_0 a0_1 a0_2 a0_3 a0_4 a0_5 a0_6 a0_7) = some r := by rw [if_neg (show ¬ (false = true) by decide)] at H; exact H
              clear H
              have H := H1
              clear H1
              have H' := Aside0.mk H
              clear H
              have hcz20_0 : w3.cell? ⟨gb137, 0, none⟩ = some (.string a0_0) := (blk_cell BK137.out 0).trans rfl
              have hcz20_1 : w3.cell? ⟨gb137, 1, none⟩ = some (.int .i64 a0_1) := (blk_cell BK137.out 1).trans rfl
              have hcz20_2 : w3.cell? ⟨gb137, 2, none⟩ = some (.string a0_2) := (blk_cell BK137.out 2).trans rfl
              have hcz20_3 : w3.cell? ⟨gb137, 3, none⟩ = some (.string a0_3) := (blk_cell BK137.out 3).trans rfl
              have hcz20_4 : w3.cell? ⟨gb137, 4, none⟩ = some (.int .i64 a0_4) := (blk_cell BK137.out 4).trans rfl
              have hcz20_5 : w3.cell? ⟨gb137, 5, none⟩ = some (.int .i64 a0_5) := (blk_cell BK137.out 5).trans rfl
              have hcz20_6 : w3.cell? ⟨gb137, 6, none⟩ = some (.string a0_6) := (blk_cell BK137.out 6).trans rfl
              have hcz20_7 : w3.cell? ⟨gb137, 7, none⟩ = some (.string a0_7) := (blk_cell BK137.out 7).trans rfl
              have hfz20_0 := blk_frozen BK137.out 0
              have hfz20_1 := blk_frozen BK137.out 1
              have hfz20_2 := blk_frozen BK137.out 2
              have hfz20_3 := blk_frozen BK137.out 3
              have hfz20_4 := blk_frozen BK137.out 4
              have hfz20_5 := blk_frozen BK137.out 5
              have hfz20_6 := blk_frozen BK137.out 6
              have hfz20_7 := blk_frozen BK137.out 7
              go_wp2_with (first | ((with_reducible refine gate_callee (f := 78) rfl ?_); refine goesL_ (some 5) rfl rfl Try.func78 (by kernel_rfl) rfl #[.string a0_0] rfl (by (try simp only [List.map_toArray, List.map_cons, List.map_nil]); first | done | rfl | (simp only [List.length_drop, List.length_take]; rfl)) ?_; (with_reducible refine (impl_name.calls k a0_0 true _ A4.out).mono ?_); rintro e w' ⟨rfl, ⟨nd, rfl⟩⟩; refine ⟨_, rfl, ?_⟩) | (go_at_call 19; (with_reducible refine (impl_RecEnd.calls k a0_0 t139 _ A6.out).mono ?_); rintro e w21 ⟨rfl, hb⟩; have n0_ := Aside0.mk (blk_below (g := gb137) (o := .cells #[.string a0_0, .int .i64 a0_1, .string a0_2, .string a0_3, .int .i64 a0_4, .int .i64 a0_5, .string a0_6, .string a0_7] 39 (0, 0)) (by (with_reducible repeat (first | refine blk_drewN ?_ _ | refine blk_drew ?_ | refine blk_alloc ?_ _)); exact BK137.out) hb); have n1_ := Aside0.mk (below_step (by repeat (first | (with_reducible first | exact HB.out | apply below_alloc | apply pw_below_drewN | apply below_drew1 | refine below_set ?_ GE137.out) | exact HB.out)) hb); clear BK137; clear HB; have BK137 := n0_; have HB := n1_; clear n0_ n1_; (try clear hb); (try clear hb2); (try clear hk); (try clear hi); have hcz22_0 : w21.cell? ⟨gb137, 0, none⟩ = some (.string a0_0) := (blk_cell BK137.out 0).trans rfl; have hcz22_1 : w21.cell? ⟨gb137, 1, none⟩ = some (.int .i64 a0_1) := (blk_cell BK137.out 1).trans rfl; have hcz22_2 : w21.cell? ⟨gb137, 2, none⟩ = some (.string a0_2) := (blk_cell BK137.out 2).trans rfl; have hcz22_3 : w21.cell? ⟨gb137, 3, none⟩ = some (.string a0_3) := (blk_cell BK137.out 3).trans rfl; have hcz22_4 : w21.cell? ⟨gb137, 4, none⟩ = some (.int .i64 a0_4) := (blk_cell BK137.out 4).trans rfl; have hcz22_5 : w21.cell? ⟨gb137, 5, none⟩ = some (.int .i64 a0_5) := (blk_cell BK137.out 5).trans rfl; have hcz22_6 : w21.cell? ⟨gb137, 6, none⟩ = some (.string a0_6) := (blk_cell BK137.out 6).trans rfl; have hcz22_7 : w21.cell? ⟨gb137, 7, none⟩ = some (.string a0_7) := (blk_cell BK137.out 7).trans rfl; have hfz22_0 := blk_frozen BK137.out 0; have hfz22_1 := blk_frozen BK137.out 1; have hfz22_2 := blk_frozen BK137.out 2; have hfz22_3 := blk_frozen BK137.out 3; have hfz22_4 := blk_frozen BK137.out 4; have hfz22_5 := blk_frozen BK137.out 5; have hfz22_6 := blk_frozen BK137.out 6; have hfz22_7 := blk_frozen BK137.out 7) | (go_at_call 68; (with_reducible refine (impl_in.calls a0_5 1 1000 true _ A10.out).mono ?_); rintro e w' ⟨rfl, ⟨nd, rfl⟩⟩) | (go_at_call 78; (with_reducible refine (impl_name.calls k a0_2 true _ A12.out).mono ?_); rintro e w' ⟨rfl, ⟨nd, rfl⟩⟩) | (go_at_call 78; (with_reducible refine (impl_name.calls k a0_6 false _ A14.out).mono ?_); rintro e w' ⟨rfl, ⟨nd, rfl⟩⟩))
              go_meet
              case rel => exact ⟨_, (true), (by first | rfl | (simp; done) | (simp [*]; done)), H', ⟨by first | omega | exact Nat.le_refl _⟩, ⟨by (with_reducible repeat (first | refine blk_drewN ?_ _ | refine blk_drew ?_ | refine blk_alloc ?_ _)); exact BK137.out⟩, ⟨by repeat (first | (with_reducible first | exact HB.out | apply below_alloc | apply pw_below_drewN | apply below_drew1 | refine below_set ?_ GE137.out) | exact HB.out)⟩⟩
          · replace c13 := Bool.eq_false_iff.mpr c13
            subst c13
            have H1 : (impl_RecPhaseOk.j0 k true a0_0 a0_1 a0_2 a0_3 a0_4 a0_5 a0_6 a0_7) = some r := by rw [if_neg (show ¬ (false = true) by decide)] at H; exact H
            clear H
            have H := H1
            clear H1
            have H' := Aside0.mk H
            clear H
            have hcz23_0 : w3.cell? ⟨gb137, 0, none⟩ = some (.string a0_0) := (blk_cell BK137.out 0).trans rfl
            have hcz23_1 : w3.cell? ⟨gb137, 1, none⟩ = some (.int .i64 a0_1) := (blk_cell BK137.out 1).trans rfl
            have hcz23_2 : w3.cell? ⟨gb137, 2, none⟩ = some (.string a0_2) := (blk_cell BK137.out 2).trans rfl
            have hcz23_3 : w3.cell? ⟨gb137, 3, none⟩ = some (.string a0_3) := (blk_cell BK137.out 3).trans rfl
            have hcz23_4 : w3.cell? ⟨gb137, 4, none⟩ = some (.int .i64 a0_4) := (blk_cell BK137.out 4).trans rfl
            have hcz23_5 : w3.cell? ⟨gb137, 5, none⟩ = some (.int .i64 a0_5) := (blk_cell BK137.out 5).trans rfl
            have hcz23_6 : w3.cell? ⟨gb137, 6, none⟩ = some (.string a0_6) := (blk_cell BK137.out 6).trans rfl
            have hcz23_7 : w3.cell? ⟨gb137, 7, none⟩ = some (.string a0_7) := (blk_cell BK137.out 7).trans rfl
            have hfz23_0 := blk_frozen BK137.out 0
            have hfz23_1 := blk_frozen BK137.out 1
            have hfz23_2 := blk_frozen BK137.out 2
            have hfz23_3 := blk_frozen BK137.out 3
            have hfz23_4 := blk_frozen BK137.out 4
            have hfz23_5 := blk_frozen BK137.out 5
            have hfz23_6 := blk_frozen BK137.out 6
            have hfz23_7 := blk_frozen BK137.out 7
            go_wp2_with (first | ((with_reducible refine gate_callee (f := 78) rfl ?_); refine goesL_ (some 5) rfl rfl Try.func78 (by kernel_rfl) rfl #[.string a0_0] rfl (by (try simp only [List.map_toArray, List.map_cons, List.map_nil]); first | done | rfl | (simp only [List.length_drop, List.length_take]; rfl)) ?_; (with_reducible refine (impl_name.calls k a0_0 true _ A4.out).mono ?_); rintro e w' ⟨rfl, ⟨nd, rfl⟩⟩; refine ⟨_, rfl, ?_⟩) | (go_at_call 19; (with_reducible refine (impl_RecEnd.calls k a0_0 t139 _ A6.out).mono ?_); rintro e w24 ⟨rfl, hb⟩; have n0_ := Aside0.mk (blk_below (g := gb137) (o := .cells #[.string a0_0, .int .i64 a0_1, .string a0_2, .string a0_3, .int .i64 a0_4, .int .i64 a0_5, .string a0_6, .string a0_7] 39 (0, 0)) (by (with_reducible repeat (first | refine blk_drewN ?_ _ | refine blk_drew ?_ | refine blk_alloc ?_ _)); exact BK137.out) hb); have n1_ := Aside0.mk (below_step (by repeat (first | (with_reducible first | exact HB.out | apply below_alloc | apply pw_below_drewN | apply below_drew1 | refine below_set ?_ GE137.out) | exact HB.out)) hb); clear BK137; clear HB; have BK137 := n0_; have HB := n1_; clear n0_ n1_; (try clear hb); (try clear hb2); (try clear hk); (try clear hi); have hcz25_0 : w24.cell? ⟨gb137, 0, none⟩ = some (.string a0_0) := (blk_cell BK137.out 0).trans rfl; have hcz25_1 : w24.cell? ⟨gb137, 1, none⟩ = some (.int .i64 a0_1) := (blk_cell BK137.out 1).trans rfl; have hcz25_2 : w24.cell? ⟨gb137, 2, none⟩ = some (.string a0_2) := (blk_cell BK137.out 2).trans rfl; have hcz25_3 : w24.cell? ⟨gb137, 3, none⟩ = some (.string a0_3) := (blk_cell BK137.out 3).trans rfl; have hcz25_4 : w24.cell? ⟨gb137, 4, none⟩ = some (.int .i64 a0_4) := (blk_cell BK137.out 4).trans rfl; have hcz25_5 : w24.cell? ⟨gb137, 5, none⟩ = some (.int .i64 a0_5) := (blk_cell BK137.out 5).trans rfl; have hcz25_6 : w24.cell? ⟨gb137, 6, none⟩ = some (.string a0_6) := (blk_cell BK137.out 6).trans rfl; have hcz25_7 : w24.cell? ⟨gb137, 7, none⟩ = some (.string a0_7) := (blk_cell BK137.out 7).trans rfl; have hfz25_0 := blk_frozen BK137.out 0; have hfz25_1 := blk_frozen BK137.out 1; have hfz25_2 := blk_frozen BK137.out 2; have hfz25_3 := blk_frozen BK137.out 3; have hfz25_4 := blk_frozen BK137.out 4; have hfz25_5 := blk_frozen BK137.out 5; have hfz25_6 := blk_frozen BK137.out 6; have hfz25_7 := blk_frozen BK137.out 7) | (go_at_call 68; (with_reducible refine (impl_in.calls a0_5 1 1000 true _ A10.out).mono ?_); rintro e w' ⟨rfl, ⟨nd, rfl⟩⟩) | (go_at_call 78; (with_reducible refine (impl_name.calls k a0_2 false _ A12.out).mono ?_); rintro e w' ⟨rfl, ⟨nd, rfl⟩⟩))
            go_meet
            case rel => exact ⟨_, (true), (by first | rfl | (simp; done) | (simp [*]; done)), H', ⟨by first | omega | exact Nat.le_refl _⟩, ⟨by (with_reducible repeat (first | refine blk_drewN ?_ _ | refine blk_drew ?_ | refine blk_alloc ?_ _)); exact BK137.out⟩, ⟨by repeat (first | (with_reducible first | exact HB.out | apply below_alloc | apply pw_below_drewN | apply below_drew1 | refine below_set ?_ GE137.out) | exact HB.out)⟩⟩
        · replace c11 := Bool.eq_false_iff.mpr c11
          subst c11
          have H1 : (impl_RecPhaseOk.j0 k true a0_0 a0_1 a0_2 a0_3 a0_4 a0_5 a0_6 a0_7) = some r := by rw [if_neg (show ¬ (false = true) by decide)] at H; exact H
          clear H
          have H := H1
          clear H1
          have H' := Aside0.mk H
          clear H
          have hcz26_0 : w3.cell? ⟨gb137, 0, none⟩ = some (.string a0_0) := (blk_cell BK137.out 0).trans rfl
          have hcz26_1 : w3.cell? ⟨gb137, 1, none⟩ = some (.int .i64 a0_1) := (blk_cell BK137.out 1).trans rfl
          have hcz26_2 : w3.cell? ⟨gb137, 2, none⟩ = some (.string a0_2) := (blk_cell BK137.out 2).trans rfl
          have hcz26_3 : w3.cell? ⟨gb137, 3, none⟩ = some (.string a0_3) := (blk_cell BK137.out 3).trans rfl
          have hcz26_4 : w3.cell? ⟨gb137, 4, none⟩ = some (.int .i64 a0_4) := (blk_cell BK137.out 4).trans rfl
          have hcz26_5 : w3.cell? ⟨gb137, 5, none⟩ = some (.int .i64 a0_5) := (blk_cell BK137.out 5).trans rfl
          have hcz26_6 : w3.cell? ⟨gb137, 6, none⟩ = some (.string a0_6) := (blk_cell BK137.out 6).trans rfl
          have hcz26_7 : w3.cell? ⟨gb137, 7, none⟩ = some (.string a0_7) := (blk_cell BK137.out 7).trans rfl
          have hfz26_0 := blk_frozen BK137.out 0
          have hfz26_1 := blk_frozen BK137.out 1
          have hfz26_2 := blk_frozen BK137.out 2
          have hfz26_3 := blk_frozen BK137.out 3
          have hfz26_4 := blk_frozen BK137.out 4
          have hfz26_5 := blk_frozen BK137.out 5
          have hfz26_6 := blk_frozen BK137.out 6
          have hfz26_7 := blk_frozen BK137.out 7
          go_wp2_with (first | ((with_reducible refine gate_callee (f := 78) rfl ?_); refine goesL_ (some 5) rfl rfl Try.func78 (by kernel_rfl) rfl #[.string a0_0] rfl (by (try simp only [List.map_toArray, List.map_cons, List.map_nil]); first | done | rfl | (simp only [List.length_drop, List.length_take]; rfl)) ?_; (with_reducible refine (impl_name.calls k a0_0 true _ A4.out).mono ?_); rintro e w' ⟨rfl, ⟨nd, rfl⟩⟩; refine ⟨_, rfl, ?_⟩) | (go_at_call 19; (with_reducible refine (impl_RecEnd.calls k a0_0 t139 _ A6.out).mono ?_); rintro e w27 ⟨rfl, hb⟩; have n0_ := Aside0.mk (blk_below (g := gb137) (o := .cells #[.string a0_0, .int .i64 a0_1, .string a0_2, .string a0_3, .int .i64 a0_4, .int .i64 a0_5, .string a0_6, .string a0_7] 39 (0, 0)) (by (with_reducible repeat (first | refine blk_drewN ?_ _ | refine blk_drew ?_ | refine blk_alloc ?_ _)); exact BK137.out) hb); have n1_ := Aside0.mk (below_step (by repeat (first | (with_reducible first | exact HB.out | apply below_alloc | apply pw_below_drewN | apply below_drew1 | refine below_set ?_ GE137.out) | exact HB.out)) hb); clear BK137; clear HB; have BK137 := n0_; have HB := n1_; clear n0_ n1_; (try clear hb); (try clear hb2); (try clear hk); (try clear hi); have hcz28_0 : w27.cell? ⟨gb137, 0, none⟩ = some (.string a0_0) := (blk_cell BK137.out 0).trans rfl; have hcz28_1 : w27.cell? ⟨gb137, 1, none⟩ = some (.int .i64 a0_1) := (blk_cell BK137.out 1).trans rfl; have hcz28_2 : w27.cell? ⟨gb137, 2, none⟩ = some (.string a0_2) := (blk_cell BK137.out 2).trans rfl; have hcz28_3 : w27.cell? ⟨gb137, 3, none⟩ = some (.string a0_3) := (blk_cell BK137.out 3).trans rfl; have hcz28_4 : w27.cell? ⟨gb137, 4, none⟩ = some (.int .i64 a0_4) := (blk_cell BK137.out 4).trans rfl; have hcz28_5 : w27.cell? ⟨gb137, 5, none⟩ = some (.int .i64 a0_5) := (blk_cell BK137.out 5).trans rfl; have hcz28_6 : w27.cell? ⟨gb137, 6, none⟩ = some (.string a0_6) := (blk_cell BK137.out 6).trans rfl; have hcz28_7 : w27.cell? ⟨gb137, 7, none⟩ = some (.string a0_7) := (blk_cell BK137.out 7).trans rfl; have hfz28_0 := blk_frozen BK137.out 0; have hfz28_1 := blk_frozen BK137.out 1; have hfz28_2 := blk_frozen BK137.out 2; have hfz28_3 := blk_frozen BK137.out 3; have hfz28_4 := blk_frozen BK137.out 4; have hfz28_5 := blk_frozen BK137.out 5; have hfz28_6 := blk_frozen BK137.out 6; have hfz28_7 := blk_frozen BK137.out 7) | (go_at_call 68; (with_reducible refine (impl_in.calls a0_5 1 1000 false _ A10.out).mono ?_); rintro e w' ⟨rfl, ⟨nd, rfl⟩⟩))
          go_meet
          case rel => exact ⟨_, (true), (by first | rfl | (simp; done) | (simp [*]; done)), H', ⟨by first | omega | exact Nat.le_refl _⟩, ⟨by (with_reducible repeat (first | refine blk_drewN ?_ _ | refine blk_drew ?_ | refine blk_alloc ?_ _)); exact BK137.out⟩, ⟨by repeat (first | (with_reducible first | exact HB.out | apply below_alloc | apply pw_below_drewN | apply below_drew1 | refine below_set ?_ GE137.out) | exact HB.out)⟩⟩
    · replace c5 := Bool.eq_false_iff.mpr c5
      subst c5
      have H1 : (impl_RecPhaseOk.j0 k true a0_0 a0_1 a0_2 a0_3 a0_4 a0_5 a0_6 a0_7) = some r := by rw [if_neg (show ¬ (false = true) by decide)] at H; exact H
      clear H
      have H := H1
      clear H1
      have H' := Aside0.mk H
      clear H
      have hcz29_0 : w3.cell? ⟨gb137, 0, none⟩ = some (.string a0_0) := (blk_cell BK137.out 0).trans rfl
      have hcz29_1 : w3.cell? ⟨gb137, 1, none⟩ = some (.int .i64 a0_1) := (blk_cell BK137.out 1).trans rfl
      have hcz29_2 : w3.cell? ⟨gb137, 2, none⟩ = some (.string a0_2) := (blk_cell BK137.out 2).trans rfl
      have hcz29_3 : w3.cell? ⟨gb137, 3, none⟩ = some (.string a0_3) := (blk_cell BK137.out 3).trans rfl
      have hcz29_4 : w3.cell? ⟨gb137, 4, none⟩ = some (.int .i64 a0_4) := (blk_cell BK137.out 4).trans rfl
      have hcz29_5 : w3.cell? ⟨gb137, 5, none⟩ = some (.int .i64 a0_5) := (blk_cell BK137.out 5).trans rfl
      have hcz29_6 : w3.cell? ⟨gb137, 6, none⟩ = some (.string a0_6) := (blk_cell BK137.out 6).trans rfl
      have hcz29_7 : w3.cell? ⟨gb137, 7, none⟩ = some (.string a0_7) := (blk_cell BK137.out 7).trans rfl
      have hfz29_0 := blk_frozen BK137.out 0
      have hfz29_1 := blk_frozen BK137.out 1
      have hfz29_2 := blk_frozen BK137.out 2
      have hfz29_3 := blk_frozen BK137.out 3
      have hfz29_4 := blk_frozen BK137.out 4
      have hfz29_5 := blk_frozen BK137.out 5
      have hfz29_6 := blk_frozen BK137.out 6
      have hfz29_7 := blk_frozen BK137.out 7
      go_wp2_with (first | ((with_reducible refine gate_callee (f := 78) rfl ?_); refine goesL_ (some 5) rfl rfl Try.func78 (by kernel_rfl) rfl #[.string a0_0] rfl (by (try simp only [List.map_toArray, List.map_cons, List.map_nil]); first | done | rfl | (simp only [List.length_drop, List.length_take]; rfl)) ?_; (with_reducible refine (impl_name.calls k a0_0 false _ A4.out).mono ?_); rintro e w' ⟨rfl, ⟨nd, rfl⟩⟩; refine ⟨_, rfl, ?_⟩))
      go_meet
      case rel => exact ⟨_, (true), (by first | rfl | (simp; done) | (simp [*]; done)), H', ⟨by first | omega | exact Nat.le_refl _⟩, ⟨by (with_reducible repeat (first | refine blk_drewN ?_ _ | refine blk_drew ?_ | refine blk_alloc ?_ _)); exact BK137.out⟩, ⟨by repeat (first | (with_reducible first | exact HB.out | apply below_alloc | apply pw_below_drewN | apply below_drew1 | refine below_set ?_ GE137.out) | exact HB.out)⟩⟩
  case rest =>
    clear HC2
    try clear c1
    try clear p2
    try clear c3
    try clear c5
    try clear c7
    try clear c7b0
    try clear c11
    try clear c13
    try clear c15
    try clear hcz17_0
    try clear hcz17_1
    try clear hcz17_2
    try clear hcz17_3
    try clear hcz17_4
    try clear hcz17_5
    try clear hcz17_6
    try clear hcz17_7
    try clear hcz19_0
    try clear hcz19_1
    try clear hcz19_2
    try clear hcz19_3
    try clear hcz19_4
    try clear hcz19_5
    try clear hcz19_6
    try clear hcz19_7
    try clear hcz20_0
    try clear hcz20_1
    try clear hcz20_2
    try clear hcz20_3
    try clear hcz20_4
    try clear hcz20_5
    try clear hcz20_6
    try clear hcz20_7
    try clear hcz22_0
    try clear hcz22_1
    try clear hcz22_2
    try clear hcz22_3
    try clear hcz22_4
    try clear hcz22_5
    try clear hcz22_6
    try clear hcz22_7
    try clear hcz23_0
    try clear hcz23_1
    try clear hcz23_2
    try clear hcz23_3
    try clear hcz23_4
    try clear hcz23_5
    try clear hcz23_6
    try clear hcz23_7
    try clear hcz25_0
    try clear hcz25_1
    try clear hcz25_2
    try clear hcz25_3
    try clear hcz25_4
    try clear hcz25_5
    try clear hcz25_6
    try clear hcz25_7
    try clear hcz26_0
    try clear hcz26_1
    try clear hcz26_2
    try clear hcz26_3
    try clear hcz26_4
    try clear hcz26_5
    try clear hcz26_6
    try clear hcz26_7
    try clear hcz28_0
    try clear hcz28_1
    try clear hcz28_2
    try clear hcz28_3
    try clear hcz28_4
    try clear hcz28_5
    try clear hcz28_6
    try clear hcz28_7
    try clear hcz29_0
    try clear hcz29_1
    try clear hcz29_2
    try clear hcz29_3
    try clear hcz29_4
    try clear hcz29_5
    try clear hcz29_6
    try clear hcz29_7
    try clear hcz8_0
    try clear hcz8_1
    try clear hcz8_2
    try clear hcz8_3
    try clear hcz8_4
    try clear hcz8_5
    try clear hcz8_6
    try clear hcz8_7
    try clear hfz17_0
    try clear hfz17_1
    try clear hfz17_2
    try clear hfz17_3
    try clear hfz17_4
    try clear hfz17_5
    try clear hfz17_6
    try clear hfz17_7
    try clear hfz19_0
    try clear hfz19_1
    try clear hfz19_2
    try clear hfz19_3
    try clear hfz19_4
    try clear hfz19_5
    try clear hfz19_6
    try clear hfz19_7
    try clear hfz20_0
    try clear hfz20_1
    try clear hfz20_2
    try clear hfz20_3
    try clear hfz20_4
    try clear hfz20_5
    try clear hfz20_6
    try clear hfz20_7
    try clear hfz22_0
    try clear hfz22_1
    try clear hfz22_2
    try clear hfz22_3
    try clear hfz22_4
    try clear hfz22_5
    try clear hfz22_6
    try clear hfz22_7
    try clear hfz23_0
    try clear hfz23_1
    try clear hfz23_2
    try clear hfz23_3
    try clear hfz23_4
    try clear hfz23_5
    try clear hfz23_6
    try clear hfz23_7
    try clear hfz25_0
    try clear hfz25_1
    try clear hfz25_2
    try clear hfz25_3
    try clear hfz25_4
    try clear hfz25_5
    try clear hfz25_6
    try clear hfz25_7
    try clear hfz26_0
    try clear hfz26_1
    try clear hfz26_2
    try clear hfz26_3
    try clear hfz26_4
    try clear hfz26_5
    try clear hfz26_6
    try clear hfz26_7
    try clear hfz28_0
    try clear hfz28_1
    try clear hfz28_2
    try clear hfz28_3
    try clear hfz28_4
    try clear hfz28_5
    try clear hfz28_6
    try clear hfz28_7
    try clear hfz29_0
    try clear hfz29_1
    try clear hfz29_2
    try clear hfz29_3
    try clear hfz29_4
    try clear hfz29_5
    try clear hfz29_6
    try clear hfz29_7
    try clear hfz8_0
    try clear hfz8_1
    try clear hfz8_2
    try clear hfz8_3
    try clear hfz8_4
    try clear hfz8_5
    try clear hfz8_6
    try clear hfz8_7
    obtain ⟨kq, x36_1, rfl, HA, HJ1, BK137, HB⟩ := hcut
    cases kq with
    | zero => exact absurd HA.out (by simp [impl_RecPhaseOk.j0])
    | succ kj1 =>
      have H := HA.out
      clear HA
      simp only [impl_RecPhaseOk.j0] at H
      by_cases c30 : x36_1 = true
      · subst c30
        have H1 : (some false) = some r := by rw [if_pos rfl] at H; exact H
        clear H
        have H := H1
        clear H1
        obtain rfl := Option.some.inj H
        go_wp2
        go_ret
        exact ⟨by first | rfl | (simp [errW_none, errW_some] <;> rfl) | (simp [*, errW_none, errW_some] <;> rfl), by repeat (first | (with_reducible first | exact HB.out | apply below_alloc | apply pw_below_drewN | apply below_drew1 | refine below_set ?_ GE137.out) | exact HB.out)⟩
      · replace c30 := Bool.eq_false_iff.mpr c30
        subst c30
        have H1 : (if a0_1 = 1 then (impl_RecPhaseOk.j1 kj1 a0_1 (a0_1 == 1) a0_0 a0_1 a0_2 a0_3 a0_4 a0_5 a0_6 a0_7) else (impl_RecPhaseOk.j1 kj1 a0_1 (a0_1 == 2) a0_0 a0_1 a0_2 a0_3 a0_4 a0_5 a0_6 a0_7)) = some r := by rw [if_neg (show ¬ (false = true) by decide)] at H; exact H
        clear H
        have H := H1
        clear H1
        have HC31 := Aside0.mk H
        clear H
        have hcz32_0 : wc.cell? ⟨gb137, 0, none⟩ = some (.string a0_0) := (blk_cell BK137.out 0).trans rfl
        have hcz32_1 : wc.cell? ⟨gb137, 1, none⟩ = some (.int .i64 a0_1) := (blk_cell BK137.out 1).trans rfl
        have hcz32_2 : wc.cell? ⟨gb137, 2, none⟩ = some (.string a0_2) := (blk_cell BK137.out 2).trans rfl
        have hcz32_3 : wc.cell? ⟨gb137, 3, none⟩ = some (.string a0_3) := (blk_cell BK137.out 3).trans rfl
        have hcz32_4 : wc.cell? ⟨gb137, 4, none⟩ = some (.int .i64 a0_4) := (blk_cell BK137.out 4).trans rfl
        have hcz32_5 : wc.cell? ⟨gb137, 5, none⟩ = some (.int .i64 a0_5) := (blk_cell BK137.out 5).trans rfl
        have hcz32_6 : wc.cell? ⟨gb137, 6, none⟩ = some (.string a0_6) := (blk_cell BK137.out 6).trans rfl
        have hcz32_7 : wc.cell? ⟨gb137, 7, none⟩ = some (.string a0_7) := (blk_cell BK137.out 7).trans rfl
        have hfz32_0 := blk_frozen BK137.out 0
        have hfz32_1 := blk_frozen BK137.out 1
        have hfz32_2 := blk_frozen BK137.out 2
        have hfz32_3 := blk_frozen BK137.out 3
        have hfz32_4 := blk_frozen BK137.out 4
        have hfz32_5 := blk_frozen BK137.out 5
        have hfz32_6 := blk_frozen BK137.out 6
        have hfz32_7 := blk_frozen BK137.out 7
        go_upto_if 39 with (fail)
        go_cut [39] (fun v39 wc => ∃ (kq : Nat) (x39_30 : Bool), v39 = .bool x39_30 ∧ Aside0 (impl_RecPhaseOk.j1 kq a0_1 x39_30 a0_0 a0_1 a0_2 a0_3 a0_4 a0_5 a0_6 a0_7 = some r) ∧ Aside0 (kq ≤ kj1) ∧ Aside0 (wc.heap[gb137]? = some (.cells #[.string a0_0, .int .i64 a0_1, .string a0_2, .string a0_3, .int .i64 a0_4, .int .i64 a0_5, .string a0_6, .string a0_7] 39 (0, 0))) ∧ Aside0 (Below w.heap.size w wc))
        case first =>
          have H := HC31.out
          clear HC31
          by_cases c33 : a0_1 = 1
          · rw [if_pos c33] at H
            have c33b0 : (a0_1 == 1) = true := beq_iff_eq.mpr c33
            have c33b1 : (a0_1 != 1) = false := bne_eq_false_iff_eq.mpr c33
            clear c33
            (first | rw [c33b0] | (simp only [i64_w, i32_w]; rw [c33b0]) | skip)
            have H' := Aside0.mk H
            clear H
            go_wp2
            go_meet
            case rel => exact ⟨_, ((a0_1 == 1)), (by first | rfl | (simp; done) | (simp [*]; done)), H', ⟨by have := HJ1.out; first | omega | exact Nat.le_refl _⟩, ⟨by (with_reducible repeat (first | refine blk_drewN ?_ _ | refine blk_drew ?_ | refine blk_alloc ?_ _)); exact BK137.out⟩, ⟨by repeat (first | (with_reducible first | exact HB.out | apply below_alloc | apply pw_below_drewN | apply below_drew1 | refine below_set ?_ GE137.out) | exact HB.out)⟩⟩
          · rw [if_neg c33] at H
            have c33b0 : (a0_1 == 1) = false := beq_eq_false_iff_ne.mpr c33
            have c33b1 : (a0_1 != 1) = true := bne_iff_ne.mpr c33
            (first | rw [c33b0] | (simp only [i64_w, i32_w]; rw [c33b0]) | skip)
            have H' := Aside0.mk H
            clear H
            go_wp2
            go_meet
            case rel => exact ⟨_, ((a0_1 == 2)), (by first | rfl | (simp; done) | (simp [*]; done)), H', ⟨by have := HJ1.out; first | omega | exact Nat.le_refl _⟩, ⟨by (with_reducible repeat (first | refine blk_drewN ?_ _ | refine blk_drew ?_ | refine blk_alloc ?_ _)); exact BK137.out⟩, ⟨by repeat (first | (with_reducible first | exact HB.out | apply below_alloc | apply pw_below_drewN | apply below_drew1 | refine below_set ?_ GE137.out) | exact HB.out)⟩⟩
        case rest =>
          clear HC31
          try clear c1
          try clear p2
          try clear c3
          try clear c5
          try clear c7
          try clear c7b0
          try clear c11
          try clear c13
          try clear c15
          try clear c30
          try clear c33
          try clear c33b0
          try clear c33b1
          try clear hcz17_0
          try clear hcz17_1
          try clear hcz17_2
          try clear hcz17_3
          try clear hcz17_4
          try clear hcz17_5
          try clear hcz17_6
          try clear hcz17_7
          try clear hcz19_0
          try clear hcz19_1
          try clear hcz19_2
          try clear hcz19_3
          try clear hcz19_4
          try clear hcz19_5
          try clear hcz19_6
          try clear hcz19_7
          try clear hcz20_0
          try clear hcz20_1
          try clear hcz20_2
          try clear hcz20_3
          try clear hcz20_4
          try clear hcz20_5
          try clear hcz20_6
          try clear hcz20_7
          try clear hcz22_0
          try clear hcz22_1
          try clear hcz22_2
          try clear hcz22_3
          try clear hcz22_4
          try clear hcz22_5
          try clear hcz22_6
          try clear hcz22_7
          try clear hcz23_0
          try clear hcz23_1
          try clear hcz23_2
          try clear hcz23_3
          try clear hcz23_4
          try clear hcz23_5
          try clear hcz23_6
          try clear hcz23_7
          try clear hcz25_0
          try clear hcz25_1
          try clear hcz25_2
          try clear hcz25_3
          try clear hcz25_4
          try clear hcz25_5
          try clear hcz25_6
          try clear hcz25_7
          try clear hcz26_0
          try clear hcz26_1
          try clear hcz26_2
          try clear hcz26_3
          try clear hcz26_4
          try clear hcz26_5
          try clear hcz26_6
          try clear hcz26_7
          try clear hcz28_0
          try clear hcz28_1
          try clear hcz28_2
          try clear hcz28_3
          try clear hcz28_4
          try clear hcz28_5
          try clear hcz28_6
          try clear hcz28_7
          try clear hcz29_0
          try clear hcz29_1
          try clear hcz29_2
          try clear hcz29_3
          try clear hcz29_4
          try clear hcz29_5
          try clear hcz29_6
          try clear hcz29_7
          try clear hcz32_0
          try clear hcz32_1
          try clear hcz32_2
          try clear hcz32_3
          try clear hcz32_4
          try clear hcz32_5
          try clear hcz32_6
          try clear hcz32_7
          try clear hcz8_0
          try clear hcz8_1
          try clear hcz8_2
          try clear hcz8_3
          try clear hcz8_4
          try clear hcz8_5
          try clear hcz8_6
          try clear hcz8_7
          try clear hfz17_0
          try clear hfz17_1
          try clear hfz17_2
          try clear hfz17_3
          try clear hfz17_4
          try clear hfz17_5
          try clear hfz17_6
          try clear hfz17_7
          try clear hfz19_0
          try clear hfz19_1
          try clear hfz19_2
          try clear hfz19_3
          try clear hfz19_4
          try clear hfz19_5
          try clear hfz19_6
          try clear hfz19_7
          try clear hfz20_0
          try clear hfz20_1
          try clear hfz20_2
          try clear hfz20_3
          try clear hfz20_4
          try clear hfz20_5
          try clear hfz20_6
          try clear hfz20_7
          try clear hfz22_0
          try clear hfz22_1
          try clear hfz22_2
          try clear hfz22_3
          try clear hfz22_4
          try clear hfz22_5
          try clear hfz22_6
          try clear hfz22_7
          try clear hfz23_0
          try clear hfz23_1
          try clear hfz23_2
          try clear hfz23_3
          try clear hfz23_4
          try clear hfz23_5
          try clear hfz23_6
          try clear hfz23_7
          try clear hfz25_0
          try clear hfz25_1
          try clear hfz25_2
          try clear hfz25_3
          try clear hfz25_4
          try clear hfz25_5
          try clear hfz25_6
          try clear hfz25_7
          try clear hfz26_0
          try clear hfz26_1
          try clear hfz26_2
          try clear hfz26_3
          try clear hfz26_4
          try clear hfz26_5
          try clear hfz26_6
          try clear hfz26_7
          try clear hfz28_0
          try clear hfz28_1
          try clear hfz28_2
          try clear hfz28_3
          try clear hfz28_4
          try clear hfz28_5
          try clear hfz28_6
          try clear hfz28_7
          try clear hfz29_0
          try clear hfz29_1
          try clear hfz29_2
          try clear hfz29_3
          try clear hfz29_4
          try clear hfz29_5
          try clear hfz29_6
          try clear hfz29_7
          try clear hfz32_0
          try clear hfz32_1
          try clear hfz32_2
          try clear hfz32_3
          try clear hfz32_4
          try clear hfz32_5
          try clear hfz32_6
          try clear hfz32_7
          try clear hfz8_0
          try clear hfz8_1
          try clear hfz8_2
          try clear hfz8_3
          try clear hfz8_4
          try clear hfz8_5
          try clear hfz8_6
          try clear hfz8_7
          try clear p2
          obtain ⟨kq, x39_30, rfl, HA, HJ30, BK137, HB⟩ := hcut
          cases kq with
          | zero => exact absurd HA.out (by simp [impl_RecPhaseOk.j1])
          | succ kj30 =>
            have H := HA.out
            clear HA
            simp only [impl_RecPhaseOk.j1] at H
            by_cases c34 : x39_30 = true
            · subst c34
              have H1 : ((impl_name.f kj30 a0_3).bind fun t144 => (if t144 = true then ((impl_in.f a0_4 1 1000).bind fun t145 => (if t145 = true then (if a0_1 = 1 then (some true) else (some (a0_2.toList != a0_3.toList))) else (some false))) else (some false))) = some r := by rw [if_pos rfl] at H; exact H
              clear H
              have H := H1
              clear H1
              replace H := Option.bind_eq_some_iff.mp H
              obtain ⟨t144, A350, H⟩ := H
              replace H : (if t144 = true then ((impl_in.f a0_4 1 1000).bind fun t145 => (if t145 = true then (if a0_1 = 1 then (some true) else (some (a0_2.toList != a0_3.toList))) else (some false))) else (some false)) = some r := H
              have A35 := Aside0.mk A350
              clear A350
              by_cases c36 : t144 = true
              · subst c36
                have H1 : ((impl_in.f a0_4 1 1000).bind fun t145 => (if t145 = true then (if a0_1 = 1 then (some true) else (some (a0_2.toList != a0_3.toList))) else (some false))) = some r := by rw [if_pos rfl] at H; exact H
                clear H
                have H := H1
                clear H1
                replace H := Option.bind_eq_some_iff.mp H
                obtain ⟨t145, A370, H⟩ := H
                replace H : (if t145 = true then (if a0_1 = 1 then (some true) else (some (a0_2.toList != a0_3.toList))) else (some false)) = some r := H
                have A37 := Aside0.mk A370
                clear A370
                by_cases c38 : t145 = true
                · subst c38
                  have H1 : (if a0_1 = 1 then (some true) else (some (a0_2.toList != a0_3.toList))) = some r := by rw [if_pos rfl] at H; exact H
                  clear H
                  have H := H1
                  clear H1
                  by_cases c39 : a0_1 = 1
                  · rw [if_pos c39] at H
                    have c39b0 : (a0_1 == 1) = true := beq_iff_eq.mpr c39
                    have c39b1 : (a0_1 != 1) = false := bne_eq_false_iff_eq.mpr c39
                    clear c39
                    obtain rfl := Option.some.inj H
                    have hcz40_0 : wc.cell? ⟨gb137, 0, none⟩ = some (.string a0_0) := (blk_cell BK137.out 0).trans rfl
                    have hcz40_1 : wc.cell? ⟨gb137, 1, none⟩ = some (.int .i64 a0_1) := (blk_cell BK137.out 1).trans rfl
                    have hcz40_2 : wc.cell? ⟨gb137, 2, none⟩ = some (.string a0_2) := (blk_cell BK137.out 2).trans rfl
                    have hcz40_3 : wc.cell? ⟨gb137, 3, none⟩ = some (.string a0_3) := (blk_cell BK137.out 3).trans rfl
                    have hcz40_4 : wc.cell? ⟨gb137, 4, none⟩ = some (.int .i64 a0_4) := (blk_cell BK137.out 4).trans rfl
                    have hcz40_5 : wc.cell? ⟨gb137, 5, none⟩ = some (.int .i64 a0_5) := (blk_cell BK137.out 5).trans rfl
                    have hcz40_6 : wc.cell? ⟨gb137, 6, none⟩ = some (.string a0_6) := (blk_cell BK137.out 6).trans rfl
                    have hcz40_7 : wc.cell? ⟨gb137, 7, none⟩ = some (.string a0_7) := (blk_cell BK137.out 7).trans rfl
                    have hfz40_0 := blk_frozen BK137.out 0
                    have hfz40_1 := blk_frozen BK137.out 1
                    have hfz40_2 := blk_frozen BK137.out 2
                    have hfz40_3 := blk_frozen BK137.out 3
                    have hfz40_4 := blk_frozen BK137.out 4
                    have hfz40_5 := blk_frozen BK137.out 5
                    have hfz40_6 := blk_frozen BK137.out 6
                    have hfz40_7 := blk_frozen BK137.out 7
                    go_wp2_with (first | ((with_reducible refine gate_callee (f := 78) rfl ?_); refine goesL_ (some 44) rfl rfl Try.func78 (by kernel_rfl) rfl #[.string a0_3] rfl (by (try simp only [List.map_toArray, List.map_cons, List.map_nil]); first | done | rfl | (simp only [List.length_drop, List.length_take]; rfl)) ?_; (with_reducible refine (impl_name.calls kj30 a0_3 true _ A35.out).mono ?_); rintro e w' ⟨rfl, ⟨nd, rfl⟩⟩; refine ⟨_, rfl, ?_⟩) | (go_at_call 68; (with_reducible refine (impl_in.calls a0_4 1 1000 true _ A37.out).mono ?_); rintro e w' ⟨rfl, ⟨nd, rfl⟩⟩))
                    go_ret
                    exact ⟨by first | rfl | (simp [errW_none, errW_some] <;> rfl) | (simp [*, errW_none, errW_some] <;> rfl), by repeat (first | (with_reducible first | exact HB.out | apply below_alloc | apply pw_below_drewN | apply below_drew1 | refine below_set ?_ GE137.out) | exact HB.out)⟩
                  · rw [if_neg c39] at H
                    have c39b0 : (a0_1 == 1) = false := beq_eq_false_iff_ne.mpr c39
                    have c39b1 : (a0_1 != 1) = true := bne_iff_ne.mpr c39
                    obtain rfl := Option.some.inj H
                    have hcz41_0 : wc.cell? ⟨gb137, 0, none⟩ = some (.string a0_0) := (blk_cell BK137.out 0).trans rfl
                    have hcz41_1 : wc.cell? ⟨gb137, 1, none⟩ = some (.int .i64 a0_1) := (blk_cell BK137.out 1).trans rfl
                    have hcz41_2 : wc.cell? ⟨gb137, 2, none⟩ = some (.string a0_2) := (blk_cell BK137.out 2).trans rfl
                    have hcz41_3 : wc.cell? ⟨gb137, 3, none⟩ = some (.string a0_3) := (blk_cell BK137.out 3).trans rfl
                    have hcz41_4 : wc.cell? ⟨gb137, 4, none⟩ = some (.int .i64 a0_4) := (blk_cell BK137.out 4).trans rfl
                    have hcz41_5 : wc.cell? ⟨gb137, 5, none⟩ = some (.int .i64 a0_5) := (blk_cell BK137.out 5).trans rfl
                    have hcz41_6 : wc.cell? ⟨gb137, 6, none⟩ = some (.string a0_6) := (blk_cell BK137.out 6).trans rfl
                    have hcz41_7 : wc.cell? ⟨gb137, 7, none⟩ = some (.string a0_7) := (blk_cell BK137.out 7).trans rfl
                    have hfz41_0 := blk_frozen BK137.out 0
                    have hfz41_1 := blk_frozen BK137.out 1
                    have hfz41_2 := blk_frozen BK137.out 2
                    have hfz41_3 := blk_frozen BK137.out 3
                    have hfz41_4 := blk_frozen BK137.out 4
                    have hfz41_5 := blk_frozen BK137.out 5
                    have hfz41_6 := blk_frozen BK137.out 6
                    have hfz41_7 := blk_frozen BK137.out 7
                    go_wp2_with (first | ((with_reducible refine gate_callee (f := 78) rfl ?_); refine goesL_ (some 44) rfl rfl Try.func78 (by kernel_rfl) rfl #[.string a0_3] rfl (by (try simp only [List.map_toArray, List.map_cons, List.map_nil]); first | done | rfl | (simp only [List.length_drop, List.length_take]; rfl)) ?_; (with_reducible refine (impl_name.calls kj30 a0_3 true _ A35.out).mono ?_); rintro e w' ⟨rfl, ⟨nd, rfl⟩⟩; refine ⟨_, rfl, ?_⟩) | (go_at_call 68; (with_reducible refine (impl_in.calls a0_4 1 1000 true _ A37.out).mono ?_); rintro e w' ⟨rfl, ⟨nd, rfl⟩⟩))
                    go_ret
                    exact ⟨by first | rfl | (simp [errW_none, errW_some] <;> rfl) | (simp [*, errW_none, errW_some] <;> rfl), by repeat (first | (with_reducible first | exact HB.out | apply below_alloc | apply pw_below_drewN | apply below_drew1 | refine below_set ?_ GE137.out) | exact HB.out)⟩
                · replace c38 := Bool.eq_false_iff.mpr c38
                  subst c38
                  have H1 : (some false) = some r := by rw [if_neg (show ¬ (false = true) by decide)] at H; exact H
                  clear H
                  have H := H1
                  clear H1
                  obtain rfl := Option.some.inj H
                  have hcz42_0 : wc.cell? ⟨gb137, 0, none⟩ = some (.string a0_0) := (blk_cell BK137.out 0).trans rfl
                  have hcz42_1 : wc.cell? ⟨gb137, 1, none⟩ = some (.int .i64 a0_1) := (blk_cell BK137.out 1).trans rfl
                  have hcz42_2 : wc.cell? ⟨gb137, 2, none⟩ = some (.string a0_2) := (blk_cell BK137.out 2).trans rfl
                  have hcz42_3 : wc.cell? ⟨gb137, 3, none⟩ = some (.string a0_3) := (blk_cell BK137.out 3).trans rfl
                  have hcz42_4 : wc.cell? ⟨gb137, 4, none⟩ = some (.int .i64 a0_4) := (blk_cell BK137.out 4).trans rfl
                  have hcz42_5 : wc.cell? ⟨gb137, 5, none⟩ = some (.int .i64 a0_5) := (blk_cell BK137.out 5).trans rfl
                  have hcz42_6 : wc.cell? ⟨gb137, 6, none⟩ = some (.string a0_6) := (blk_cell BK137.out 6).trans rfl
                  have hcz42_7 : wc.cell? ⟨gb137, 7, none⟩ = some (.string a0_7) := (blk_cell BK137.out 7).trans rfl
                  have hfz42_0 := blk_frozen BK137.out 0
                  have hfz42_1 := blk_frozen BK137.out 1
                  have hfz42_2 := blk_frozen BK137.out 2
                  have hfz42_3 := blk_frozen BK137.out 3
                  have hfz42_4 := blk_frozen BK137.out 4
                  have hfz42_5 := blk_frozen BK137.out 5
                  have hfz42_6 := blk_frozen BK137.out 6
                  have hfz42_7 := blk_frozen BK137.out 7
                  go_wp2_with (first | ((with_reducible refine gate_callee (f := 78) rfl ?_); refine goesL_ (some 44) rfl rfl Try.func78 (by kernel_rfl) rfl #[.string a0_3] rfl (by (try simp only [List.map_toArray, List.map_cons, List.map_nil]); first | done | rfl | (simp only [List.length_drop, List.length_take]; rfl)) ?_; (with_reducible refine (impl_name.calls kj30 a0_3 true _ A35.out).mono ?_); rintro e w' ⟨rfl, ⟨nd, rfl⟩⟩; refine ⟨_, rfl, ?_⟩) | (go_at_call 68; (with_reducible refine (impl_in.calls a0_4 1 1000 false _ A37.out).mono ?_); rintro e w' ⟨rfl, ⟨nd, rfl⟩⟩))
                  go_ret
                  exact ⟨by first | rfl | (simp [errW_none, errW_some] <;> rfl) | (simp [*, errW_none, errW_some] <;> rfl), by repeat (first | (with_reducible first | exact HB.out | apply below_alloc | apply pw_below_drewN | apply below_drew1 | refine below_set ?_ GE137.out) | exact HB.out)⟩
              · replace c36 := Bool.eq_false_iff.mpr c36
                subst c36
                have H1 : (some false) = some r := by rw [if_neg (show ¬ (false = true) by decide)] at H; exact H
                clear H
                have H := H1
                clear H1
                obtain rfl := Option.some.inj H
                have hcz43_0 : wc.cell? ⟨gb137, 0, none⟩ = some (.string a0_0) := (blk_cell BK137.out 0).trans rfl
                have hcz43_1 : wc.cell? ⟨gb137, 1, none⟩ = some (.int .i64 a0_1) := (blk_cell BK137.out 1).trans rfl
                have hcz43_2 : wc.cell? ⟨gb137, 2, none⟩ = some (.string a0_2) := (blk_cell BK137.out 2).trans rfl
                have hcz43_3 : wc.cell? ⟨gb137, 3, none⟩ = some (.string a0_3) := (blk_cell BK137.out 3).trans rfl
                have hcz43_4 : wc.cell? ⟨gb137, 4, none⟩ = some (.int .i64 a0_4) := (blk_cell BK137.out 4).trans rfl
                have hcz43_5 : wc.cell? ⟨gb137, 5, none⟩ = some (.int .i64 a0_5) := (blk_cell BK137.out 5).trans rfl
                have hcz43_6 : wc.cell? ⟨gb137, 6, none⟩ = some (.string a0_6) := (blk_cell BK137.out 6).trans rfl
                have hcz43_7 : wc.cell? ⟨gb137, 7, none⟩ = some (.string a0_7) := (blk_cell BK137.out 7).trans rfl
                have hfz43_0 := blk_frozen BK137.out 0
                have hfz43_1 := blk_frozen BK137.out 1
                have hfz43_2 := blk_frozen BK137.out 2
                have hfz43_3 := blk_frozen BK137.out 3
                have hfz43_4 := blk_frozen BK137.out 4
                have hfz43_5 := blk_frozen BK137.out 5
                have hfz43_6 := blk_frozen BK137.out 6
                have hfz43_7 := blk_frozen BK137.out 7
                go_wp2_with (first | ((with_reducible refine gate_callee (f := 78) rfl ?_); refine goesL_ (some 44) rfl rfl Try.func78 (by kernel_rfl) rfl #[.string a0_3] rfl (by (try simp only [List.map_toArray, List.map_cons, List.map_nil]); first | done | rfl | (simp only [List.length_drop, List.length_take]; rfl)) ?_; (with_reducible refine (impl_name.calls kj30 a0_3 false _ A35.out).mono ?_); rintro e w' ⟨rfl, ⟨nd, rfl⟩⟩; refine ⟨_, rfl, ?_⟩))
                go_ret
                exact ⟨by first | rfl | (simp [errW_none, errW_some] <;> rfl) | (simp [*, errW_none, errW_some] <;> rfl), by repeat (first | (with_reducible first | exact HB.out | apply below_alloc | apply pw_below_drewN | apply below_drew1 | refine below_set ?_ GE137.out) | exact HB.out)⟩
            · replace c34 := Bool.eq_false_iff.mpr c34
              subst c34
              have H1 : (if a0_1 = 3 then (if a0_3.toList = ([] : List UInt8) then ((impl_in.f a0_4 1 a0_5).bind fun t146 => (some t146)) else (some false)) else (if a0_1 = 4 then (if a0_3.toList = ([] : List UInt8) then (some (a0_4 == 0)) else (some false)) else (if a0_1 = 5 then (if a0_3.toList = ([] : List UInt8) then (some (a0_4 == 0)) else (some false)) else (some false)))) = some r := by rw [if_neg (show ¬ (false = true) by decide)] at H; exact H
              clear H
              have H := H1
              clear H1
              by_cases c44 : a0_1 = 3
              · rw [if_pos c44] at H
                have c44b0 : (a0_1 == 3) = true := beq_iff_eq.mpr c44
                have c44b1 : (a0_1 != 3) = false := bne_eq_false_iff_eq.mpr c44
                clear c44
                by_cases c45 : a0_3.toList = ([] : List UInt8)
                · rw [if_pos c45] at H
                  have c45b0 : (a0_3.toList == ([] : List UInt8)) = true := beq_iff_eq.mpr c45
                  have c45b1 : (a0_3.toList != ([] : List UInt8)) = false := bne_eq_false_iff_eq.mpr c45
                  clear c45
                  replace H := Option.bind_eq_some_iff.mp H
                  obtain ⟨t146, A460, H⟩ := H
                  replace H : (some t146) = some r := H
                  have A46 := Aside0.mk A460
                  clear A460
                  obtain rfl := Option.some.inj H
                  have hcz47_0 : wc.cell? ⟨gb137, 0, none⟩ = some (.string a0_0) := (blk_cell BK137.out 0).trans rfl
                  have hcz47_1 : wc.cell? ⟨gb137, 1, none⟩ = some (.int .i64 a0_1) := (blk_cell BK137.out 1).trans rfl
                  have hcz47_2 : wc.cell? ⟨gb137, 2, none⟩ = some (.string a0_2) := (blk_cell BK137.out 2).trans rfl
                  have hcz47_3 : wc.cell? ⟨gb137, 3, none⟩ = some (.string a0_3) := (blk_cell BK137.out 3).trans rfl
                  have hcz47_4 : wc.cell? ⟨gb137, 4, none⟩ = some (.int .i64 a0_4) := (blk_cell BK137.out 4).trans rfl
                  have hcz47_5 : wc.cell? ⟨gb137, 5, none⟩ = some (.int .i64 a0_5) := (blk_cell BK137.out 5).trans rfl
                  have hcz47_6 : wc.cell? ⟨gb137, 6, none⟩ = some (.string a0_6) := (blk_cell BK137.out 6).trans rfl
                  have hcz47_7 : wc.cell? ⟨gb137, 7, none⟩ = some (.string a0_7) := (blk_cell BK137.out 7).trans rfl
                  have hfz47_0 := blk_frozen BK137.out 0
                  have hfz47_1 := blk_frozen BK137.out 1
                  have hfz47_2 := blk_frozen BK137.out 2
                  have hfz47_3 := blk_frozen BK137.out 3
                  have hfz47_4 := blk_frozen BK137.out 4
                  have hfz47_5 := blk_frozen BK137.out 5
                  have hfz47_6 := blk_frozen BK137.out 6
                  have hfz47_7 := blk_frozen BK137.out 7
                  go_wp2_with (first | (go_at_call 68; (with_reducible refine (impl_in.calls a0_4 1 a0_5 t146 _ A46.out).mono ?_); rintro e w' ⟨rfl, ⟨nd, rfl⟩⟩))
                  go_ret
                  exact ⟨by first | rfl | (simp [errW_none, errW_some] <;> rfl) | (simp [*, errW_none, errW_some] <;> rfl), by repeat (first | (with_reducible first | exact HB.out | apply below_alloc | apply pw_below_drewN | apply below_drew1 | refine below_set ?_ GE137.out) | exact HB.out)⟩
                · rw [if_neg c45] at H
                  have c45b0 : (a0_3.toList == ([] : List UInt8)) = false := beq_eq_false_iff_ne.mpr c45
                  have c45b1 : (a0_3.toList != ([] : List UInt8)) = true := bne_iff_ne.mpr c45
                  obtain rfl := Option.some.inj H
                  have hcz48_0 : wc.cell? ⟨gb137, 0, none⟩ = some (.string a0_0) := (blk_cell BK137.out 0).trans rfl
                  have hcz48_1 : wc.cell? ⟨gb137, 1, none⟩ = some (.int .i64 a0_1) := (blk_cell BK137.out 1).trans rfl
                  have hcz48_2 : wc.cell? ⟨gb137, 2, none⟩ = some (.string a0_2) := (blk_cell BK137.out 2).trans rfl
                  have hcz48_3 : wc.cell? ⟨gb137, 3, none⟩ = some (.string a0_3) := (blk_cell BK137.out 3).trans rfl
                  have hcz48_4 : wc.cell? ⟨gb137, 4, none⟩ = some (.int .i64 a0_4) := (blk_cell BK137.out 4).trans rfl
                  have hcz48_5 : wc.cell? ⟨gb137, 5, none⟩ = some (.int .i64 a0_5) := (blk_cell BK137.out 5).trans rfl
                  have hcz48_6 : wc.cell? ⟨gb137, 6, none⟩ = some (.string a0_6) := (blk_cell BK137.out 6).trans rfl
                  have hcz48_7 : wc.cell? ⟨gb137, 7, none⟩ = some (.string a0_7) := (blk_cell BK137.out 7).trans rfl
                  have hfz48_0 := blk_frozen BK137.out 0
                  have hfz48_1 := blk_frozen BK137.out 1
                  have hfz48_2 := blk_frozen BK137.out 2
                  have hfz48_3 := blk_frozen BK137.out 3
                  have hfz48_4 := blk_frozen BK137.out 4
                  have hfz48_5 := blk_frozen BK137.out 5
                  have hfz48_6 := blk_frozen BK137.out 6
                  have hfz48_7 := blk_frozen BK137.out 7
                  go_wp2
                  go_ret
                  exact ⟨by first | rfl | (simp [errW_none, errW_some] <;> rfl) | (simp [*, errW_none, errW_some] <;> rfl), by repeat (first | (with_reducible first | exact HB.out | apply below_alloc | apply pw_below_drewN | apply below_drew1 | refine below_set ?_ GE137.out) | exact HB.out)⟩
              · rw [if_neg c44] at H
                have c44b0 : (a0_1 == 3) = false := beq_eq_false_iff_ne.mpr c44
                have c44b1 : (a0_1 != 3) = true := bne_iff_ne.mpr c44
                by_cases c49 : a0_1 = 4
                · rw [if_pos c49] at H
                  have c49b0 : (a0_1 == 4) = true := beq_iff_eq.mpr c49
                  have c49b1 : (a0_1 != 4) = false := bne_eq_false_iff_eq.mpr c49
                  clear c49
                  by_cases c50 : a0_3.toList = ([] : List UInt8)
                  · rw [if_pos c50] at H
                    have c50b0 : (a0_3.toList == ([] : List UInt8)) = true := beq_iff_eq.mpr c50
                    have c50b1 : (a0_3.toList != ([] : List UInt8)) = false := bne_eq_false_iff_eq.mpr c50
                    clear c50
                    obtain rfl := Option.some.inj H
                    have hcz51_0 : wc.cell? ⟨gb137, 0, none⟩ = some (.string a0_0) := (blk_cell BK137.out 0).trans rfl
                    have hcz51_1 : wc.cell? ⟨gb137, 1, none⟩ = some (.int .i64 a0_1) := (blk_cell BK137.out 1).trans rfl
                    have hcz51_2 : wc.cell? ⟨gb137, 2, none⟩ = some (.string a0_2) := (blk_cell BK137.out 2).trans rfl
                    have hcz51_3 : wc.cell? ⟨gb137, 3, none⟩ = some (.string a0_3) := (blk_cell BK137.out 3).trans rfl
                    have hcz51_4 : wc.cell? ⟨gb137, 4, none⟩ = some (.int .i64 a0_4) := (blk_cell BK137.out 4).trans rfl
                    have hcz51_5 : wc.cell? ⟨gb137, 5, none⟩ = some (.int .i64 a0_5) := (blk_cell BK137.out 5).trans rfl
                    have hcz51_6 : wc.cell? ⟨gb137, 6, none⟩ = some (.string a0_6) := (blk_cell BK137.out 6).trans rfl
                    have hcz51_7 : wc.cell? ⟨gb137, 7, none⟩ = some (.string a0_7) := (blk_cell BK137.out 7).trans rfl
                    have hfz51_0 := blk_frozen BK137.out 0
                    have hfz51_1 := blk_frozen BK137.out 1
                    have hfz51_2 := blk_frozen BK137.out 2
                    have hfz51_3 := blk_frozen BK137.out 3
                    have hfz51_4 := blk_frozen BK137.out 4
                    have hfz51_5 := blk_frozen BK137.out 5
                    have hfz51_6 := blk_frozen BK137.out 6
                    have hfz51_7 := blk_frozen BK137.out 7
                    go_wp2
                    go_ret
                    exact ⟨by first | rfl | (simp [errW_none, errW_some] <;> rfl) | (simp [*, errW_none, errW_some] <;> rfl), by repeat (first | (with_reducible first | exact HB.out | apply below_alloc | apply pw_below_drewN | apply below_drew1 | refine below_set ?_ GE137.out) | exact HB.out)⟩
                  · rw [if_neg c50] at H
                    have c50b0 : (a0_3.toList == ([] : List UInt8)) = false := beq_eq_false_iff_ne.mpr c50
                    have c50b1 : (a0_3.toList != ([] : List UInt8)) = true := bne_iff_ne.mpr c50
                    obtain rfl := Option.some.inj H
                    have hcz52_0 : wc.cell? ⟨gb137, 0, none⟩ = some (.string a0_0) := (blk_cell BK137.out 0).trans rfl
                    have hcz52_1 : wc.cell? ⟨gb137, 1, none⟩ = some (.int .i64 a0_1) := (blk_cell BK137.out 1).trans rfl
                    have hcz52_2 : wc.cell? ⟨gb137, 2, none⟩ = some (.string a0_2) := (blk_cell BK137.out 2).trans rfl
                    have hcz52_3 : wc.cell? ⟨gb137, 3, none⟩ = some (.string a0_3) := (blk_cell BK137.out 3).trans rfl
                    have hcz52_4 : wc.cell? ⟨gb137, 4, none⟩ = some (.int .i64 a0_4) := (blk_cell BK137.out 4).trans rfl
                    have hcz52_5 : wc.cell? ⟨gb137, 5, none⟩ = some (.int .i64 a0_5) := (blk_cell BK137.out 5).trans rfl
                    have hcz52_6 : wc.cell? ⟨gb137, 6, none⟩ = some (.string a0_6) := (blk_cell BK137.out 6).trans rfl
                    have hcz52_7 : wc.cell? ⟨gb137, 7, none⟩ = some (.string a0_7) := (blk_cell BK137.out 7).trans rfl
                    have hfz52_0 := blk_frozen BK137.out 0
                    have hfz52_1 := blk_frozen BK137.out 1
                    have hfz52_2 := blk_frozen BK137.out 2
                    have hfz52_3 := blk_frozen BK137.out 3
                    have hfz52_4 := blk_frozen BK137.out 4
                    have hfz52_5 := blk_frozen BK137.out 5
                    have hfz52_6 := blk_frozen BK137.out 6
                    have hfz52_7 := blk_frozen BK137.out 7
                    go_wp2
                    go_ret
                    exact ⟨by first | rfl | (simp [errW_none, errW_some] <;> rfl) | (simp [*, errW_none, errW_some] <;> rfl), by repeat (first | (with_reducible first | exact HB.out | apply below_alloc | apply pw_below_drewN | apply below_drew1 | refine below_set ?_ GE137.out) | exact HB.out)⟩
                · rw [if_neg c49] at H
                  have c49b0 : (a0_1 == 4) = false := beq_eq_false_iff_ne.mpr c49
                  have c49b1 : (a0_1 != 4) = true := bne_iff_ne.mpr c49
                  by_cases c53 : a0_1 = 5
                  · rw [if_pos c53] at H
                    have c53b0 : (a0_1 == 5) = true := beq_iff_eq.mpr c53
                    have c53b1 : (a0_1 != 5) = false := bne_eq_false_iff_eq.mpr c53
                    clear c53
                    by_cases c54 : a0_3.toList = ([] : List UInt8)
                    · rw [if_pos c54] at H
                      have c54b0 : (a0_3.toList == ([] : List UInt8)) = true := beq_iff_eq.mpr c54
                      have c54b1 : (a0_3.toList != ([] : List UInt8)) = false := bne_eq_false_iff_eq.mpr c54
                      clear c54
                      obtain rfl := Option.some.inj H
                      have hcz55_0 : wc.cell? ⟨gb137, 0, none⟩ = some (.string a0_0) := (blk_cell BK137.out 0).trans rfl
                      have hcz55_1 : wc.cell? ⟨gb137, 1, none⟩ = some (.int .i64 a0_1) := (blk_cell BK137.out 1).trans rfl
                      have hcz55_2 : wc.cell? ⟨gb137, 2, none⟩ = some (.string a0_2) := (blk_cell BK137.out 2).trans rfl
                      have hcz55_3 : wc.cell? ⟨gb137, 3, none⟩ = some (.string a0_3) := (blk_cell BK137.out 3).trans rfl
                      have hcz55_4 : wc.cell? ⟨gb137, 4, none⟩ = some (.int .i64 a0_4) := (blk_cell BK137.out 4).trans rfl
                      have hcz55_5 : wc.cell? ⟨gb137, 5, none⟩ = some (.int .i64 a0_5) := (blk_cell BK137.out 5).trans rfl
                      have hcz55_6 : wc.cell? ⟨gb137, 6, none⟩ = some (.string a0_6) := (blk_cell BK137.out 6).trans rfl
                      have hcz55_7 : wc.cell? ⟨gb137, 7, none⟩ = some (.string a0_7) := (blk_cell BK137.out 7).trans rfl
                      have hfz55_0 := blk_frozen BK137.out 0
                      have hfz55_1 := blk_frozen BK137.out 1
                      have hfz55_2 := blk_frozen BK137.out 2
                      have hfz55_3 := blk_frozen BK137.out 3
                      have hfz55_4 := blk_frozen BK137.out 4
                      have hfz55_5 := blk_frozen BK137.out 5
                      have hfz55_6 := blk_frozen BK137.out 6
                      have hfz55_7 := blk_frozen BK137.out 7
                      go_wp2
                      go_ret
                      exact ⟨by first | rfl | (simp [errW_none, errW_some] <;> rfl) | (simp [*, errW_none, errW_some] <;> rfl), by repeat (first | (with_reducible first | exact HB.out | apply below_alloc | apply pw_below_drewN | apply below_drew1 | refine below_set ?_ GE137.out) | exact HB.out)⟩
                    · rw [if_neg c54] at H
                      have c54b0 : (a0_3.toList == ([] : List UInt8)) = false := beq_eq_false_iff_ne.mpr c54
                      have c54b1 : (a0_3.toList != ([] : List UInt8)) = true := bne_iff_ne.mpr c54
                      obtain rfl := Option.some.inj H
                      have hcz56_0 : wc.cell? ⟨gb137, 0, none⟩ = some (.string a0_0) := (blk_cell BK137.out 0).trans rfl
                      have hcz56_1 : wc.cell? ⟨gb137, 1, none⟩ = some (.int .i64 a0_1) := (blk_cell BK137.out 1).trans rfl
                      have hcz56_2 : wc.cell? ⟨gb137, 2, none⟩ = some (.string a0_2) := (blk_cell BK137.out 2).trans rfl
                      have hcz56_3 : wc.cell? ⟨gb137, 3, none⟩ = some (.string a0_3) := (blk_cell BK137.out 3).trans rfl
                      have hcz56_4 : wc.cell? ⟨gb137, 4, none⟩ = some (.int .i64 a0_4) := (blk_cell BK137.out 4).trans rfl
                      have hcz56_5 : wc.cell? ⟨gb137, 5, none⟩ = some (.int .i64 a0_5) := (blk_cell BK137.out 5).trans rfl
                      have hcz56_6 : wc.cell? ⟨gb137, 6, none⟩ = some (.string a0_6) := (blk_cell BK137.out 6).trans rfl
                      have hcz56_7 : wc.cell? ⟨gb137, 7, none⟩ = some (.string a0_7) := (blk_cell BK137.out 7).trans rfl
                      have hfz56_0 := blk_frozen BK137.out 0
                      have hfz56_1 := blk_frozen BK137.out 1
                      have hfz56_2 := blk_frozen BK137.out 2
                      have hfz56_3 := blk_frozen BK137.out 3
                      have hfz56_4 := blk_frozen BK137.out 4
                      have hfz56_5 := blk_frozen BK137.out 5
                      have hfz56_6 := blk_frozen BK137.out 6
                      have hfz56_7 := blk_frozen BK137.out 7
                      go_wp2
                      go_ret
                      exact ⟨by first | rfl | (simp [errW_none, errW_some] <;> rfl) | (simp [*, errW_none, errW_some] <;> rfl), by repeat (first | (with_reducible first | exact HB.out | apply below_alloc | apply pw_below_drewN | apply below_drew1 | refine below_set ?_ GE137.out) | exact HB.out)⟩
                  · rw [if_neg c53] at H
                    have c53b0 : (a0_1 == 5) = false := beq_eq_false_iff_ne.mpr c53
                    have c53b1 : (a0_1 != 5) = true := bne_iff_ne.mpr c53
                    obtain rfl := Option.some.inj H
                    go_wp2
                    go_ret
                    exact ⟨by first | rfl | (simp [errW_none, errW_some] <;> rfl) | (simp [*, errW_none, errW_some] <;> rfl), by repeat (first | (with_reducible first | exact HB.out | apply below_alloc | apply pw_below_drewN | apply below_drew1 | refine below_set ?_ GE137.out) | exact HB.out)⟩

end Go.Proofs.Ytdkologncoofdaa.P
-- XAt
namespace Go.Proofs.Ytdkologncoofdaa.P
open Go.RowKit Go.Proofs.YtdkologncoofdaaW.PrintWords Go.Proofs.YtdkologncoofdaaW.PrintLast
set_option linter.unusedVariables false
set_option linter.unusedSimpArgs false

/-- The first place of a phase of this name, -1 if there is none. -/
def atOf (l : List S39) (a : ByteArray) : Int := match l.findIdx? (fun p => p.f0.toList == a.toList) with | some i => (i : Int) | none => -1
def impl_at.f (l : List S39) (a : ByteArray) : Option Int := some (atOf l a)

theorem atOf_hit (l : List S39) (a : ByteArray) (k : Nat) (hk : k < l.length) (h : ((l.getD k z39).f0.toList == a.toList) = true) (hb : ∀ j, j < k → ((l.getD j z39).f0.toList == a.toList) = false) : atOf l a = k := by
  have e : l.findIdx? (fun p => p.f0.toList == a.toList) = some k := by
    rw [List.findIdx?_eq_some_iff_getElem]
    refine ⟨hk, by simpa [List.getD_eq_getElem?_getD, List.getElem?_eq_getElem hk] using h, fun j hj => ?_⟩
    have h1 := hb j hj
    have hj2 : j < l.length := by omega
    simpa [List.getD_eq_getElem?_getD, List.getElem?_eq_getElem hj2] using h1
  rw [atOf, e]
theorem atOf_miss (l : List S39) (a : ByteArray) (hb : ∀ j, j < l.length → ((l.getD j z39).f0.toList == a.toList) = false) : atOf l a = -1 := by
  have e : l.findIdx? (fun p => p.f0.toList == a.toList) = none := by
    rw [List.findIdx?_eq_none_iff]
    intro x hx
    obtain ⟨j, hj, rfl⟩ := List.getElem_of_mem hx
    have h1 := hb j hj
    simpa [List.getD_eq_getElem?_getD, List.getElem?_eq_getElem hj] using h1
  rw [atOf, e]

set_option maxHeartbeats 8000000 in
set_option maxRecDepth 100000 in
theorem at1_calls (x : S39) (n : ByteArray) (c : Nat) (w : World) (hn : w.cell? ⟨c, 0, none⟩ = some (.string n)) :
    Calls Try.prog 96 #[.agg #[.string x.f0, .int .i64 x.f1, .string x.f2, .string x.f3, .int .i64 x.f4, .int .i64 x.f5, .string x.f6, .string x.f7], .pointer (some ⟨c, 0, none⟩)] w
      fun e w' => e = .returned (.bool (x.f0.toList == n.toList)) ∧ Below w.heap.size w w' := by
  have hlt := World.block_lt_of_cell? w _ hn
  go_enter Try.func96, Try.ntmps96
  go_wp2
  go_ret
  exact ⟨rfl, (Below.refl _ _).alloc (Nat.le_refl _) _⟩

set_option maxHeartbeats 8000000 in
set_option maxRecDepth 100000 in
theorem indexFunc_calls (A0 : Option Addr) (c0 : Nat) (l0 : List S39) (n : ByteArray) (c : Nat) (w : World) (hr0 : Kd.C k39 w A0 l0.length l0)
    (hn : w.cell? ⟨c, 0, none⟩ = some (.string n)) :
    Calls Try.prog 95 #[.slice A0 l0.length c0, .func (.func 96) #[] #[.pointer (some ⟨c, 0, none⟩)]] w
      fun e w' => e = .returned (.int .i64 (atOf l0 n)) ∧ Below w.heap.size w w' := by
  have hu39 := Try.underlying39
  have hbig : l0.length ≤ 9223372036854775807 := hr0.2.1
  have HR0 := Aside0.mk hr0
  clear hr0
  have HN := Aside0.mk hn
  clear hn
  go_enter Try.func95, Try.ntmps95
  go_wp2
  go_loopg [5, 8] l0.length (fun gg _ s8 wr => ∃ kk : Nat, kk ≤ l0.length ∧ l0.length - kk ≤ gg ∧ s8 = .int .i64 kk ∧ Aside0 (Below w.heap.size w wr) ∧ Aside0 (∀ j, j < kk → ((l0.getD j z39).f0.toList == n.toList) = false))
  case atStart => exact ⟨0, Nat.zero_le _, by omega, rfl, ⟨Below.refl _ w⟩, ⟨fun j hj => absurd hj (Nat.not_lt_zero _)⟩⟩
  case round =>
    obtain ⟨kk, hkk, hg, rfl, HB, A⟩ := hrel
    by_cases hlt : kk < l0.length
    · have hltz : (kk : Int) < (l0.length : Int) := by omega
      have h0z : 0 ≤ (kk : Int) := by omega
      obtain ⟨ad, e, x0, x1, x2, x3, x4, x5, x6, x7⟩ := at_T39 HR0.out (kk : Int) h0z hltz
      cases e
      have E39 : Aside0 (rd_T39 l0 (kk : Int) = l0.getD kk z39) := ⟨by simp [rd_T39]⟩
      have hn' := (HB.out.cell (World.block_lt_of_cell? w _ HN.out)).trans HN.out
      replace x0 := (HB.out.cell (World.block_lt_of_cell? w _ x0)).trans x0
      replace x1 := (HB.out.cell (World.block_lt_of_cell? w _ x1)).trans x1
      replace x2 := (HB.out.cell (World.block_lt_of_cell? w _ x2)).trans x2
      replace x3 := (HB.out.cell (World.block_lt_of_cell? w _ x3)).trans x3
      replace x4 := (HB.out.cell (World.block_lt_of_cell? w _ x4)).trans x4
      replace x5 := (HB.out.cell (World.block_lt_of_cell? w _ x5)).trans x5
      replace x6 := (HB.out.cell (World.block_lt_of_cell? w _ x6)).trans x6
      replace x7 := (HB.out.cell (World.block_lt_of_cell? w _ x7)).trans x7
      rw [Int.toNat_natCast] at x0 x1 x2 x3 x4 x5 x6 x7
      have hcall := at1_calls (rd_T39 l0 (kk : Int)) n c wr hn'
      clear hn'
      cases hq : ((rd_T39 l0 (kk : Int)).f0.toList == n.toList) with
      | true =>
        have HQ := Aside0.mk hq
        rw [hq] at hcall
        clear hq
        go_wp2_with (go_at_call 96; refine hcall.mono ?_; rintro e w' ⟨rfl, hb'⟩)
        go_ret
        exact ⟨by rw [atOf_hit l0 n kk hlt (by rw [← E39.out]; exact HQ.out) A.out]; rfl, below_then HB.out (HB.out.size) hb'⟩
      | false =>
        have HQ := Aside0.mk hq
        rw [hq] at hcall
        clear hq
        go_wp2_with (go_at_call 96; refine hcall.mono ?_; rintro e w' ⟨rfl, hb'⟩)
        go_roundg (l0.length - (kk + 1))
        case measure => omega
        case rel =>
          refine ⟨kk + 1, by omega, by omega, by go_num, ⟨below_then HB.out (HB.out.size) hb'⟩, ⟨fun j hj => ?_⟩⟩
          by_cases e : j = kk
          · subst e
            rw [← E39.out]; exact HQ.out
          · exact A.out j (by omega)
    · have hltz : ¬ (kk : Int) < (l0.length : Int) := by omega
      have hkk2 : kk = l0.length := by omega
      subst hkk2
      go_wp2
      go_ret
      exact ⟨by rw [atOf_miss l0 n A.out]; rfl, HB.out⟩

set_option maxHeartbeats 8000000 in
set_option maxRecDepth 100000 in
theorem impl_at.calls (A0 : Option Addr) (c0 : Nat) (l0 : List (S39)) (a1 : ByteArray) (r : Int) (w : World) (hr0 : Kd.C k39 w A0 l0.length l0) (hc0 : l0.length ≤ c0) (h : impl_at.f l0 a1 = some r) :
    Calls Try.prog 69 #[.slice A0 l0.length c0, .string a1] w fun e w' => e = .returned (.int .i64 r) ∧ Below w.heap.size w w' := by
  obtain rfl := Option.some.inj h
  clear h
  have hb : Below w.heap.size w (w.alloc (.cells #[.string a1] 9)) := (Below.refl _ _).alloc (Nat.le_refl _) _
  have hcall := indexFunc_calls A0 c0 l0 a1 w.heap.size (w.alloc (.cells #[.string a1] 9)) (Kd.C_below hr0 hb) (by simp)
  have HB := Aside0.mk hb
  clear hb hr0
  go_enter Try.func69, Try.ntmps69
  go_wp2_with (go_at_call 95; refine hcall.mono ?_; rintro e w' ⟨rfl, hb'⟩)
  go_ret
  exact ⟨rfl, below_then HB.out HB.out.size hb'⟩

end Go.Proofs.Ytdkologncoofdaa.P
-- Px29
namespace Go.Proofs.Ytdkologncoofdaa.P
open Go.RowKit Go.Proofs.YtdkologncoofdaaW.PrintWords Go.Proofs.YtdkologncoofdaaW.PrintLast Go.Proofs.YtdkologncoofdaaW.PrintMore
attribute [local go_sem] max2_int min2_int max_two min_two max_three min_three max_four min_four   -- for this text's walks alone
set_option linter.unusedVariables false
set_option linter.unusedSimpArgs false

/-! ### impl_RecOk: function 36 -/
mutual
def impl_RecOk.l0 : Nat → List (S39) → List (S39) → Int → Int → Option (Bool)
  | 0, _, _, _, _ => none
  | k + 1, x0, x11, x12, x13 => if x13 < x12 then (if 0 ≤ x13 then (if x13 < (x11.length : Int) then ((impl_RecPhaseOk.f k ((rd_T39 x11 x13).f0) ((rd_T39 x11 x13).f1) ((rd_T39 x11 x13).f2) ((rd_T39 x11 x13).f3) ((rd_T39 x11 x13).f4) ((rd_T39 x11 x13).f5) ((rd_T39 x11 x13).f6) ((rd_T39 x11 x13).f7)).bind fun t317 => (if t317 = true then ((impl_at.f x0 ((rd_T39 x11 x13).f0)).bind fun t318 => (impl_RecOk.j1 k x0 x13 x11 x12 x13 (t318 != x13) ((rd_T39 x11 x13).f0) ((rd_T39 x11 x13).f1) ((rd_T39 x11 x13).f2) ((rd_T39 x11 x13).f3) ((rd_T39 x11 x13).f4) ((rd_T39 x11 x13).f5) ((rd_T39 x11 x13).f6) ((rd_T39 x11 x13).f7))) else (impl_RecOk.j1 k x0 x13 x11 x12 x13 true ((rd_T39 x11 x13).f0) ((rd_T39 x11 x13).f1) ((rd_T39 x11 x13).f2) ((rd_T39 x11 x13).f3) ((rd_T39 x11 x13).f4) ((rd_T39 x11 x13).f5) ((rd_T39 x11 x13).f6) ((rd_T39 x11 x13).f7)))) else (none)) else (none)) else (some true)
def impl_RecOk.j1 : Nat → List (S39) → Int → List (S39) → Int → Int → Bool → ByteArray → Int → ByteArray → ByteArray → Int → Int → ByteArray → ByteArray → Option (Bool)
  | 0, _, _, _, _, _, _, _, _, _, _, _, _, _, _ => none
  | k + 1, x0, x3, x11, x12, x13, x28, x317000, x317001, x317002, x317003, x317004, x317005, x317006, x317007 => if x28 = true then (some false) else ((some (([x317006, x317007] : List ByteArray) : List ByteArray)).bind fun y319 => (impl_RecOk.l1 k x0 x3 x11 x12 x13 y319 (y319.length : Int) 0))
def impl_RecOk.l1 : Nat → List (S39) → Int → List (S39) → Int → Int → List ByteArray → Int → Int → Option (Bool)
  | 0, _, _, _, _, _, _, _, _ => none
  | k + 1, x0, x3, x11, x12, x13, x33, x34, x35 => if x35 < x34 then (if 0 ≤ x35 then (if x35 < (x33.length : Int) then ((impl_RecEnd.f k (rdOf ByteArray.empty x33 x35)).bind fun t323 => (if t323 = 0 then ((impl_at.f x0 (rdOf ByteArray.empty x33 x35)).bind fun t324 => (if t324 ≤ x3 then (some false) else (impl_RecOk.l1 k x0 x3 x11 x12 x13 x33 x34 (wrap64 (x35 + 1))))) else (impl_RecOk.l1 k x0 x3 x11 x12 x13 x33 x34 (wrap64 (x35 + 1))))) else (none)) else (none)) else (impl_RecOk.l0 k x0 x11 x12 (wrap64 (x13 + 1)))
end
def impl_RecOk.f (k : Nat) (l0 : List (S39)) : Option (Bool) := (impl_in.f (l0.length : Int) 1 12).bind fun t314 => (if t314 = true then (impl_RecOk.l0 k l0 l0 (l0.length : Int) 0) else (some false))
theorem impl_RecOk.mono_l : ∀ k, (∀ y0 y1 y2 y3, LeO (impl_RecOk.l0 k y0 y1 y2 y3) (impl_RecOk.l0 (k + 1) y0 y1 y2 y3)) ∧ (∀ y0 y1 y2 y3 y4 y5 y6 y7 y8 y9 y10 y11 y12 y13, LeO (impl_RecOk.j1 k y0 y1 y2 y3 y4 y5 y6 y7 y8 y9 y10 y11 y12 y13) (impl_RecOk.j1 (k + 1) y0 y1 y2 y3 y4 y5 y6 y7 y8 y9 y10 y11 y12 y13)) ∧ (∀ y0 y1 y2 y3 y4 y5 y6 y7, LeO (impl_RecOk.l1 k y0 y1 y2 y3 y4 y5 y6 y7) (impl_RecOk.l1 (k + 1) y0 y1 y2 y3 y4 y5 y6 y7))
  | 0 => ⟨fun _ _ _ _ r h => by simp [impl_RecOk.l0] at h, fun _ _ _ _ _ _ _ _ _ _ _ _ _ _ r h => by simp [impl_RecOk.j1] at h, fun _ _ _ _ _ _ _ _ r h => by simp [impl_RecOk.l1] at h⟩
  | k + 1 => by
    obtain ⟨ih0, ih1, ih2⟩ := impl_RecOk.mono_l k
    refine ⟨?_, ?_, ?_⟩
    · intro y0 y1 y2 y3
      unfold impl_RecOk.l0
      repeat' first
      | (with_reducible exact ih0 _ _ _ _)
      | (with_reducible exact ih1 _ _ _ _ _ _ _ _ _ _ _ _ _ _)
      | (with_reducible exact ih2 _ _ _ _ _ _ _ _)
      | (with_reducible exact impl_RecEnd.mono _ _)
      | (with_reducible exact impl_RecPhaseOk.mono _ _ _ _ _ _ _ _ _)
      | (with_reducible exact LeO.refl _)
      | (with_reducible exact LeO.none _)
      | (with_reducible refine LeO.ite ?_ ?_)
      | (with_reducible refine LeO.bind ?_ (fun _ => ?_))
      | exact ih0 _ _ _ _
      | exact ih1 _ _ _ _ _ _ _ _ _ _ _ _ _ _
      | exact ih2 _ _ _ _ _ _ _ _
      | exact impl_RecEnd.mono _ _
      | exact impl_RecPhaseOk.mono _ _ _ _ _ _ _ _ _
      | exact LeO.none _
      | refine LeO.ite ?_ ?_
      | refine LeO.bind ?_ (fun _ => ?_)
    · intro y0 y1 y2 y3 y4 y5 y6 y7 y8 y9 y10 y11 y12 y13
      unfold impl_RecOk.j1
      repeat' first
      | (with_reducible exact ih0 _ _ _ _)
      | (with_reducible exact ih1 _ _ _ _ _ _ _ _ _ _ _ _ _ _)
      | (with_reducible exact ih2 _ _ _ _ _ _ _ _)
      | (with_reducible exact impl_RecEnd.mono _ _)
      | (with_reducible exact impl_RecPhaseOk.mono _ _ _ _ _ _ _ _ _)
      | (with_reducible exact LeO.refl _)
      | (with_reducible exact LeO.none _)
      | (with_reducible refine LeO.ite ?_ ?_)
      | (with_reducible refine LeO.bind ?_ (fun _ => ?_))
      | exact ih0 _ _ _ _
      | exact ih1 _ _ _ _ _ _ _ _ _ _ _ _ _ _
      | exact ih2 _ _ _ _ _ _ _ _
      | exact impl_RecEnd.mono _ _
      | exact impl_RecPhaseOk.mono _ _ _ _ _ _ _ _ _
      | exact LeO.none _
      | refine LeO.ite ?_ ?_
      | refine LeO.bind ?_ (fun _ => ?_)
    · intro y0 y1 y2 y3 y4 y5 y6 y7
      unfold impl_RecOk.l1
      repeat' first
      | (with_reducible exact ih0 _ _ _ _)
      | (with_reducible exact ih1 _ _ _ _ _ _ _ _ _ _ _ _ _ _)
      | (with_reducible exact ih2 _ _ _ _ _ _ _ _)
      | (with_reducible exact impl_RecEnd.mono _ _)
      | (with_reducible exact impl_RecPhaseOk.mono _ _ _ _ _ _ _ _ _)
      | (with_reducible exact LeO.refl _)
      | (with_reducible exact LeO.none _)
      | (with_reducible refine LeO.ite ?_ ?_)
      | (with_reducible refine LeO.bind ?_ (fun _ => ?_))
      | exact ih0 _ _ _ _
      | exact ih1 _ _ _ _ _ _ _ _ _ _ _ _ _ _
      | exact ih2 _ _ _ _ _ _ _ _
      | exact impl_RecEnd.mono _ _
      | exact impl_RecPhaseOk.mono _ _ _ _ _ _ _ _ _
      | exact LeO.none _
      | refine LeO.ite ?_ ?_
      | refine LeO.bind ?_ (fun _ => ?_)
theorem impl_RecOk.mono : ∀ a0 k, LeO (impl_RecOk.f k a0) (impl_RecOk.f (k + 1) a0) := by
  intro a0 k
  obtain ⟨ih0, ih1, ih2⟩ := impl_RecOk.mono_l k
  unfold impl_RecOk.f
  repeat' first
      | (with_reducible exact ih0 _ _ _ _)
      | (with_reducible exact ih1 _ _ _ _ _ _ _ _ _ _ _ _ _ _)
      | (with_reducible exact ih2 _ _ _ _ _ _ _ _)
      | (with_reducible exact impl_RecEnd.mono _ _)
      | (with_reducible exact impl_RecPhaseOk.mono _ _ _ _ _ _ _ _ _)
      | (with_reducible exact LeO.refl _)
      | (with_reducible exact LeO.none _)
      | (with_reducible refine LeO.ite ?_ ?_)
      | (with_reducible refine LeO.bind ?_ (fun _ => ?_))
      | exact ih0 _ _ _ _
      | exact ih1 _ _ _ _ _ _ _ _ _ _ _ _ _ _
      | exact ih2 _ _ _ _ _ _ _ _
      | exact impl_RecEnd.mono _ _
      | exact impl_RecPhaseOk.mono _ _ _ _ _ _ _ _ _
      | exact LeO.none _
      | refine LeO.ite ?_ ?_
      | refine LeO.bind ?_ (fun _ => ?_)
set_option maxHeartbeats 8000000 in
set_option maxRecDepth 100000 in
theorem impl_RecOk.calls (k : Nat) (A0 : Option Addr) (c0 : Nat) (l0 : List (S39)) (r : Bool) (w : World) (hr0 : Kd.C k39 w A0 l0.length l0) (hc0 : l0.length ≤ c0) (h : impl_RecOk.f k l0 = some r) :
    Calls Try.prog 36 #[.slice A0 l0.length c0] w fun e w' => e = .returned (.bool r) ∧ Below w.heap.size w w' := by
  have hu39 := Try.underlying39
  have HR0 := Aside0.mk hr0
  have HC0 := Aside0.mk hc0
  clear hr0 hc0
  have HB := Aside0.mk (Below.refl w.heap.size w)
  have H : ((impl_in.f (l0.length : Int) 1 12).bind fun t314 => (if t314 = true then (impl_RecOk.l0 k l0 l0 (l0.length : Int) 0) else (some false))) = some r := h
  clear h
  replace H := Option.bind_eq_some_iff.mp H
  obtain ⟨t314, A20, H⟩ := H
  replace H : (if t314 = true then (impl_RecOk.l0 k l0 l0 (l0.length : Int) 0) else (some false)) = some r := H
  have A2 := Aside0.mk A20
  clear A20
  by_cases c3 : t314 = true
  · subst c3
    have H1 : (impl_RecOk.l0 k l0 l0 (l0.length : Int) 0) = some r := by rw [if_pos rfl] at H; exact H
    clear H
    have H := H1
    clear H1
    have H' := Aside0.mk H
    clear H
    go_enter Try.func36, Try.ntmps36
    go_wp2_with (first | ((with_reducible refine gate_callee (f := 68) rfl ?_); refine goesL_ (some 9) rfl rfl Try.func68 (by kernel_rfl) rfl #[.int .i64 (l0.length : Int), .int .i64 1, .int .i64 12] rfl (by (try simp only [List.map_toArray, List.map_cons, List.map_nil]); first | done | rfl | (simp only [List.length_drop, List.length_take]; rfl)) ?_; (with_reducible refine (impl_in.calls (l0.length : Int) 1 12 true _ A2.out).mono ?_); rintro e w' ⟨rfl, ⟨nd, rfl⟩⟩; refine ⟨_, rfl, ?_⟩))
    go_loopg [13] k (fun kq v13 w' => ∃ (x13_1 : Int), v13 = .int .i64 x13_1 ∧ Aside0 (impl_RecOk.l0 kq l0 l0 (l0.length : Int) x13_1 = some r) ∧ Aside0 (kq ≤ k) ∧ Aside0 (Below w.heap.size w w'))
    case atStart => exact ⟨(0), (by first | rfl | (simp; done) | (simp [*]; done)), H', ⟨Nat.le_refl _⟩, ⟨by repeat (first | (with_reducible first | exact HB.out | apply below_alloc | apply pw_below_drewN | apply below_drew1) | exact HB.out)⟩⟩
    case round =>
      clear H'
      try clear p2
      try clear c3
      obtain ⟨x13_1, rfl, HA, HK1, HB⟩ := hrel
      cases gk with
      | zero => exact absurd HA.out (by simp [impl_RecOk.l0])
      | succ k1 =>
        have H := HA.out
        clear HA
        simp only [impl_RecOk.l0] at H
        by_cases c4 : x13_1 < (l0.length : Int)
        · rw [if_pos c4] at H
          have c4b0 : decide (x13_1 < (l0.length : Int)) = true := decide_eq_true c4
          clear c4
          by_cases c5 : 0 ≤ x13_1
          · rw [if_pos c5] at H
            have c5b0 : decide (0 ≤ x13_1) = true := decide_eq_true c5
            clear c5
            by_cases c6 : x13_1 < (l0.length : Int)
            · rw [if_pos c6] at H
              have c6b0 : decide (x13_1 < (l0.length : Int)) = true := decide_eq_true c6
              clear c6
              have HC7 := Aside0.mk H
              clear H
              have p315 : 0 ≤ (x13_1 : Int) := of_decide_eq_true (by first | (with_reducible assumption) | assumption)
              have q315 : x13_1 < (l0.length : Int) := of_decide_eq_true (by first | (with_reducible assumption) | assumption)
              obtain ⟨ad315, e315, hx315_0, hx315_1, hx315_2, hx315_3, hx315_4, hx315_5, hx315_6, hx315_7⟩ := at_T39 HR0.out x13_1 p315 q315
              cases e315
              replace hx315_0 := (HB.out.cell (World.block_lt_of_cell? w _ hx315_0)).trans hx315_0
              replace hx315_1 := (HB.out.cell (World.block_lt_of_cell? w _ hx315_1)).trans hx315_1
              replace hx315_2 := (HB.out.cell (World.block_lt_of_cell? w _ hx315_2)).trans hx315_2
              replace hx315_3 := (HB.out.cell (World.block_lt_of_cell? w _ hx315_3)).trans hx315_3
              replace hx315_4 := (HB.out.cell (World.block_lt_of_cell? w _ hx315_4)).trans hx315_4
              replace hx315_5 := (HB.out.cell (World.block_lt_of_cell? w _ hx315_5)).trans hx315_5
              replace hx315_6 := (HB.out.cell (World.block_lt_of_cell? w _ hx315_6)).trans hx315_6
              replace hx315_7 := (HB.out.cell (World.block_lt_of_cell? w _ hx315_7)).trans hx315_7
              replace p315 := eq_true p315
              replace q315 := eq_true q315
              go_upto_region 6 with (first | ((with_reducible refine gate_dst (N := 4) rfl ?_); refine box_event ?hg (N := 4) ?hd (cs := #[.string (⟨#[]⟩ : ByteArray), .int .i64 0, .string (⟨#[]⟩ : ByteArray), .string (⟨#[]⟩ : ByteArray), .int .i64 0, .int .i64 0, .string (⟨#[]⟩ : ByteArray), .string (⟨#[]⟩ : ByteArray)]) (t := 39) ?hr ?_; (case hd => rfl); (case hg => rfl); (case hr => first | (go_simp; done) | (go_simp; rfl)); intro gb316 hg w8 hbox hb; have n0_ := Aside0.mk (below_step (by repeat (first | (with_reducible first | exact HB.out | apply below_alloc | apply pw_below_drewN | apply below_drew1) | exact HB.out)) hb); have n1_ := Aside0.mk (hbox); have n2_ := Aside0.mk ((by rw [hg]; exact (below_size (by repeat (first | (with_reducible first | exact HB.out | apply below_alloc | apply pw_below_drewN | apply below_drew1) | exact HB.out))) : w.heap.size ≤ gb316)); have n3_ := Aside0.mk ((by rw [hg]; exact (below_size (by repeat (first | (with_reducible first | exact HB.out | apply below_alloc | apply pw_below_drewN | apply below_drew1) | exact HB.out))) : w.heap.size ≤ gb316)); clear HB; have HB := n0_; have BK316 := n1_; have GW316 := n2_; have GE316 := n3_; clear n0_ n1_ n2_ n3_; clear hb hbox hg; have hcz9_0 : w8.cell? ⟨gb316, 0, none⟩ = some (.string (⟨#[]⟩ : ByteArray)) := (blk_cell BK316.out 0).trans rfl; have hcz9_1 : w8.cell? ⟨gb316, 1, none⟩ = some (.int .i64 0) := (blk_cell BK316.out 1).trans rfl; have hcz9_2 : w8.cell? ⟨gb316, 2, none⟩ = some (.string (⟨#[]⟩ : ByteArray)) := (blk_cell BK316.out 2).trans rfl; have hcz9_3 : w8.cell? ⟨gb316, 3, none⟩ = some (.string (⟨#[]⟩ : ByteArray)) := (blk_cell BK316.out 3).trans rfl; have hcz9_4 : w8.cell? ⟨gb316, 4, none⟩ = some (.int .i64 0) := (blk_cell BK316.out 4).trans rfl; have hcz9_5 : w8.cell? ⟨gb316, 5, none⟩ = some (.int .i64 0) := (blk_cell BK316.out 5).trans rfl; have hcz9_6 : w8.cell? ⟨gb316, 6, none⟩ = some (.string (⟨#[]⟩ : ByteArray)) := (blk_cell BK316.out 6).trans rfl; have hcz9_7 : w8.cell? ⟨gb316, 7, none⟩ = some (.string (⟨#[]⟩ : ByteArray)) := (blk_cell BK316.out 7).trans rfl; have hfz9_0 := blk_frozen BK316.out 0; have hfz9_1 := blk_frozen BK316.out 1; have hfz9_2 := blk_frozen BK316.out 2; have hfz9_3 := blk_frozen BK316.out 3; have hfz9_4 := blk_frozen BK316.out 4; have hfz9_5 := blk_frozen BK316.out 5; have hfz9_6 := blk_frozen BK316.out 6; have hfz9_7 := blk_frozen BK316.out 7))
              (try simp only [Act.put, List.setIfInBounds_toArray, List.set_cons_zero, List.set_cons_succ])
              go_cut [28] (fun v28 wc => ∃ (kq : Nat) (x28_6 : Bool), v28 = .bool x28_6 ∧ Aside0 (impl_RecOk.j1 kq l0 x13_1 l0 (l0.length : Int) x13_1 x28_6 ((rd_T39 l0 x13_1).f0) ((rd_T39 l0 x13_1).f1) ((rd_T39 l0 x13_1).f2) ((rd_T39 l0 x13_1).f3) ((rd_T39 l0 x13_1).f4) ((rd_T39 l0 x13_1).f5) ((rd_T39 l0 x13_1).f6) ((rd_T39 l0 x13_1).f7) = some r) ∧ Aside0 (kq ≤ k1) ∧ Aside0 (wc.heap[gb316]? = some (.cells #[.string ((rd_T39 l0 x13_1).f0), .int .i64 ((rd_T39 l0 x13_1).f1), .string ((rd_T39 l0 x13_1).f2), .string ((rd_T39 l0 x13_1).f3), .int .i64 ((rd_T39 l0 x13_1).f4), .int .i64 ((rd_T39 l0 x13_1).f5), .string ((rd_T39 l0 x13_1).f6), .string ((rd_T39 l0 x13_1).f7)] 39 (0, 0))) ∧ Aside0 (Below w.heap.size w wc))
              case first =>
                have H := HC7.out
                clear HC7
                replace H := Option.bind_eq_some_iff.mp H
                obtain ⟨t317, A100, H⟩ := H
                replace H : (if t317 = true then ((impl_at.f l0 ((rd_T39 l0 x13_1).f0)).bind fun t318 => (impl_RecOk.j1 k1 l0 x13_1 l0 (l0.length : Int) x13_1 (t318 != x13_1) ((rd_T39 l0 x13_1).f0) ((rd_T39 l0 x13_1).f1) ((rd_T39 l0 x13_1).f2) ((rd_T39 l0 x13_1).f3) ((rd_T39 l0 x13_1).f4) ((rd_T39 l0 x13_1).f5) ((rd_T39 l0 x13_1).f6) ((rd_T39 l0 x13_1).f7))) else (impl_RecOk.j1 k1 l0 x13_1 l0 (l0.length : Int) x13_1 true ((rd_T39 l0 x13_1).f0) ((rd_T39 l0 x13_1).f1) ((rd_T39 l0 x13_1).f2) ((rd_T39 l0 x13_1).f3) ((rd_T39 l0 x13_1).f4) ((rd_T39 l0 x13_1).f5) ((rd_T39 l0 x13_1).f6) ((rd_T39 l0 x13_1).f7))) = some r := H
                have A10 := Aside0.mk A100
                clear A100
                by_cases c11 : t317 = true
                · subst c11
                  have H1 : ((impl_at.f l0 ((rd_T39 l0 x13_1).f0)).bind fun t318 => (impl_RecOk.j1 k1 l0 x13_1 l0 (l0.length : Int) x13_1 (t318 != x13_1) ((rd_T39 l0 x13_1).f0) ((rd_T39 l0 x13_1).f1) ((rd_T39 l0 x13_1).f2) ((rd_T39 l0 x13_1).f3) ((rd_T39 l0 x13_1).f4) ((rd_T39 l0 x13_1).f5) ((rd_T39 l0 x13_1).f6) ((rd_T39 l0 x13_1).f7))) = some r := by rw [if_pos rfl] at H; exact H
                  clear H
                  have H := H1
                  clear H1
                  replace H := Option.bind_eq_some_iff.mp H
                  obtain ⟨t318, A120, H⟩ := H
                  replace H : (impl_RecOk.j1 k1 l0 x13_1 l0 (l0.length : Int) x13_1 (t318 != x13_1) ((rd_T39 l0 x13_1).f0) ((rd_T39 l0 x13_1).f1) ((rd_T39 l0 x13_1).f2) ((rd_T39 l0 x13_1).f3) ((rd_T39 l0 x13_1).f4) ((rd_T39 l0 x13_1).f5) ((rd_T39 l0 x13_1).f6) ((rd_T39 l0 x13_1).f7)) = some r := H
                  have A12 := Aside0.mk A120
                  clear A120
                  have H' := Aside0.mk H
                  clear H
                  have hcz13_0 : w8.cell? ⟨gb316, 0, none⟩ = some (.string (⟨#[]⟩ : ByteArray)) := (blk_cell BK316.out 0).trans rfl
                  have hcz13_1 : w8.cell? ⟨gb316, 1, none⟩ = some (.int .i64 0) := (blk_cell BK316.out 1).trans rfl
                  have hcz13_2 : w8.cell? ⟨gb316, 2, none⟩ = some (.string (⟨#[]⟩ : ByteArray)) := (blk_cell BK316.out 2).trans rfl
                  have hcz13_3 : w8.cell? ⟨gb316, 3, none⟩ = some (.string (⟨#[]⟩ : ByteArray)) := (blk_cell BK316.out 3).trans rfl
                  have hcz13_4 : w8.cell? ⟨gb316, 4, none⟩ = some (.int .i64 0) := (blk_cell BK316.out 4).trans rfl
                  have hcz13_5 : w8.cell? ⟨gb316, 5, none⟩ = some (.int .i64 0) := (blk_cell BK316.out 5).trans rfl
                  have hcz13_6 : w8.cell? ⟨gb316, 6, none⟩ = some (.string (⟨#[]⟩ : ByteArray)) := (blk_cell BK316.out 6).trans rfl
                  have hcz13_7 : w8.cell? ⟨gb316, 7, none⟩ = some (.string (⟨#[]⟩ : ByteArray)) := (blk_cell BK316.out 7).trans rfl
                  have hfz13_0 := blk_frozen BK316.out 0
                  have hfz13_1 := blk_frozen BK316.out 1
                  have hfz13_2 := blk_frozen BK316.out 2
                  have hfz13_3 := blk_frozen BK316.out 3
                  have hfz13_4 := blk_frozen BK316.out 4
                  have hfz13_5 := blk_frozen BK316.out 5
                  have hfz13_6 := blk_frozen BK316.out 6
                  have hfz13_7 := blk_frozen BK316.out 7
                  go_wp2_with (first | ((with_reducible refine gate_callee (f := 34) rfl ?_); refine goesL_ (some 19) rfl rfl Try.func34 (by kernel_rfl) rfl #[.agg #[.string ((rd_T39 l0 x13_1).f0), .int .i64 ((rd_T39 l0 x13_1).f1), .string ((rd_T39 l0 x13_1).f2), .string ((rd_T39 l0 x13_1).f3), .int .i64 ((rd_T39 l0 x13_1).f4), .int .i64 ((rd_T39 l0 x13_1).f5), .string ((rd_T39 l0 x13_1).f6), .string ((rd_T39 l0 x13_1).f7)]] rfl (by (try simp only [List.map_toArray, List.map_cons, List.map_nil]); first | done | rfl | (simp only [List.length_drop, List.length_take]; rfl)) ?_; (with_reducible refine (impl_RecPhaseOk.calls k1 ((rd_T39 l0 x13_1).f0) ((rd_T39 l0 x13_1).f1) ((rd_T39 l0 x13_1).f2) ((rd_T39 l0 x13_1).f3) ((rd_T39 l0 x13_1).f4) ((rd_T39 l0 x13_1).f5) ((rd_T39 l0 x13_1).f6) ((rd_T39 l0 x13_1).f7) true _ A10.out).mono ?_); rintro e w14 ⟨rfl, hb⟩; refine ⟨_, rfl, ?_⟩; have n0_ := Aside0.mk (blk_below (g := gb316) (o := .cells #[.string ((rd_T39 l0 x13_1).f0), .int .i64 ((rd_T39 l0 x13_1).f1), .string ((rd_T39 l0 x13_1).f2), .string ((rd_T39 l0 x13_1).f3), .int .i64 ((rd_T39 l0 x13_1).f4), .int .i64 ((rd_T39 l0 x13_1).f5), .string ((rd_T39 l0 x13_1).f6), .string ((rd_T39 l0 x13_1).f7)] 39 (0, 0)) (by (with_reducible repeat (first | refine blk_drewN ?_ _ | refine blk_drew ?_ | refine blk_alloc ?_ _)); refine blk_put (cs := #[.string ((rd_T39 l0 x13_1).f0), .int .i64 ((rd_T39 l0 x13_1).f1), .string ((rd_T39 l0 x13_1).f2), .string ((rd_T39 l0 x13_1).f3), .int .i64 ((rd_T39 l0 x13_1).f4), .int .i64 ((rd_T39 l0 x13_1).f5), .string ((rd_T39 l0 x13_1).f6), .string (⟨#[]⟩ : ByteArray)]) ?_ 7 _ rfl; (with_reducible repeat (first | refine blk_drewN ?_ _ | refine blk_drew ?_ | refine blk_alloc ?_ _)); refine blk_put (cs := #[.string ((rd_T39 l0 x13_1).f0), .int .i64 ((rd_T39 l0 x13_1).f1), .string ((rd_T39 l0 x13_1).f2), .string ((rd_T39 l0 x13_1).f3), .int .i64 ((rd_T39 l0 x13_1).f4), .int .i64 ((rd_T39 l0 x13_1).f5), .string (⟨#[]⟩ : ByteArray), .string (⟨#[]⟩ : ByteArray)]) ?_ 6 _ rfl; (with_reducible repeat (first | refine blk_drewN ?_ _ | refine blk_drew ?_ | refine blk_alloc ?_ _)); refine blk_put (cs := #[.string ((rd_T39 l0 x13_1).f0), .int .i64 ((rd_T39 l0 x13_1).f1), .string ((rd_T39 l0 x13_1).f2), .string ((rd_T39 l0 x13_1).f3), .int .i64 ((rd_T39 l0 x13_1).f4), .int .i64 0, .string (⟨#[]⟩ : ByteArray), .string (⟨#[]⟩ : ByteArray)]) ?_ 5 _ rfl; (with_reducible repeat (first | refine blk_drewN ?_ _ | refine blk_drew ?_ | refine blk_alloc ?_ _)); refine blk_put (cs := #[.string ((rd_T39 l0 x13_1).f0), .int .i64 ((rd_T39 l0 x13_1).f1), .string ((rd_T39 l0 x13_1).f2), .string ((rd_T39 l0 x13_1).f3), .int .i64 0, .int .i64 0, .string (⟨#[]⟩ : ByteArray), .string (⟨#[]⟩ : ByteArray)]) ?_ 4 _ rfl; (with_reducible repeat (first | refine blk_drewN ?_ _ | refine blk_drew ?_ | refine blk_alloc ?_ _)); refine blk_put (cs := #[.string ((rd_T39 l0 x13_1).f0), .int .i64 ((rd_T39 l0 x13_1).f1), .string ((rd_T39 l0 x13_1).f2), .string (⟨#[]⟩ : ByteArray), .int .i64 0, .int .i64 0, .string (⟨#[]⟩ : ByteArray), .string (⟨#[]⟩ : ByteArray)]) ?_ 3 _ rfl; (with_reducible repeat (first | refine blk_drewN ?_ _ | refine blk_drew ?_ | refine blk_alloc ?_ _)); refine blk_put (cs := #[.string ((rd_T39 l0 x13_1).f0), .int .i64 ((rd_T39 l0 x13_1).f1), .string (⟨#[]⟩ : ByteArray), .string (⟨#[]⟩ : ByteArray), .int .i64 0, .int .i64 0, .string (⟨#[]⟩ : ByteArray), .string (⟨#[]⟩ : ByteArray)]) ?_ 2 _ rfl; (with_reducible repeat (first | refine blk_drewN ?_ _ | refine blk_drew ?_ | refine blk_alloc ?_ _)); refine blk_put (cs := #[.string ((rd_T39 l0 x13_1).f0), .int .i64 0, .string (⟨#[]⟩ : ByteArray), .string (⟨#[]⟩ : ByteArray), .int .i64 0, .int .i64 0, .string (⟨#[]⟩ : ByteArray), .string (⟨#[]⟩ : ByteArray)]) ?_ 1 _ rfl; (with_reducible repeat (first | refine blk_drewN ?_ _ | refine blk_drew ?_ | refine blk_alloc ?_ _)); refine blk_put (cs := #[.string (⟨#[]⟩ : ByteArray), .int .i64 0, .string (⟨#[]⟩ : ByteArray), .string (⟨#[]⟩ : ByteArray), .int .i64 0, .int .i64 0, .string (⟨#[]⟩ : ByteArray), .string (⟨#[]⟩ : ByteArray)]) ?_ 0 _ rfl; (with_reducible repeat (first | refine blk_drewN ?_ _ | refine blk_drew ?_ | refine blk_alloc ?_ _)); exact BK316.out) hb); have n1_ := Aside0.mk (below_step (by repeat (first | (with_reducible first | exact HB.out | apply below_alloc | apply pw_below_drewN | apply below_drew1 | refine below_set ?_ GE316.out) | exact HB.out)) hb); clear BK316; clear HB; have BK316 := n0_; have HB := n1_; clear n0_ n1_; (try clear hb); (try clear hb2); (try clear hk); (try clear hi); have hcz15_0 : w14.cell? ⟨gb316, 0, none⟩ = some (.string ((rd_T39 l0 x13_1).f0)) := (blk_cell BK316.out 0).trans rfl; have hcz15_1 : w14.cell? ⟨gb316, 1, none⟩ = some (.int .i64 ((rd_T39 l0 x13_1).f1)) := (blk_cell BK316.out 1).trans rfl; have hcz15_2 : w14.cell? ⟨gb316, 2, none⟩ = some (.string ((rd_T39 l0 x13_1).f2)) := (blk_cell BK316.out 2).trans rfl; have hcz15_3 : w14.cell? ⟨gb316, 3, none⟩ = some (.string ((rd_T39 l0 x13_1).f3)) := (blk_cell BK316.out 3).trans rfl; have hcz15_4 : w14.cell? ⟨gb316, 4, none⟩ = some (.int .i64 ((rd_T39 l0 x13_1).f4)) := (blk_cell BK316.out 4).trans rfl; have hcz15_5 : w14.cell? ⟨gb316, 5, none⟩ = some (.int .i64 ((rd_T39 l0 x13_1).f5)) := (blk_cell BK316.out 5).trans rfl; have hcz15_6 : w14.cell? ⟨gb316, 6, none⟩ = some (.string ((rd_T39 l0 x13_1).f6)) := (blk_cell BK316.out 6).trans rfl; have hcz15_7 : w14.cell? ⟨gb316, 7, none⟩ = some (.string ((rd_T39 l0 x13_1).f7)) := (blk_cell BK316.out 7).trans rfl; have hfz15_0 := blk_frozen BK316.out 0; have hfz15_1 := blk_frozen BK316.out 1; have hfz15_2 := blk_frozen BK316.out 2; have hfz15_3 := blk_frozen BK316.out 3; have hfz15_4 := blk_frozen BK316.out 4; have hfz15_5 := blk_frozen BK316.out 5; have hfz15_6 := blk_frozen BK316.out 6; have hfz15_7 := blk_frozen BK316.out 7) | (go_at_call 69; (with_reducible refine (impl_at.calls _ _ l0 ((rd_T39 l0 x13_1).f0) t318 _ ?side1 ?side2 A12.out).mono ?_); (case side1 => repeat (first | exact (Kd.C_below HR0.out HB.out) | (with_reducible refine Kd.C_alloc ?_ _) | (with_reducible refine Kd.C_drewN ?_ _) | (with_reducible refine Kd.C_drew ?_))); (case side2 => exact HC0.out); rintro e w16 ⟨rfl, hb⟩; have n0_ := Aside0.mk (blk_below (g := gb316) (o := .cells #[.string ((rd_T39 l0 x13_1).f0), .int .i64 ((rd_T39 l0 x13_1).f1), .string ((rd_T39 l0 x13_1).f2), .string ((rd_T39 l0 x13_1).f3), .int .i64 ((rd_T39 l0 x13_1).f4), .int .i64 ((rd_T39 l0 x13_1).f5), .string ((rd_T39 l0 x13_1).f6), .string ((rd_T39 l0 x13_1).f7)] 39 (0, 0)) (by (with_reducible repeat (first | refine blk_drewN ?_ _ | refine blk_drew ?_ | refine blk_alloc ?_ _)); exact BK316.out) hb); have n1_ := Aside0.mk (below_step (by repeat (first | (with_reducible first | exact HB.out | apply below_alloc | apply pw_below_drewN | apply below_drew1 | refine below_set ?_ GE316.out) | exact HB.out)) hb); clear BK316; clear HB; have BK316 := n0_; have HB := n1_; clear n0_ n1_; (try clear hb); (try clear hb2); (try clear hk); (try clear hi)))
                  go_meet
                  case rel => exact ⟨_, ((t318 != x13_1)), (by first | rfl | (simp; done) | (simp [*]; done)), H', ⟨by have := HK1.out; first | omega | exact Nat.le_refl _⟩, ⟨by (with_reducible repeat (first | refine blk_drewN ?_ _ | refine blk_drew ?_ | refine blk_alloc ?_ _)); exact BK316.out⟩, ⟨by repeat (first | (with_reducible first | exact HB.out | apply below_alloc | apply pw_below_drewN | apply below_drew1 | refine below_set ?_ GE316.out) | exact HB.out)⟩⟩
                · replace c11 := Bool.eq_false_iff.mpr c11
                  subst c11
                  have H1 : (impl_RecOk.j1 k1 l0 x13_1 l0 (l0.length : Int) x13_1 true ((rd_T39 l0 x13_1).f0) ((rd_T39 l0 x13_1).f1) ((rd_T39 l0 x13_1).f2) ((rd_T39 l0 x13_1).f3) ((rd_T39 l0 x13_1).f4) ((rd_T39 l0 x13_1).f5) ((rd_T39 l0 x13_1).f6) ((rd_T39 l0 x13_1).f7)) = some r := by rw [if_neg (show ¬ (false = true) by decide)] at H; exact H
                  clear H
                  have H := H1
                  clear H1
                  have H' := Aside0.mk H
                  clear H
                  have hcz17_0 : w8.cell? ⟨gb316, 0, none⟩ = some (.string (⟨#[]⟩ : ByteArray)) := (blk_cell BK316.out 0).trans rfl
                  have hcz17_1 : w8.cell? ⟨gb316, 1, none⟩ = some (.int .i64 0) := (blk_cell BK316.out 1).trans rfl
                  have hcz17_2 : w8.cell? ⟨gb316, 2, none⟩ = some (.string (⟨#[]⟩ : ByteArray)) := (blk_cell BK316.out 2).trans rfl
                  have hcz17_3 : w8.cell? ⟨gb316, 3, none⟩ = some (.string (⟨#[]⟩ : ByteArray)) := (blk_cell BK316.out 3).trans rfl
                  have hcz17_4 : w8.cell? ⟨gb316, 4, none⟩ = some (.int .i64 0) := (blk_cell BK316.out 4).trans rfl
                  have hcz17_5 : w8.cell? ⟨gb316, 5, none⟩ = some (.int .i64 0) := (blk_cell BK316.out 5).trans rfl
                  have hcz17_6 : w8.cell? ⟨gb316, 6, none⟩ = some (.string (⟨#[]⟩ : ByteArray)) := (blk_cell BK316.out 6).trans rfl
                  have hcz17_7 : w8.cell? ⟨gb316, 7, none⟩ = some (.string (⟨#[]⟩ : ByteArray)) := (blk_cell BK316.out 7).trans rfl
                  have hfz17_0 := blk_frozen BK316.out 0
                  have hfz17_1 := blk_frozen BK316.out 1
                  have hfz17_2 := blk_frozen BK316.out 2
                  have hfz17_3 := blk_frozen BK316.out 3
                  have hfz17_4 := blk_frozen BK316.out 4
                  have hfz17_5 := blk_frozen BK316.out 5
                  have hfz17_6 := blk_frozen BK316.out 6
                  have hfz17_7 := blk_frozen BK316.out 7
                  go_wp2_with (first | ((with_reducible refine gate_callee (f := 34) rfl ?_); refine goesL_ (some 19) rfl rfl Try.func34 (by kernel_rfl) rfl #[.agg #[.string ((rd_T39 l0 x13_1).f0), .int .i64 ((rd_T39 l0 x13_1).f1), .string ((rd_T39 l0 x13_1).f2), .string ((rd_T39 l0 x13_1).f3), .int .i64 ((rd_T39 l0 x13_1).f4), .int .i64 ((rd_T39 l0 x13_1).f5), .string ((rd_T39 l0 x13_1).f6), .string ((rd_T39 l0 x13_1).f7)]] rfl (by (try simp only [List.map_toArray, List.map_cons, List.map_nil]); first | done | rfl | (simp only [List.length_drop, List.length_take]; rfl)) ?_; (with_reducible refine (impl_RecPhaseOk.calls k1 ((rd_T39 l0 x13_1).f0) ((rd_T39 l0 x13_1).f1) ((rd_T39 l0 x13_1).f2) ((rd_T39 l0 x13_1).f3) ((rd_T39 l0 x13_1).f4) ((rd_T39 l0 x13_1).f5) ((rd_T39 l0 x13_1).f6) ((rd_T39 l0 x13_1).f7) false _ A10.out).mono ?_); rintro e w18 ⟨rfl, hb⟩; refine ⟨_, rfl, ?_⟩; have n0_ := Aside0.mk (blk_below (g := gb316) (o := .cells #[.string ((rd_T39 l0 x13_1).f0), .int .i64 ((rd_T39 l0 x13_1).f1), .string ((rd_T39 l0 x13_1).f2), .string ((rd_T39 l0 x13_1).f3), .int .i64 ((rd_T39 l0 x13_1).f4), .int .i64 ((rd_T39 l0 x13_1).f5), .string ((rd_T39 l0 x13_1).f6), .string ((rd_T39 l0 x13_1).f7)] 39 (0, 0)) (by (with_reducible repeat (first | refine blk_drewN ?_ _ | refine blk_drew ?_ | refine blk_alloc ?_ _)); refine blk_put (cs := #[.string ((rd_T39 l0 x13_1).f0), .int .i64 ((rd_T39 l0 x13_1).f1), .string ((rd_T39 l0 x13_1).f2), .string ((rd_T39 l0 x13_1).f3), .int .i64 ((rd_T39 l0 x13_1).f4), .int .i64 ((rd_T39 l0 x13_1).f5), .string ((rd_T39 l0 x13_1).f6), .string (⟨#[]⟩ : ByteArray)]) ?_ 7 _ rfl; (with_reducible repeat (first | refine blk_drewN ?_ _ | refine blk_drew ?_ | refine blk_alloc ?_ _)); refine blk_put (cs := #[.string ((rd_T39 l0 x13_1).f0), .int .i64 ((rd_T39 l0 x13_1).f1), .string ((rd_T39 l0 x13_1).f2), .string ((rd_T39 l0 x13_1).f3), .int .i64 ((rd_T39 l0 x13_1).f4), .int .i64 ((rd_T39 l0 x13_1).f5), .string (⟨#[]⟩ : ByteArray), .string (⟨#[]⟩ : ByteArray)]) ?_ 6 _ rfl; (with_reducible repeat (first | refine blk_drewN ?_ _ | refine blk_drew ?_ | refine blk_alloc ?_ _)); refine blk_put (cs := #[.string ((rd_T39 l0 x13_1).f0), .int .i64 ((rd_T39 l0 x13_1).f1), .string ((rd_T39 l0 x13_1).f2), .string ((rd_T39 l0 x13_1).f3), .int .i64 ((rd_T39 l0 x13_1).f4), .int .i64 0, .string (⟨#[]⟩ : ByteArray), .string (⟨#[]⟩ : ByteArray)]) ?_ 5 _ rfl; (with_reducible repeat (first | refine blk_drewN ?_ _ | refine blk_drew ?_ | refine blk_alloc ?_ _)); refine blk_put (cs := #[.string ((rd_T39 l0 x13_1).f0), .int .i64 ((rd_T39 l0 x13_1).f1), .string ((rd_T39 l0 x13_1).f2), .string ((rd_T39 l0 x13_1).f3), .int .i64 0, .int .i64 0, .string (⟨#[]⟩ : ByteArray), .string (⟨#[]⟩ : ByteArray)]) ?_ 4 _ rfl; (with_reducible repeat (first | refine blk_drewN ?_ _ | refine blk_drew ?_ | refine blk_alloc ?_ _)); refine blk_put (cs := #[.string ((rd_T39 l0 x13_1).f0), .int .i64 ((rd_T39 l0 x13_1).f1), .string ((rd_T39 l0 x13_1).f2), .string (⟨#[]⟩ : ByteArray), .int .i64 0, .int .i64 0, .string (⟨#[]⟩ : ByteArray), .string (⟨#[]⟩ : ByteArray)]) ?_ 3 _ rfl; (with_reducible repeat (first | refine blk_drewN ?_ _ | refine blk_drew ?_ | refine blk_alloc ?_ _)); refine blk_put (cs := #[.string ((rd_T39 l0 x13_1).f0), .int .i64 ((rd_T39 l0 x13_1).f1), .string (⟨#[]⟩ : ByteArray), .string (⟨#[]⟩ : ByteArray), .int .i64 0, .int .i64 0, .string (⟨#[]⟩ : ByteArray), .string (⟨#[]⟩ : ByteArray)]) ?_ 2 _ rfl; (with_reducible repeat (first | refine blk_drewN ?_ _ | refine blk_drew ?_ | refine blk_alloc ?_ _)); refine blk_put (cs := #[.string ((rd_T39 l0 x13_1).f0), .int .i64 0, .string (⟨#[]⟩ : ByteArray), .string (⟨#[]⟩ : ByteArray), .int .i64 0, .int .i64 0, .string (⟨#[]⟩ : ByteArray), .string (⟨#[]⟩ : ByteArray)]) ?_ 1 _ rfl; (with_reducible repeat (first | refine blk_drewN ?_ _ | refine blk_drew ?_ | refine blk_alloc ?_ _)); refine blk_put (cs := #[.string (⟨#[]⟩ : ByteArray), .int .i64 0, .string (⟨#[]⟩ : ByteArray), .string (⟨#[]⟩ : ByteArray), .int .i64 0, .int .i64 0, .string (⟨#[]⟩ : ByteArray), .string (⟨#[]⟩ : ByteArray)]) ?_ 0 _ rfl; (with_reducible repeat (first | refine blk_drewN ?_ _ | refine blk_drew ?_ | refine blk_alloc ?_ _)); exact BK316.out) hb); have n1_ := Aside0.mk (below_step (by repeat (first | (with_reducible first | exact HB.out | apply below_alloc | apply pw_below_drewN | apply below_drew1 | refine below_set ?_ GE316.out) | exact HB.out)) hb); clear BK316; clear HB; have BK316 := n0_; have HB := n1_; clear n0_ n1_; (try clear hb); (try clear hb2); (try clear hk); (try clear hi)))
                  go_meet
                  case rel => exact ⟨_, (true), (by first | rfl | (simp; done) | (simp [*]; done)), H', ⟨by have := HK1.out; first | omega | exact Nat.le_refl _⟩, ⟨by (with_reducible repeat (first | refine blk_drewN ?_ _ | refine blk_drew ?_ | refine blk_alloc ?_ _)); exact BK316.out⟩, ⟨by repeat (first | (with_reducible first | exact HB.out | apply below_alloc | apply pw_below_drewN | apply below_drew1 | refine below_set ?_ GE316.out) | exact HB.out)⟩⟩
              case rest =>
                clear HC7
                try clear c1
                try clear p2
                try clear c3
                try clear p3
                try clear q3
                try clear hx3
                try clear c4
                try clear c4b0
                try clear c5
                try clear c5b0
                try clear c6
                try clear c6b0
                try clear c11
                try clear hcz13_0
                try clear hcz13_1
                try clear hcz13_2
                try clear hcz13_3
                try clear hcz13_4
                try clear hcz13_5
                try clear hcz13_6
                try clear hcz13_7
                try clear hcz15_0
                try clear hcz15_1
                try clear hcz15_2
                try clear hcz15_3
                try clear hcz15_4
                try clear hcz15_5
                try clear hcz15_6
                try clear hcz15_7
                try clear hcz17_0
                try clear hcz17_1
                try clear hcz17_2
                try clear hcz17_3
                try clear hcz17_4
                try clear hcz17_5
                try clear hcz17_6
                try clear hcz17_7
                try clear hcz9_0
                try clear hcz9_1
                try clear hcz9_2
                try clear hcz9_3
                try clear hcz9_4
                try clear hcz9_5
                try clear hcz9_6
                try clear hcz9_7
                try clear hfz13_0
                try clear hfz13_1
                try clear hfz13_2
                try clear hfz13_3
                try clear hfz13_4
                try clear hfz13_5
                try clear hfz13_6
                try clear hfz13_7
                try clear hfz15_0
                try clear hfz15_1
                try clear hfz15_2
                try clear hfz15_3
                try clear hfz15_4
                try clear hfz15_5
                try clear hfz15_6
                try clear hfz15_7
                try clear hfz17_0
                try clear hfz17_1
                try clear hfz17_2
                try clear hfz17_3
                try clear hfz17_4
                try clear hfz17_5
                try clear hfz17_6
                try clear hfz17_7
                try clear hfz9_0
                try clear hfz9_1
                try clear hfz9_2
                try clear hfz9_3
                try clear hfz9_4
                try clear hfz9_5
                try clear hfz9_6
                try clear hfz9_7
                try clear hx315_0
                try clear hx315_1
                try clear hx315_2
                try clear hx315_3
                try clear hx315_4
                try clear hx315_5
                try clear hx315_6
                try clear hx315_7
                try clear p2
                try clear p315
                try clear q315
                obtain ⟨kq, x28_6, rfl, HA, HJ6, BK316, HB⟩ := hcut
                cases kq with
                | zero => exact absurd HA.out (by simp [impl_RecOk.j1])
                | succ kj6 =>
                  have H := HA.out
                  clear HA
                  simp only [impl_RecOk.j1] at H
                  by_cases c19 : x28_6 = true
                  · subst c19
                    have H1 : (some false) = some r := by rw [if_pos rfl] at H; exact H
                    clear H
                    have H := H1
                    clear H1
                    obtain rfl := Option.some.inj H
                    go_wp2
                    go_ret
                    exact ⟨by first | rfl | (simp [errW_none, errW_some] <;> rfl) | (simp [*, errW_none, errW_some] <;> rfl), by repeat (first | (with_reducible first | exact HB.out | apply below_alloc | apply pw_below_drewN | apply below_drew1 | refine below_set ?_ GE316.out) | exact HB.out)⟩
                  · replace c19 := Bool.eq_false_iff.mpr c19
                    subst c19
                    have H1 : ((some (([((rd_T39 l0 x13_1).f6), ((rd_T39 l0 x13_1).f7)] : List ByteArray) : List ByteArray)).bind fun y319 => (impl_RecOk.l1 kj6 l0 x13_1 l0 (l0.length : Int) x13_1 y319 (y319.length : Int) 0)) = some r := by rw [if_neg (show ¬ (false = true) by decide)] at H; exact H
                    clear H
                    have H := H1
                    clear H1
                    obtain ⟨y319, hy319⟩ : ∃ y_ : List ByteArray, y_ = (([((rd_T39 l0 x13_1).f6), ((rd_T39 l0 x13_1).f7)] : List ByteArray)) := ⟨_, rfl⟩
                    replace H : (impl_RecOk.l1 kj6 l0 x13_1 l0 (l0.length : Int) x13_1 y319 (y319.length : Int) 0) = some r := by first | (rw [hy319]; with_reducible exact H) | (have H2_ := (Option.bind_some _ _).symm.trans H; rw [hy319]; with_reducible exact H2_) | (have H2_ := (Option.bind_some _ _).symm.trans H; with_reducible exact H2_) | with_reducible exact H | (rw [hy319]; exact H) | exact H
                    have Ny319 := Aside0.mk hy319
                    clear hy319
                    have H' := Aside0.mk H
                    clear H
                    have hcz20_0 : wc.cell? ⟨gb316, 0, none⟩ = some (.string ((rd_T39 l0 x13_1).f0)) := (blk_cell BK316.out 0).trans rfl
                    have hcz20_1 : wc.cell? ⟨gb316, 1, none⟩ = some (.int .i64 ((rd_T39 l0 x13_1).f1)) := (blk_cell BK316.out 1).trans rfl
                    have hcz20_2 : wc.cell? ⟨gb316, 2, none⟩ = some (.string ((rd_T39 l0 x13_1).f2)) := (blk_cell BK316.out 2).trans rfl
                    have hcz20_3 : wc.cell? ⟨gb316, 3, none⟩ = some (.string ((rd_T39 l0 x13_1).f3)) := (blk_cell BK316.out 3).trans rfl
                    have hcz20_4 : wc.cell? ⟨gb316, 4, none⟩ = some (.int .i64 ((rd_T39 l0 x13_1).f4)) := (blk_cell BK316.out 4).trans rfl
                    have hcz20_5 : wc.cell? ⟨gb316, 5, none⟩ = some (.int .i64 ((rd_T39 l0 x13_1).f5)) := (blk_cell BK316.out 5).trans rfl
                    have hcz20_6 : wc.cell? ⟨gb316, 6, none⟩ = some (.string ((rd_T39 l0 x13_1).f6)) := (blk_cell BK316.out 6).trans rfl
                    have hcz20_7 : wc.cell? ⟨gb316, 7, none⟩ = some (.string ((rd_T39 l0 x13_1).f7)) := (blk_cell BK316.out 7).trans rfl
                    have hfz20_0 := blk_frozen BK316.out 0
                    have hfz20_1 := blk_frozen BK316.out 1
                    have hfz20_2 := blk_frozen BK316.out 2
                    have hfz20_3 := blk_frozen BK316.out 3
                    have hfz20_4 := blk_frozen BK316.out 4
                    have hfz20_5 := blk_frozen BK316.out 5
                    have hfz20_6 := blk_frozen BK316.out 6
                    have hfz20_7 := blk_frozen BK316.out 7
                    go_wp2_with (first | ((with_reducible refine gate_dst (N := 33) rfl ?_); refine Kd.R_lit Kd.string _ 9 ?hg (N := 33) ?hd (xs := ([((rd_T39 l0 x13_1).f6), ((rd_T39 l0 x13_1).f7)] : List ByteArray)) (inner := [.string ((rd_T39 l0 x13_1).f6), .string ((rd_T39 l0 x13_1).f7)]) (ok := fun _ => True) (okp := fun _ => True) ?hr ?hp (fun _ hk => hk) trivial (Below.refl _ _) (Nat.le_refl _) (by simp) ?_; (case hd => rfl); (case hg => rfl); (case hr => first | (go_simp; done) | (go_simp; rfl)); (case hp => exact (Reps.one (show Kd.M Kd.string _ _ _ ((rd_T39 l0 x13_1).f6) [.string ((rd_T39 l0 x13_1).f6)] from rfl) (Reps.one (show Kd.M Kd.string _ _ _ ((rd_T39 l0 x13_1).f7) [.string ((rd_T39 l0 x13_1).f7)] from rfl) (Reps.none _ _)))); intro v320 w21 ho22 hb hg_ hnew_; clear hg_ hnew_; (first | rw [← Ny319.out] at ho22 | (simp only [Int.reduceToNat] at ho22; rw [← Ny319.out] at ho22)); have n0_ := Aside0.mk (Kd.R_lower ho22 (below_size (by repeat (first | (with_reducible first | exact HB.out | apply below_alloc | apply pw_below_drewN | apply below_drew1 | refine below_set ?_ GE316.out) | exact HB.out)))); have n1_ := Aside0.mk (blk_below (g := gb316) (o := .cells #[.string ((rd_T39 l0 x13_1).f0), .int .i64 ((rd_T39 l0 x13_1).f1), .string ((rd_T39 l0 x13_1).f2), .string ((rd_T39 l0 x13_1).f3), .int .i64 ((rd_T39 l0 x13_1).f4), .int .i64 ((rd_T39 l0 x13_1).f5), .string ((rd_T39 l0 x13_1).f6), .string ((rd_T39 l0 x13_1).f7)] 39 (0, 0)) (by (with_reducible repeat (first | refine blk_drewN ?_ _ | refine blk_drew ?_ | refine blk_alloc ?_ _)); exact BK316.out) hb); have n2_ := Aside0.mk (below_step (by repeat (first | (with_reducible first | exact HB.out | apply below_alloc | apply pw_below_drewN | apply below_drew1 | refine below_set ?_ GE316.out) | exact HB.out)) hb); clear BK316; clear HB; have HO321 := n0_; have BK316 := n1_; have HB := n2_; clear n0_ n1_ n2_; clear hb ho22; obtain ⟨Ao23, co23, eo23⟩ := Kd.R_slice HO321.out; subst eo23))
                    go_loopg [35] kj6 (fun kq v35 w' => ∃ (x35_3 : Int), v35 = .int .i64 x35_3 ∧ Aside0 (impl_RecOk.l1 kq l0 x13_1 l0 (l0.length : Int) x13_1 y319 (y319.length : Int) x35_3 = some r) ∧ Aside0 (kq ≤ kj6) ∧ Aside0 (Kd.R Kd.string 9 w' w.heap.size (fun _ => True) (.slice Ao23 y319.length co23) y319) ∧ Aside0 (w'.heap[gb316]? = some (.cells #[.string ((rd_T39 l0 x13_1).f0), .int .i64 ((rd_T39 l0 x13_1).f1), .string ((rd_T39 l0 x13_1).f2), .string ((rd_T39 l0 x13_1).f3), .int .i64 ((rd_T39 l0 x13_1).f4), .int .i64 ((rd_T39 l0 x13_1).f5), .string ((rd_T39 l0 x13_1).f6), .string ((rd_T39 l0 x13_1).f7)] 39 (0, 0))) ∧ Aside0 (Below w.heap.size w w'))
                    case atStart => exact ⟨(0), (by first | rfl | (simp; done) | (simp [*]; done)), H', ⟨Nat.le_refl _⟩, ⟨by (with_reducible repeat (first | apply Kd.R_alloc | apply Kd.R_drewN | apply Kd.R_drew)); exact HO321.out⟩, ⟨by (with_reducible repeat (first | refine blk_drewN ?_ _ | refine blk_drew ?_ | refine blk_alloc ?_ _)); exact BK316.out⟩, ⟨by repeat (first | (with_reducible first | exact HB.out | apply below_alloc | apply pw_below_drewN | apply below_drew1 | refine below_set ?_ GE316.out) | exact HB.out)⟩⟩
                    case round =>
                      clear H'
                      try clear c1
                      try clear p2
                      try clear c3
                      try clear p3
                      try clear q3
                      try clear hx3
                      try clear c4
                      try clear c4b0
                      try clear c5
                      try clear c5b0
                      try clear c6
                      try clear c6b0
                      try clear c11
                      try clear c19
                      try clear hcz13_0
                      try clear hcz13_1
                      try clear hcz13_2
                      try clear hcz13_3
                      try clear hcz13_4
                      try clear hcz13_5
                      try clear hcz13_6
                      try clear hcz13_7
                      try clear hcz15_0
                      try clear hcz15_1
                      try clear hcz15_2
                      try clear hcz15_3
                      try clear hcz15_4
                      try clear hcz15_5
                      try clear hcz15_6
                      try clear hcz15_7
                      try clear hcz17_0
                      try clear hcz17_1
                      try clear hcz17_2
                      try clear hcz17_3
                      try clear hcz17_4
                      try clear hcz17_5
                      try clear hcz17_6
                      try clear hcz17_7
                      try clear hcz20_0
                      try clear hcz20_1
                      try clear hcz20_2
                      try clear hcz20_3
                      try clear hcz20_4
                      try clear hcz20_5
                      try clear hcz20_6
                      try clear hcz20_7
                      try clear hcz9_0
                      try clear hcz9_1
                      try clear hcz9_2
                      try clear hcz9_3
                      try clear hcz9_4
                      try clear hcz9_5
                      try clear hcz9_6
                      try clear hcz9_7
                      try clear hfz13_0
                      try clear hfz13_1
                      try clear hfz13_2
                      try clear hfz13_3
                      try clear hfz13_4
                      try clear hfz13_5
                      try clear hfz13_6
                      try clear hfz13_7
                      try clear hfz15_0
                      try clear hfz15_1
                      try clear hfz15_2
                      try clear hfz15_3
                      try clear hfz15_4
                      try clear hfz15_5
                      try clear hfz15_6
                      try clear hfz15_7
                      try clear hfz17_0
                      try clear hfz17_1
                      try clear hfz17_2
                      try clear hfz17_3
                      try clear hfz17_4
                      try clear hfz17_5
                      try clear hfz17_6
                      try clear hfz17_7
                      try clear hfz20_0
                      try clear hfz20_1
                      try clear hfz20_2
                      try clear hfz20_3
                      try clear hfz20_4
                      try clear hfz20_5
                      try clear hfz20_6
                      try clear hfz20_7
                      try clear hfz9_0
                      try clear hfz9_1
                      try clear hfz9_2
                      try clear hfz9_3
                      try clear hfz9_4
                      try clear hfz9_5
                      try clear hfz9_6
                      try clear hfz9_7
                      try clear hx315_0
                      try clear hx315_1
                      try clear hx315_2
                      try clear hx315_3
                      try clear hx315_4
                      try clear hx315_5
                      try clear hx315_6
                      try clear hx315_7
                      try clear p2
                      try clear p3
                      try clear p315
                      try clear q3
                      try clear q315
                      obtain ⟨x35_3, rfl, HA, HK3, HO_33, BK316, HB⟩ := hrel
                      cases gk with
                      | zero => exact absurd HA.out (by simp [impl_RecOk.l1])
                      | succ k3 =>
                        have H := HA.out
                        clear HA
                        simp only [impl_RecOk.l1] at H
                        by_cases c24 : x35_3 < (y319.length : Int)
                        · rw [if_pos c24] at H
                          have c24b0 : decide (x35_3 < (y319.length : Int)) = true := decide_eq_true c24
                          clear c24
                          by_cases c25 : 0 ≤ x35_3
                          · rw [if_pos c25] at H
                            have c25b0 : decide (0 ≤ x35_3) = true := decide_eq_true c25
                            clear c25
                            by_cases c26 : x35_3 < (y319.length : Int)
                            · rw [if_pos c26] at H
                              have c26b0 : decide (x35_3 < (y319.length : Int)) = true := decide_eq_true c26
                              clear c26
                              replace H := Option.bind_eq_some_iff.mp H
                              obtain ⟨t323, A270, H⟩ := H
                              replace H : (if t323 = 0 then ((impl_at.f l0 (rdOf ByteArray.empty y319 x35_3)).bind fun t324 => (if t324 ≤ x13_1 then (some false) else (impl_RecOk.l1 k3 l0 x13_1 l0 (l0.length : Int) x13_1 y319 (y319.length : Int) (wrap64 (x35_3 + 1))))) else (impl_RecOk.l1 k3 l0 x13_1 l0 (l0.length : Int) x13_1 y319 (y319.length : Int) (wrap64 (x35_3 + 1)))) = some r := H
                              have A27 := Aside0.mk A270
                              clear A270
                              by_cases c28 : t323 = 0
                              · rw [if_pos c28] at H
                                have c28b0 : (t323 == 0) = true := beq_iff_eq.mpr c28
                                have c28b1 : (t323 != 0) = false := bne_eq_false_iff_eq.mpr c28
                                clear c28
                                replace H := Option.bind_eq_some_iff.mp H
                                obtain ⟨t324, A290, H⟩ := H
                                replace H : (if t324 ≤ x13_1 then (some false) else (impl_RecOk.l1 k3 l0 x13_1 l0 (l0.length : Int) x13_1 y319 (y319.length : Int) (wrap64 (x35_3 + 1)))) = some r := H
                                have A29 := Aside0.mk A290
                                clear A290
                                by_cases c30 : t324 ≤ x13_1
                                · rw [if_pos c30] at H
                                  have c30b0 : decide (t324 ≤ x13_1) = true := decide_eq_true c30
                                  clear c30
                                  obtain rfl := Option.some.inj H
                                  have p322 : 0 ≤ (x35_3 : Int) := of_decide_eq_true (by first | (with_reducible assumption) | assumption)
                                  have q322 : x35_3 < (y319.length : Int) := of_decide_eq_true (by first | (with_reducible assumption) | assumption)
                                  obtain ⟨ad322, e322, hx322_0⟩ := Kd.at_string (Kd.R_reads' HO_33.out).2.2 x35_3 p322 q322
                                  cases e322
                                  replace p322 := eq_true p322
                                  replace q322 := eq_true q322
                                  go_wp2_with (first | ((with_reducible refine gate_callee (f := 19) rfl ?_); refine goesL_ (some 40) rfl rfl Try.func19 (by kernel_rfl) rfl #[.string (rdOf ByteArray.empty y319 x35_3)] rfl (by (try simp only [List.map_toArray, List.map_cons, List.map_nil]); first | done | rfl | (simp only [List.length_drop, List.length_take]; rfl)) ?_; (with_reducible refine (impl_RecEnd.calls k3 (rdOf ByteArray.empty y319 x35_3) t323 _ A27.out).mono ?_); rintro e w31 ⟨rfl, hb⟩; refine ⟨_, rfl, ?_⟩; have n0_ := Aside0.mk (Kd.R_below (by (with_reducible repeat (first | apply Kd.R_alloc | apply Kd.R_drewN | apply Kd.R_drew)); exact HO_33.out) hb); have n1_ := Aside0.mk (blk_below (g := gb316) (o := .cells #[.string ((rd_T39 l0 x13_1).f0), .int .i64 ((rd_T39 l0 x13_1).f1), .string ((rd_T39 l0 x13_1).f2), .string ((rd_T39 l0 x13_1).f3), .int .i64 ((rd_T39 l0 x13_1).f4), .int .i64 ((rd_T39 l0 x13_1).f5), .string ((rd_T39 l0 x13_1).f6), .string ((rd_T39 l0 x13_1).f7)] 39 (0, 0)) (by (with_reducible repeat (first | refine blk_drewN ?_ _ | refine blk_drew ?_ | refine blk_alloc ?_ _)); exact BK316.out) hb); have n2_ := Aside0.mk (below_step (by repeat (first | (with_reducible first | exact HB.out | apply below_alloc | apply pw_below_drewN | apply below_drew1 | refine below_set ?_ GE316.out) | exact HB.out)) hb); clear HO_33; clear BK316; clear HB; have HO_33 := n0_; have BK316 := n1_; have HB := n2_; clear n0_ n1_ n2_; (try clear hb); (try clear hb2); (try clear hk); (try clear hi)) | (go_at_call 69; (with_reducible refine (impl_at.calls _ _ l0 (rdOf ByteArray.empty y319 x35_3) t324 _ ?side1 ?side2 A29.out).mono ?_); (case side1 => repeat (first | exact (Kd.C_below HR0.out HB.out) | (with_reducible refine Kd.C_alloc ?_ _) | (with_reducible refine Kd.C_drewN ?_ _) | (with_reducible refine Kd.C_drew ?_))); (case side2 => exact HC0.out); rintro e w32 ⟨rfl, hb⟩; have n0_ := Aside0.mk (Kd.R_below (by (with_reducible repeat (first | apply Kd.R_alloc | apply Kd.R_drewN | apply Kd.R_drew)); exact HO_33.out) hb); have n1_ := Aside0.mk (blk_below (g := gb316) (o := .cells #[.string ((rd_T39 l0 x13_1).f0), .int .i64 ((rd_T39 l0 x13_1).f1), .string ((rd_T39 l0 x13_1).f2), .string ((rd_T39 l0 x13_1).f3), .int .i64 ((rd_T39 l0 x13_1).f4), .int .i64 ((rd_T39 l0 x13_1).f5), .string ((rd_T39 l0 x13_1).f6), .string ((rd_T39 l0 x13_1).f7)] 39 (0, 0)) (by (with_reducible repeat (first | refine blk_drewN ?_ _ | refine blk_drew ?_ | refine blk_alloc ?_ _)); exact BK316.out) hb); have n2_ := Aside0.mk (below_step (by repeat (first | (with_reducible first | exact HB.out | apply below_alloc | apply pw_below_drewN | apply below_drew1 | refine below_set ?_ GE316.out) | exact HB.out)) hb); clear HO_33; clear BK316; clear HB; have HO_33 := n0_; have BK316 := n1_; have HB := n2_; clear n0_ n1_ n2_; (try clear hb); (try clear hb2); (try clear hk); (try clear hi)))
                                  go_ret
                                  exact ⟨by first | rfl | (simp [errW_none, errW_some] <;> rfl) | (simp [*, errW_none, errW_some] <;> rfl), by repeat (first | (with_reducible first | exact HB.out | apply below_alloc | apply pw_below_drewN | apply below_drew1 | refine below_set ?_ GE316.out) | exact HB.out)⟩
                                · rw [if_neg c30] at H
                                  have c30b0 : decide (t324 ≤ x13_1) = false := decide_eq_false c30
                                  clear c30
                                  have H' := Aside0.mk H
                                  clear H
                                  have p322 : 0 ≤ (x35_3 : Int) := of_decide_eq_true (by first | (with_reducible assumption) | assumption)
                                  have q322 : x35_3 < (y319.length : Int) := of_decide_eq_true (by first | (with_reducible assumption) | assumption)
                                  obtain ⟨ad322, e322, hx322_0⟩ := Kd.at_string (Kd.R_reads' HO_33.out).2.2 x35_3 p322 q322
                                  cases e322
                                  replace p322 := eq_true p322
                                  replace q322 := eq_true q322
                                  go_wp2_with (first | ((with_reducible refine gate_callee (f := 19) rfl ?_); refine goesL_ (some 40) rfl rfl Try.func19 (by kernel_rfl) rfl #[.string (rdOf ByteArray.empty y319 x35_3)] rfl (by (try simp only [List.map_toArray, List.map_cons, List.map_nil]); first | done | rfl | (simp only [List.length_drop, List.length_take]; rfl)) ?_; (with_reducible refine (impl_RecEnd.calls k3 (rdOf ByteArray.empty y319 x35_3) t323 _ A27.out).mono ?_); rintro e w33 ⟨rfl, hb⟩; refine ⟨_, rfl, ?_⟩; have n0_ := Aside0.mk (Kd.R_below (by (with_reducible repeat (first | apply Kd.R_alloc | apply Kd.R_drewN | apply Kd.R_drew)); exact HO_33.out) hb); have n1_ := Aside0.mk (blk_below (g := gb316) (o := .cells #[.string ((rd_T39 l0 x13_1).f0), .int .i64 ((rd_T39 l0 x13_1).f1), .string ((rd_T39 l0 x13_1).f2), .string ((rd_T39 l0 x13_1).f3), .int .i64 ((rd_T39 l0 x13_1).f4), .int .i64 ((rd_T39 l0 x13_1).f5), .string ((rd_T39 l0 x13_1).f6), .string ((rd_T39 l0 x13_1).f7)] 39 (0, 0)) (by (with_reducible repeat (first | refine blk_drewN ?_ _ | refine blk_drew ?_ | refine blk_alloc ?_ _)); exact BK316.out) hb); have n2_ := Aside0.mk (below_step (by repeat (first | (with_reducible first | exact HB.out | apply below_alloc | apply pw_below_drewN | apply below_drew1 | refine below_set ?_ GE316.out) | exact HB.out)) hb); clear HO_33; clear BK316; clear HB; have HO_33 := n0_; have BK316 := n1_; have HB := n2_; clear n0_ n1_ n2_; (try clear hb); (try clear hb2); (try clear hk); (try clear hi)) | (go_at_call 69; (with_reducible refine (impl_at.calls _ _ l0 (rdOf ByteArray.empty y319 x35_3) t324 _ ?side1 ?side2 A29.out).mono ?_); (case side1 => repeat (first | exact (Kd.C_below HR0.out HB.out) | (with_reducible refine Kd.C_alloc ?_ _) | (with_reducible refine Kd.C_drewN ?_ _) | (with_reducible refine Kd.C_drew ?_))); (case side2 => exact HC0.out); rintro e w34 ⟨rfl, hb⟩; have n0_ := Aside0.mk (Kd.R_below (by (with_reducible repeat (first | apply Kd.R_alloc | apply Kd.R_drewN | apply Kd.R_drew)); exact HO_33.out) hb); have n1_ := Aside0.mk (blk_below (g := gb316) (o := .cells #[.string ((rd_T39 l0 x13_1).f0), .int .i64 ((rd_T39 l0 x13_1).f1), .string ((rd_T39 l0 x13_1).f2), .string ((rd_T39 l0 x13_1).f3), .int .i64 ((rd_T39 l0 x13_1).f4), .int .i64 ((rd_T39 l0 x13_1).f5), .string ((rd_T39 l0 x13_1).f6), .string ((rd_T39 l0 x13_1).f7)] 39 (0, 0)) (by (with_reducible repeat (first | refine blk_drewN ?_ _ | refine blk_drew ?_ | refine blk_alloc ?_ _)); exact BK316.out) hb); have n2_ := Aside0.mk (below_step (by repeat (first | (with_reducible first | exact HB.out | apply below_alloc | apply pw_below_drewN | apply below_drew1 | refine below_set ?_ GE316.out) | exact HB.out)) hb); clear HO_33; clear BK316; clear HB; have HO_33 := n0_; have BK316 := n1_; have HB := n2_; clear n0_ n1_ n2_; (try clear hb); (try clear hb2); (try clear hk); (try clear hi)))
                                  go_roundg k3
                                  case measure => have := HK1.out; have := HJ6.out; have := HK3.out; omega
                                  case rel => exact ⟨(wrap64 (x35_3 + 1)), (by first | rfl | (simp; done) | (simp [*]; done)), H', ⟨by have := HK1.out; have := HJ6.out; have := HK3.out; omega⟩, ⟨by (with_reducible repeat (first | apply Kd.R_alloc | apply Kd.R_drewN | apply Kd.R_drew)); exact HO_33.out⟩, ⟨by (with_reducible repeat (first | refine blk_drewN ?_ _ | refine blk_drew ?_ | refine blk_alloc ?_ _)); exact BK316.out⟩, ⟨by repeat (first | (with_reducible first | exact HB.out | apply below_alloc | apply pw_below_drewN | apply below_drew1 | refine below_set ?_ GE316.out) | exact HB.out)⟩⟩
                              · rw [if_neg c28] at H
                                have c28b0 : (t323 == 0) = false := beq_eq_false_iff_ne.mpr c28
                                have c28b1 : (t323 != 0) = true := bne_iff_ne.mpr c28
                                have H' := Aside0.mk H
                                clear H
                                have p322 : 0 ≤ (x35_3 : Int) := of_decide_eq_true (by first | (with_reducible assumption) | assumption)
                                have q322 : x35_3 < (y319.length : Int) := of_decide_eq_true (by first | (with_reducible assumption) | assumption)
                                obtain ⟨ad322, e322, hx322_0⟩ := Kd.at_string (Kd.R_reads' HO_33.out).2.2 x35_3 p322 q322
                                cases e322
                                replace p322 := eq_true p322
                                replace q322 := eq_true q322
                                go_wp2_with (first | ((with_reducible refine gate_callee (f := 19) rfl ?_); refine goesL_ (some 40) rfl rfl Try.func19 (by kernel_rfl) rfl #[.string (rdOf ByteArray.empty y319 x35_3)] rfl (by (try simp only [List.map_toArray, List.map_cons, List.map_nil]); first | done | rfl | (simp only [List.length_drop, List.length_take]; rfl)) ?_; (with_reducible refine (impl_RecEnd.calls k3 (rdOf ByteArray.empty y319 x35_3) t323 _ A27.out).mono ?_); rintro e w35 ⟨rfl, hb⟩; refine ⟨_, rfl, ?_⟩; have n0_ := Aside0.mk (Kd.R_below (by (with_reducible repeat (first | apply Kd.R_alloc | apply Kd.R_drewN | apply Kd.R_drew)); exact HO_33.out) hb); have n1_ := Aside0.mk (blk_below (g := gb316) (o := .cells #[.string ((rd_T39 l0 x13_1).f0), .int .i64 ((rd_T39 l0 x13_1).f1), .string ((rd_T39 l0 x13_1).f2), .string ((rd_T39 l0 x13_1).f3), .int .i64 ((rd_T39 l0 x13_1).f4), .int .i64 ((rd_T39 l0 x13_1).f5), .string ((rd_T39 l0 x13_1).f6), .string ((rd_T39 l0 x13_1).f7)] 39 (0, 0)) (by (with_reducible repeat (first | refine blk_drewN ?_ _ | refine blk_drew ?_ | refine blk_alloc ?_ _)); exact BK316.out) hb); have n2_ := Aside0.mk (below_step (by repeat (first | (with_reducible first | exact HB.out | apply below_alloc | apply pw_below_drewN | apply below_drew1 | refine below_set ?_ GE316.out) | exact HB.out)) hb); clear HO_33; clear BK316; clear HB; have HO_33 := n0_; have BK316 := n1_; have HB := n2_; clear n0_ n1_ n2_; (try clear hb); (try clear hb2); (try clear hk); (try clear hi)))
                                go_roundg k3
                                case measure => have := HK1.out; have := HJ6.out; have := HK3.out; omega
                                case rel => exact ⟨(wrap64 (x35_3 + 1)), (by first | rfl | (simp; done) | (simp [*]; done)), H', ⟨by have := HK1.out; have := HJ6.out; have := HK3.out; omega⟩, ⟨by (with_reducible repeat (first | apply Kd.R_alloc | apply Kd.R_drewN | apply Kd.R_drew)); exact HO_33.out⟩, ⟨by (with_reducible repeat (first | refine blk_drewN ?_ _ | refine blk_drew ?_ | refine blk_alloc ?_ _)); exact BK316.out⟩, ⟨by repeat (first | (with_reducible first | exact HB.out | apply below_alloc | apply pw_below_drewN | apply below_drew1 | refine below_set ?_ GE316.out) | exact HB.out)⟩⟩
                            · rw [if_neg c26] at H
                              exact absurd H (by simp)
                          · rw [if_neg c25] at H
                            exact absurd H (by simp)
                        · rw [if_neg c24] at H
                          have c24b0 : decide (x35_3 < (y319.length : Int)) = false := decide_eq_false c24
                          clear c24
                          have H' := Aside0.mk H
                          clear H
                          go_wp2
                          go_roundg k3
                          case measure => have := HK1.out; have := HJ6.out; have := HK3.out; omega
                          case rel => exact ⟨(wrap64 (x13_1 + 1)), (by first | rfl | (simp; done) | (simp [*]; done)), H', ⟨by have := HK1.out; have := HJ6.out; have := HK3.out; omega⟩, ⟨by repeat (first | (with_reducible first | exact HB.out | apply below_alloc | apply pw_below_drewN | apply below_drew1 | refine below_set ?_ GE316.out) | exact HB.out)⟩⟩
            · rw [if_neg c6] at H
              exact absurd H (by simp)
          · rw [if_neg c5] at H
            exact absurd H (by simp)
        · rw [if_neg c4] at H
          have c4b0 : decide (x13_1 < (l0.length : Int)) = false := decide_eq_false c4
          clear c4
          obtain rfl := Option.some.inj H
          go_wp2
          go_ret
          exact ⟨by first | rfl | (simp [errW_none, errW_some] <;> rfl) | (simp [*, errW_none, errW_some] <;> rfl), by repeat (first | (with_reducible first | exact HB.out | apply below_alloc | apply pw_below_drewN | apply below_drew1) | exact HB.out)⟩
  · replace c3 := Bool.eq_false_iff.mpr c3
    subst c3
    have H1 : (some false) = some r := by rw [if_neg (show ¬ (false = true) by decide)] at H; exact H
    clear H
    have H := H1
    clear H1
    obtain rfl := Option.some.inj H
    go_enter Try.func36, Try.ntmps36
    go_wp2_with (first | ((with_reducible refine gate_callee (f := 68) rfl ?_); refine goesL_ (some 9) rfl rfl Try.func68 (by kernel_rfl) rfl #[.int .i64 (l0.length : Int), .int .i64 1, .int .i64 12] rfl (by (try simp only [List.map_toArray, List.map_cons, List.map_nil]); first | done | rfl | (simp only [List.length_drop, List.length_take]; rfl)) ?_; (with_reducible refine (impl_in.calls (l0.length : Int) 1 12 false _ A2.out).mono ?_); rintro e w' ⟨rfl, ⟨nd, rfl⟩⟩; refine ⟨_, rfl, ?_⟩))
    go_ret
    exact ⟨by first | rfl | (simp [errW_none, errW_some] <;> rfl) | (simp [*, errW_none, errW_some] <;> rfl), by repeat (first | (with_reducible first | exact HB.out | apply below_alloc | apply pw_below_drewN | apply below_drew1) | exact HB.out)⟩

end Go.Proofs.Ytdkologncoofdaa.P
-- Px36
namespace Go.Proofs.Ytdkologncoofdaa.P
open Go.RowKit Go.Proofs.YtdkologncoofdaaW.PrintWords Go.Proofs.YtdkologncoofdaaW.PrintLast Go.Proofs.YtdkologncoofdaaW.PrintMore
attribute [local go_sem] max2_int min2_int max_two min_two max_three min_three max_four min_four   -- for this text's walks alone
set_option linter.unusedVariables false
set_option linter.unusedSimpArgs false

/-! ### impl_bound: function 71 -/
def impl_bound.f : Nat → List (S39) → ByteArray → Option (Int)
  | 0, _, _ => none
  | k + 1, l0, a1 => (impl_at.f l0 a1).bind fun t381 => (if t381 < 0 then (some 0) else (if 0 ≤ t381 then (if t381 < (l0.length : Int) then ((impl_bound.f k l0 ((rd_T39 l0 t381).f6)).bind fun t384 => ((impl_bound.f k l0 ((rd_T39 l0 t381).f7)).bind fun t386 => (some (wrap64 (((rd_T39 l0 t381).f5) + (mx t384 t386)))))) else (none)) else (none)))
theorem impl_bound.mono_l : ∀ k, (∀ y0 y1, LeO (impl_bound.f k y0 y1) (impl_bound.f (k + 1) y0 y1))
  | 0 => fun _ _ r h => by simp [impl_bound.f] at h
  | k + 1 => by
    have ih0 := impl_bound.mono_l k
    · intro y0 y1
      unfold impl_bound.f
      repeat' first
      | (with_reducible exact ih0 _ _)
      | (with_reducible exact LeO.refl _)
      | (with_reducible exact LeO.none _)
      | (with_reducible refine LeO.ite ?_ ?_)
      | (with_reducible refine LeO.bind ?_ (fun _ => ?_))
      | exact ih0 _ _
      | exact LeO.none _
      | refine LeO.ite ?_ ?_
      | refine LeO.bind ?_ (fun _ => ?_)
theorem impl_bound.mono : ∀ a0 a1 k, LeO (impl_bound.f k a0 a1) (impl_bound.f (k + 1) a0 a1) := by
  intro a0 a1 k
  have ih0 := impl_bound.mono_l k
  exact ih0 a0 a1
def impl_bound.T4 : Bool × List (List Nat × List Nat) := (true, [([], []), ([], []), ([0, 1], [0, 1]), ([2], [2]), ([3], [3]), ([], []), ([], []), ([], []), ([6, 7], [6, 7]), ([8], [8]), ([9], [9]), ([5, 10], [5, 10]), ([], []), ([], []), ([], []), ([13, 14], [13, 14]), ([15], [15]), ([16], [16]), ([12, 17, 11], [12, 17]), ([11, 18], [11, 18]), ([4, 19], [4, 19]), ([20, 18, 0, 1, 2, 3, 4, 5, 6, 7, 8, 9, 10, 11, 12, 13, 14, 15, 16, 17, 18, 19, 20], [20])])
def impl_bound.B4 : List Nat := [0, 0, 3, 7, 15, 0, 0, 0, 192, 448, 960, 2016, 0, 0, 0, 24576, 57344, 122880, 262112, 524256, 1048575, 2097151]
theorem impl_bound.tab4 : rtab .any (opsOf Try.f71 4) = impl_bound.T4 := by kernel_rfl
theorem impl_bound.bits4 : waitsOk impl_bound.T4.2 impl_bound.B4 = true := by kernel_rfl
set_option maxHeartbeats 8000000 in
set_option maxRecDepth 100000 in
theorem impl_bound.calls (k : Nat) : ∀ (A0 : Option Addr) (c0 : Nat) (l0 : List (S39)) (a1 : ByteArray) (r : Int) (w : World) (hr0 : Kd.C k39 w A0 l0.length l0) (hc0 : l0.length ≤ c0) (h : impl_bound.f k l0 a1 = some r),
    Calls Try.prog 71 #[.slice A0 l0.length c0, .string a1] w fun e w' => e = .returned (.int .i64 r) ∧ Below w.heap.size w w' := by
  induction k using Nat.strongRecOn with
  | _ k ih =>
  intro A0 c0 l0 a1 r w hr0 hc0 h
  cases k with
  | zero => exact absurd h (by simp [impl_bound.f])
  | succ k =>
  simp only [impl_bound.f] at h
  have HR0 := Aside0.mk hr0
  have HC0 := Aside0.mk hc0
  clear hr0 hc0
  have HB := Aside0.mk (Below.refl w.heap.size w)
  have H : ((impl_at.f l0 a1).bind fun t381 => (if t381 < 0 then (some 0) else (if 0 ≤ t381 then (if t381 < (l0.length : Int) then ((impl_bound.f k l0 ((rd_T39 l0 t381).f6)).bind fun t384 => ((impl_bound.f k l0 ((rd_T39 l0 t381).f7)).bind fun t386 => (some (wrap64 (((rd_T39 l0 t381).f5) + (mx t384 t386)))))) else (none)) else (none)))) = some r := h
  clear h
  replace H := Option.bind_eq_some_iff.mp H
  obtain ⟨t381, A30, H⟩ := H
  replace H : (if t381 < 0 then (some 0) else (if 0 ≤ t381 then (if t381 < (l0.length : Int) then ((impl_bound.f k l0 ((rd_T39 l0 t381).f6)).bind fun t384 => ((impl_bound.f k l0 ((rd_T39 l0 t381).f7)).bind fun t386 => (some (wrap64 (((rd_T39 l0 t381).f5) + (mx t384 t386)))))) else (none)) else (none))) = some r := H
  have A3 := Aside0.mk A30
  clear A30
  by_cases c4 : t381 < 0
  · rw [if_pos c4] at H
    have c4b0 : decide (t381 < 0) = true := decide_eq_true c4
    clear c4
    obtain rfl := Option.some.inj H
    go_enter Try.func71, Try.ntmps71
    go_wp2_with (first | ((with_reducible refine gate_callee (f := 69) rfl ?_); refine goesL_ (some 8) rfl rfl Try.func69 (by kernel_rfl) rfl #[.slice A0 l0.length c0, .string a1] rfl (by (try simp only [List.map_toArray, List.map_cons, List.map_nil]); first | done | rfl | (simp only [List.length_drop, List.length_take]; rfl)) ?_; (with_reducible refine (impl_at.calls _ _ l0 a1 t381 _ ?side1 ?side2 A3.out).mono ?_); (case side1 => repeat (first | exact HR0.out | (with_reducible refine Kd.C_alloc ?_ _) | (with_reducible refine Kd.C_drewN ?_ _) | (with_reducible refine Kd.C_drew ?_))); (case side2 => exact HC0.out); rintro e w5 ⟨rfl, hb⟩; refine ⟨_, rfl, ?_⟩; have n0_ := Aside0.mk (below_step (by repeat (first | (with_reducible first | exact HB.out | apply below_alloc | apply pw_below_drewN | apply below_drew1) | exact HB.out)) hb); clear HB; have HB := n0_; clear n0_; (try clear hb); (try clear hb2); (try clear hk); (try clear hi)))
    go_ret
    exact ⟨by first | rfl | (simp [errW_none, errW_some] <;> rfl) | (simp [*, errW_none, errW_some] <;> rfl), by repeat (first | (with_reducible first | exact HB.out | apply below_alloc | apply pw_below_drewN | apply below_drew1) | exact HB.out)⟩
  · rw [if_neg c4] at H
    have c4b0 : decide (t381 < 0) = false := decide_eq_false c4
    clear c4
    by_cases c6 : 0 ≤ t381
    · rw [if_pos c6] at H
      have c6b0 : decide (0 ≤ t381) = true := decide_eq_true c6
      clear c6
      by_cases c7 : t381 < (l0.length : Int)
      · rw [if_pos c7] at H
        have c7b0 : decide (t381 < (l0.length : Int)) = true := decide_eq_true c7
        clear c7
        replace H := Option.bind_eq_some_iff.mp H
        obtain ⟨t384, A80, H⟩ := H
        replace H : ((impl_bound.f k l0 ((rd_T39 l0 t381).f7)).bind fun t386 => (some (wrap64 (((rd_T39 l0 t381).f5) + (mx t384 t386))))) = some r := H
        have A8 := Aside0.mk A80
        clear A80
        replace H := Option.bind_eq_some_iff.mp H
        obtain ⟨t386, A90, H⟩ := H
        replace H : (some (wrap64 (((rd_T39 l0 t381).f5) + (mx t384 t386)))) = some r := H
        have A9 := Aside0.mk A90
        clear A90
        obtain ⟨ji10, hji10⟩ : ∃ j_ : Int, (mx t384 t386) = j_ := ⟨_, rfl⟩
        replace H : (some (wrap64 (((rd_T39 l0 t381).f5) + (ji10)))) = some r := by first | (rw [hji10] at H; exact H) | (simp only [hji10] at H ⊢; exact H)
        (try rw [hji10] at A3)
        (try rw [hji10] at A8)
        (try rw [hji10] at A9)
        have hji10_ : (if t384 < t386 then t386 else t384) = ji10 := hji10
        obtain rfl := Option.some.inj H
        go_enter Try.func71, Try.ntmps71
        try go_wp2_with (first | ((with_reducible refine gate_callee (f := 69) rfl ?_); refine goesL_ (some 8) rfl rfl Try.func69 (by kernel_rfl) rfl #[.slice A0 l0.length c0, .string a1] rfl (by (try simp only [List.map_toArray, List.map_cons, List.map_nil]); first | done | rfl | (simp only [List.length_drop, List.length_take]; rfl)) ?_; (with_reducible refine (impl_at.calls _ _ l0 a1 t381 _ ?side1 ?side2 A3.out).mono ?_); (case side1 => repeat (first | exact HR0.out | (with_reducible refine Kd.C_alloc ?_ _) | (with_reducible refine Kd.C_drewN ?_ _) | (with_reducible refine Kd.C_drew ?_))); (case side2 => exact HC0.out); rintro e w11 ⟨rfl, hb⟩; refine ⟨_, rfl, ?_⟩; have n0_ := Aside0.mk (below_step (by repeat (first | (with_reducible first | exact HB.out | apply below_alloc | apply pw_below_drewN | apply below_drew1) | exact HB.out)) hb); clear HB; have HB := n0_; clear n0_; (try clear hb); (try clear hb2); (try clear hk); (try clear hi)))
        have n0_ := Aside0.mk (below_drew1 HB.out)
        clear HB
        have HB := n0_
        clear n0_
        have p382 : 0 ≤ (t381 : Int) := of_decide_eq_true (by first | (with_reducible assumption) | assumption)
        have q382 : t381 < (l0.length : Int) := of_decide_eq_true (by first | (with_reducible assumption) | assumption)
        obtain ⟨ad382, e382, hx382_0, hx382_1, hx382_2, hx382_3, hx382_4, hx382_5, hx382_6, hx382_7⟩ := at_T39 HR0.out t381 p382 q382
        have hw382_7 := hx382_7
        have hw382_6 := hx382_6
        have hw382_5 := hx382_5
        have hw382_4 := hx382_4
        have hw382_3 := hx382_3
        have hw382_2 := hx382_2
        have hw382_1 := hx382_1
        have hw382_0 := hx382_0
        cases e382
        replace hx382_0 := (HB.out.cell (World.block_lt_of_cell? w _ hx382_0)).trans hx382_0
        replace hx382_1 := (HB.out.cell (World.block_lt_of_cell? w _ hx382_1)).trans hx382_1
        replace hx382_2 := (HB.out.cell (World.block_lt_of_cell? w _ hx382_2)).trans hx382_2
        replace hx382_3 := (HB.out.cell (World.block_lt_of_cell? w _ hx382_3)).trans hx382_3
        replace hx382_4 := (HB.out.cell (World.block_lt_of_cell? w _ hx382_4)).trans hx382_4
        replace hx382_5 := (HB.out.cell (World.block_lt_of_cell? w _ hx382_5)).trans hx382_5
        replace hx382_6 := (HB.out.cell (World.block_lt_of_cell? w _ hx382_6)).trans hx382_6
        replace hx382_7 := (HB.out.cell (World.block_lt_of_cell? w _ hx382_7)).trans hx382_7
        replace p382 := eq_true p382
        replace q382 := eq_true q382
        have p383 : 0 ≤ (t381 : Int) := of_decide_eq_true (by first | (with_reducible assumption) | assumption)
        have q383 : t381 < (l0.length : Int) := of_decide_eq_true (by first | (with_reducible assumption) | assumption)
        obtain ⟨ad383, e383, hx383_0, hx383_1, hx383_2, hx383_3, hx383_4, hx383_5, hx383_6, hx383_7⟩ := at_T39 HR0.out t381 p383 q383
        have hw383_7 := hx383_7
        have hw383_6 := hx383_6
        have hw383_5 := hx383_5
        have hw383_4 := hx383_4
        have hw383_3 := hx383_3
        have hw383_2 := hx383_2
        have hw383_1 := hx383_1
        have hw383_0 := hx383_0
        obtain rfl : ad382 = ad383 := (by injection e383)
        replace hx383_0 := (HB.out.cell (World.block_lt_of_cell? w _ hx383_0)).trans hx383_0
        replace hx383_1 := (HB.out.cell (World.block_lt_of_cell? w _ hx383_1)).trans hx383_1
        replace hx383_2 := (HB.out.cell (World.block_lt_of_cell? w _ hx383_2)).trans hx383_2
        replace hx383_3 := (HB.out.cell (World.block_lt_of_cell? w _ hx383_3)).trans hx383_3
        replace hx383_4 := (HB.out.cell (World.block_lt_of_cell? w _ hx383_4)).trans hx383_4
        replace hx383_5 := (HB.out.cell (World.block_lt_of_cell? w _ hx383_5)).trans hx383_5
        replace hx383_6 := (HB.out.cell (World.block_lt_of_cell? w _ hx383_6)).trans hx383_6
        replace hx383_7 := (HB.out.cell (World.block_lt_of_cell? w _ hx383_7)).trans hx383_7
        replace p383 := eq_true p383
        replace q383 := eq_true q383
        have p385 : 0 ≤ (t381 : Int) := of_decide_eq_true (by first | (with_reducible assumption) | assumption)
        have q385 : t381 < (l0.length : Int) := of_decide_eq_true (by first | (with_reducible assumption) | assumption)
        obtain ⟨ad385, e385, hx385_0, hx385_1, hx385_2, hx385_3, hx385_4, hx385_5, hx385_6, hx385_7⟩ := at_T39 HR0.out t381 p385 q385
        have hw385_7 := hx385_7
        have hw385_6 := hx385_6
        have hw385_5 := hx385_5
        have hw385_4 := hx385_4
        have hw385_3 := hx385_3
        have hw385_2 := hx385_2
        have hw385_1 := hx385_1
        have hw385_0 := hx385_0
        obtain rfl : ad382 = ad385 := (by injection e385)
        replace hx385_0 := (HB.out.cell (World.block_lt_of_cell? w _ hx385_0)).trans hx385_0
        replace hx385_1 := (HB.out.cell (World.block_lt_of_cell? w _ hx385_1)).trans hx385_1
        replace hx385_2 := (HB.out.cell (World.block_lt_of_cell? w _ hx385_2)).trans hx385_2
        replace hx385_3 := (HB.out.cell (World.block_lt_of_cell? w _ hx385_3)).trans hx385_3
        replace hx385_4 := (HB.out.cell (World.block_lt_of_cell? w _ hx385_4)).trans hx385_4
        replace hx385_5 := (HB.out.cell (World.block_lt_of_cell? w _ hx385_5)).trans hx385_5
        replace hx385_6 := (HB.out.cell (World.block_lt_of_cell? w _ hx385_6)).trans hx385_6
        replace hx385_7 := (HB.out.cell (World.block_lt_of_cell? w _ hx385_7)).trans hx385_7
        replace p385 := eq_true p385
        replace q385 := eq_true q385
        refine start_ (n := 22) (S := fun w' => w'.cell? (ad382.add ((t381).toNat * 8)) = some (.string ((rd_T39 l0 t381).f0)) ∧ w'.cell? ⟨(ad382.add ((t381).toNat * 8)).block, (ad382.add ((t381).toNat * 8)).off + 1, none⟩ = some (.int .i64 ((rd_T39 l0 t381).f1)) ∧ w'.cell? ⟨(ad382.add ((t381).toNat * 8)).block, (ad382.add ((t381).toNat * 8)).off + 2, none⟩ = some (.string ((rd_T39 l0 t381).f2)) ∧ w'.cell? ⟨(ad382.add ((t381).toNat * 8)).block, (ad382.add ((t381).toNat * 8)).off + 3, none⟩ = some (.string ((rd_T39 l0 t381).f3)) ∧ w'.cell? ⟨(ad382.add ((t381).toNat * 8)).block, (ad382.add ((t381).toNat * 8)).off + 4, none⟩ = some (.int .i64 ((rd_T39 l0 t381).f4)) ∧ w'.cell? ⟨(ad382.add ((t381).toNat * 8)).block, (ad382.add ((t381).toNat * 8)).off + 5, none⟩ = some (.int .i64 ((rd_T39 l0 t381).f5)) ∧ w'.cell? ⟨(ad382.add ((t381).toNat * 8)).block, (ad382.add ((t381).toNat * 8)).off + 6, none⟩ = some (.string ((rd_T39 l0 t381).f6)) ∧ w'.cell? ⟨(ad382.add ((t381).toNat * 8)).block, (ad382.add ((t381).toNat * 8)).off + 7, none⟩ = some (.string ((rd_T39 l0 t381).f7)) ∧ w'.cell? (ad382.add ((t381).toNat * 8)) = some (.string ((rd_T39 l0 t381).f0)) ∧ w'.cell? ⟨(ad382.add ((t381).toNat * 8)).block, (ad382.add ((t381).toNat * 8)).off + 1, none⟩ = some (.int .i64 ((rd_T39 l0 t381).f1)) ∧ w'.cell? ⟨(ad382.add ((t381).toNat * 8)).block, (ad382.add ((t381).toNat * 8)).off + 2, none⟩ = some (.string ((rd_T39 l0 t381).f2)) ∧ w'.cell? ⟨(ad382.add ((t381).toNat * 8)).block, (ad382.add ((t381).toNat * 8)).off + 3, none⟩ = some (.string ((rd_T39 l0 t381).f3)) ∧ w'.cell? ⟨(ad382.add ((t381).toNat * 8)).block, (ad382.add ((t381).toNat * 8)).off + 4, none⟩ = some (.int .i64 ((rd_T39 l0 t381).f4)) ∧ w'.cell? ⟨(ad382.add ((t381).toNat * 8)).block, (ad382.add ((t381).toNat * 8)).off + 5, none⟩ = some (.int .i64 ((rd_T39 l0 t381).f5)) ∧ w'.cell? ⟨(ad382.add ((t381).toNat * 8)).block, (ad382.add ((t381).toNat * 8)).off + 6, none⟩ = some (.string ((rd_T39 l0 t381).f6)) ∧ w'.cell? ⟨(ad382.add ((t381).toNat * 8)).block, (ad382.add ((t381).toNat * 8)).off + 7, none⟩ = some (.string ((rd_T39 l0 t381).f7)) ∧ w'.cell? (ad382.add ((t381).toNat * 8)) = some (.string ((rd_T39 l0 t381).f0)) ∧ w'.cell? ⟨(ad382.add ((t381).toNat * 8)).block, (ad382.add ((t381).toNat * 8)).off + 1, none⟩ = some (.int .i64 ((rd_T39 l0 t381).f1)) ∧ w'.cell? ⟨(ad382.add ((t381).toNat * 8)).block, (ad382.add ((t381).toNat * 8)).off + 2, none⟩ = some (.string ((rd_T39 l0 t381).f2)) ∧ w'.cell? ⟨(ad382.add ((t381).toNat * 8)).block, (ad382.add ((t381).toNat * 8)).off + 3, none⟩ = some (.string ((rd_T39 l0 t381).f3)) ∧ w'.cell? ⟨(ad382.add ((t381).toNat * 8)).block, (ad382.add ((t381).toNat * 8)).off + 4, none⟩ = some (.int .i64 ((rd_T39 l0 t381).f4)) ∧ w'.cell? ⟨(ad382.add ((t381).toNat * 8)).block, (ad382.add ((t381).toNat * 8)).off + 5, none⟩ = some (.int .i64 ((rd_T39 l0 t381).f5)) ∧ w'.cell? ⟨(ad382.add ((t381).toNat * 8)).block, (ad382.add ((t381).toNat * 8)).off + 6, none⟩ = some (.string ((rd_T39 l0 t381).f6)) ∧ w'.cell? ⟨(ad382.add ((t381).toNat * 8)).block, (ad382.add ((t381).toNat * 8)).off + 7, none⟩ = some (.string ((rd_T39 l0 t381).f7))) (ds := []) #[false, false, false, false, false, false, false, false, false, false, false, false, false, false, false, false, false, false, false, false, false, false] (by kernel_rfl) rfl rfl ⟨((HB.out.cell (World.block_lt_of_cell? w _ hw382_0)).trans hw382_0), ((HB.out.cell (World.block_lt_of_cell? w _ hw382_1)).trans hw382_1), ((HB.out.cell (World.block_lt_of_cell? w _ hw382_2)).trans hw382_2), ((HB.out.cell (World.block_lt_of_cell? w _ hw382_3)).trans hw382_3), ((HB.out.cell (World.block_lt_of_cell? w _ hw382_4)).trans hw382_4), ((HB.out.cell (World.block_lt_of_cell? w _ hw382_5)).trans hw382_5), ((HB.out.cell (World.block_lt_of_cell? w _ hw382_6)).trans hw382_6), ((HB.out.cell (World.block_lt_of_cell? w _ hw382_7)).trans hw382_7), ((HB.out.cell (World.block_lt_of_cell? w _ hw383_0)).trans hw383_0), ((HB.out.cell (World.block_lt_of_cell? w _ hw383_1)).trans hw383_1), ((HB.out.cell (World.block_lt_of_cell? w _ hw383_2)).trans hw383_2), ((HB.out.cell (World.block_lt_of_cell? w _ hw383_3)).trans hw383_3), ((HB.out.cell (World.block_lt_of_cell? w _ hw383_4)).trans hw383_4), ((HB.out.cell (World.block_lt_of_cell? w _ hw383_5)).trans hw383_5), ((HB.out.cell (World.block_lt_of_cell? w _ hw383_6)).trans hw383_6), ((HB.out.cell (World.block_lt_of_cell? w _ hw383_7)).trans hw383_7), ((HB.out.cell (World.block_lt_of_cell? w _ hw385_0)).trans hw385_0), ((HB.out.cell (World.block_lt_of_cell? w _ hw385_1)).trans hw385_1), ((HB.out.cell (World.block_lt_of_cell? w _ hw385_2)).trans hw385_2), ((HB.out.cell (World.block_lt_of_cell? w _ hw385_3)).trans hw385_3), ((HB.out.cell (World.block_lt_of_cell? w _ hw385_4)).trans hw385_4), ((HB.out.cell (World.block_lt_of_cell? w _ hw385_5)).trans hw385_5), ((HB.out.cell (World.block_lt_of_cell? w _ hw385_6)).trans hw385_6), ((HB.out.cell (World.block_lt_of_cell? w _ hw385_7)).trans hw385_7)⟩ (fun hHeld => ?_); refine with_tabW impl_bound.tab4 impl_bound.bits4 (fun HT_ HW_ => ?_)
        generalize w11.drew = w12 at HB hx382_0 hx382_1 hx382_2 hx382_3 hx382_4 hx382_5 hx382_6 hx382_7 hx383_0 hx383_1 hx383_2 hx383_3 hx383_4 hx383_5 hx383_6 hx383_7 hx385_0 hx385_1 hx385_2 hx385_3 hx385_4 hx385_5 hx385_6 hx385_7 hHeld ⊢
        refine pure_ (i := 0) (N := some 11) (v := ?_) (a' := ?_) #[true, false, false, false, false, false, false, false, false, false, false, false, false, false, false, false, false, false, false, false, false, false] rfl rfl (any_of HT_.out (by kernel_rfl)) (fun _ _ _ h => h) (Or.inl ⟨by rfl, ?_⟩) ?_ ?_
        rotate_left
        · intro w'
          go_simp
          with_reducible rfl
        rotate_left
        · simp only [Act.put, List.setIfInBounds_toArray, List.set_cons_zero, List.set_cons_succ, i64_w, i32_w]
          rfl
        refine pure_ (i := 1) (N := some 12) (v := ?_) (a' := ?_) #[true, true, false, false, false, false, false, false, false, false, false, false, false, false, false, false, false, false, false, false, false, false] rfl rfl (any_of HT_.out (by kernel_rfl)) (fun _ _ _ h => h) (Or.inl ⟨by rfl, ?_⟩) ?_ ?_
        rotate_left
        · intro w'
          go_simp
          with_reducible rfl
        rotate_left
        · simp only [Act.put, List.setIfInBounds_toArray, List.set_cons_zero, List.set_cons_succ, i64_w, i32_w]
          rfl
        refine pure_ (i := 2) (N := some 13) (v := ?_) (a' := ?_) #[true, true, true, false, false, false, false, false, false, false, false, false, false, false, false, false, false, false, false, false, false, false] rfl rfl (any_of HT_.out (by kernel_rfl)) (fun _ _ _ h => h) (Or.inl ⟨by rfl, ?_⟩) ?_ ?_
        rotate_left
        · intro w'
          go_simp
          with_reducible rfl
        rotate_left
        · simp only [Act.put, List.setIfInBounds_toArray, List.set_cons_zero, List.set_cons_succ, i64_w, i32_w]
          rfl
        refine pure_ (i := 3) (N := some 14) (v := ?_) (a' := ?_) #[true, true, true, true, false, false, false, false, false, false, false, false, false, false, false, false, false, false, false, false, false, false] rfl rfl (any_of HT_.out (by kernel_rfl)) (fun _ _ _ h => h) (Or.inl ⟨by rfl, ?_⟩) ?_ ?_
        rotate_left
        · intro w'
          go_simp
          with_reducible rfl
        rotate_left
        · simp only [Act.put, List.setIfInBounds_toArray, List.set_cons_zero, List.set_cons_succ, i64_w, i32_w]
          rfl
        refine pure_ (i := 5) (N := some 16) (v := ?_) (a' := ?_) #[true, true, true, true, false, true, false, false, false, false, false, false, false, false, false, false, false, false, false, false, false, false] rfl rfl (any_of HT_.out (by kernel_rfl)) (fun _ _ _ h => h) (Or.inl ⟨by rfl, ?_⟩) ?_ ?_
        rotate_left
        · intro w'
          go_simp
          with_reducible rfl
        rotate_left
        · simp only [Act.put, List.setIfInBounds_toArray, List.set_cons_zero, List.set_cons_succ, i64_w, i32_w]
          rfl
        refine pure_ (i := 6) (N := some 17) (v := ?_) (a' := ?_) #[true, true, true, true, false, true, true, false, false, false, false, false, false, false, false, false, false, false, false, false, false, false] rfl rfl (any_of HT_.out (by kernel_rfl)) (fun _ _ _ h => h) (Or.inl ⟨by rfl, ?_⟩) ?_ ?_
        rotate_left
        · intro w'
          go_simp
          with_reducible rfl
        rotate_left
        · simp only [Act.put, List.setIfInBounds_toArray, List.set_cons_zero, List.set_cons_succ, i64_w, i32_w]
          rfl
        refine pure_ (i := 7) (N := some 18) (v := ?_) (a' := ?_) #[true, true, true, true, false, true, true, true, false, false, false, false, false, false, false, false, false, false, false, false, false, false] rfl rfl (any_of HT_.out (by kernel_rfl)) (fun _ _ _ h => h) (Or.inl ⟨by rfl, ?_⟩) ?_ ?_
        rotate_left
        · intro w'
          go_simp
          with_reducible rfl
        rotate_left
        · simp only [Act.put, List.setIfInBounds_toArray, List.set_cons_zero, List.set_cons_succ, i64_w, i32_w]
          rfl
        refine pure_ (i := 8) (N := some 19) (v := ?_) (a' := ?_) #[true, true, true, true, false, true, true, true, true, false, false, false, false, false, false, false, false, false, false, false, false, false] rfl rfl (any_of HT_.out (by kernel_rfl)) (fun _ _ _ h => h) (Or.inl ⟨by rfl, ?_⟩) ?_ ?_
        rotate_left
        · intro w'
          go_simp
          with_reducible rfl
        rotate_left
        · simp only [Act.put, List.setIfInBounds_toArray, List.set_cons_zero, List.set_cons_succ, i64_w, i32_w]
          rfl
        refine pure_ (i := 9) (N := some 20) (v := ?_) (a' := ?_) #[true, true, true, true, false, true, true, true, true, true, false, false, false, false, false, false, false, false, false, false, false, false] rfl rfl (any_of HT_.out (by kernel_rfl)) (fun _ _ _ h => h) (Or.inl ⟨by rfl, ?_⟩) ?_ ?_
        rotate_left
        · intro w'
          go_simp
          with_reducible rfl
        rotate_left
        · simp only [Act.put, List.setIfInBounds_toArray, List.set_cons_zero, List.set_cons_succ, i64_w, i32_w]
          rfl
        refine pure_ (i := 12) (N := some 23) (v := ?_) (a' := ?_) #[true, true, true, true, false, true, true, true, true, true, false, false, true, false, false, false, false, false, false, false, false, false] rfl rfl (any_of HT_.out (by kernel_rfl)) (fun _ _ _ h => h) (Or.inl ⟨by rfl, ?_⟩) ?_ ?_
        rotate_left
        · intro w'
          go_simp
          with_reducible rfl
        rotate_left
        · simp only [Act.put, List.setIfInBounds_toArray, List.set_cons_zero, List.set_cons_succ, i64_w, i32_w]
          rfl
        refine pure_ (i := 13) (N := some 24) (v := ?_) (a' := ?_) #[true, true, true, true, false, true, true, true, true, true, false, false, true, true, false, false, false, false, false, false, false, false] rfl rfl (any_of HT_.out (by kernel_rfl)) (fun _ _ _ h => h) (Or.inl ⟨by rfl, ?_⟩) ?_ ?_
        rotate_left
        · intro w'
          go_simp
          with_reducible rfl
        rotate_left
        · simp only [Act.put, List.setIfInBounds_toArray, List.set_cons_zero, List.set_cons_succ, i64_w, i32_w]
          rfl
        refine pure_ (i := 14) (N := some 25) (v := ?_) (a' := ?_) #[true, true, true, true, false, true, true, true, true, true, false, false, true, true, true, false, false, false, false, false, false, false] rfl rfl (any_of HT_.out (by kernel_rfl)) (fun _ _ _ h => h) (Or.inl ⟨by rfl, ?_⟩) ?_ ?_
        rotate_left
        · intro w'
          go_simp
          with_reducible rfl
        rotate_left
        · simp only [Act.put, List.setIfInBounds_toArray, List.set_cons_zero, List.set_cons_succ, i64_w, i32_w]
          rfl
        refine pure_ (i := 15) (N := some 26) (v := ?_) (a' := ?_) #[true, true, true, true, false, true, true, true, true, true, false, false, true, true, true, true, false, false, false, false, false, false] rfl rfl (any_of HT_.out (by kernel_rfl)) (fun _ _ _ h => h) (Or.inl ⟨by rfl, ?_⟩) ?_ ?_
        rotate_left
        · intro w'
          go_simp
          with_reducible rfl
        rotate_left
        · simp only [Act.put, List.setIfInBounds_toArray, List.set_cons_zero, List.set_cons_succ, i64_w, i32_w]
          rfl
        refine pure_ (i := 16) (N := some 27) (v := ?_) (a' := ?_) #[true, true, true, true, false, true, true, true, true, true, false, false, true, true, true, true, true, false, false, false, false, false] rfl rfl (any_of HT_.out (by kernel_rfl)) (fun _ _ _ h => h) (Or.inl ⟨by rfl, ?_⟩) ?_ ?_
        rotate_left
        · intro w'
          go_simp
          with_reducible rfl
        rotate_left
        · simp only [Act.put, List.setIfInBounds_toArray, List.set_cons_zero, List.set_cons_succ, i64_w, i32_w]
          rfl
        refine take_ (i := 4) (N := some 15) (v := ?_) (a' := ?_) #[true, true, true, true, true, true, true, true, true, true, false, false, true, true, true, true, true, false, false, false, false, false] rfl rfl (take_ofW HT_.out HW_.out (by kernel_rfl)) (fun _ _ _ h => h) (Or.inl ⟨by rfl, ?_⟩) hHeld ?_ ?_
        rotate_left
        · rintro w' ⟨s0, s1, s2, s3, s4, s5, s6, s7, s8, s9, s10, s11, s12, s13, s14, s15, s16, s17, s18, s19, s20, s21, s22, s23⟩
          go_simp
          with_reducible rfl
        rotate_left
        · simp only [Act.put, List.setIfInBounds_toArray, List.set_cons_zero, List.set_cons_succ, i64_w, i32_w]
          rfl
        refine take_ (i := 10) (N := some 21) (v := ?_) (a' := ?_) #[true, true, true, true, true, true, true, true, true, true, true, false, true, true, true, true, true, false, false, false, false, false] rfl rfl (take_ofW HT_.out HW_.out (by kernel_rfl)) (fun _ _ _ h => h) (Or.inl ⟨by rfl, ?_⟩) hHeld ?_ ?_
        rotate_left
        · rintro w' ⟨s0, s1, s2, s3, s4, s5, s6, s7, s8, s9, s10, s11, s12, s13, s14, s15, s16, s17, s18, s19, s20, s21, s22, s23⟩
          go_simp
          with_reducible rfl
        rotate_left
        · simp only [Act.put, List.setIfInBounds_toArray, List.set_cons_zero, List.set_cons_succ, i64_w, i32_w]
          rfl
        refine take_ (i := 17) (N := some 28) (v := ?_) (a' := ?_) #[true, true, true, true, true, true, true, true, true, true, true, false, true, true, true, true, true, true, false, false, false, false] rfl rfl (take_ofW HT_.out HW_.out (by kernel_rfl)) (fun _ _ _ h => h) (Or.inl ⟨by rfl, ?_⟩) hHeld ?_ ?_
        rotate_left
        · rintro w' ⟨s0, s1, s2, s3, s4, s5, s6, s7, s8, s9, s10, s11, s12, s13, s14, s15, s16, s17, s18, s19, s20, s21, s22, s23⟩
          go_simp
          with_reducible rfl
        rotate_left
        · simp only [Act.put, List.setIfInBounds_toArray, List.set_cons_zero, List.set_cons_succ, i64_w, i32_w]
          rfl
        refine one_ (i := 11) (N := some 22) #[true, true, true, true, true, true, true, true, true, true, true, true, true, true, true, true, true, true, false, false, false, false] rfl rfl (one_of HT_.out (by kernel_rfl)) (by decide) (fun K hK => ?_)
        refine goes_ Try.func71 (by kernel_rfl) rfl #[.slice (some ad382) l0.length c0, .string ((rd_T39 l0 t381).f6)] (by rfl) rfl rfl (by (try simp only [List.map_toArray, List.map_cons, List.map_nil]); first | done | rfl | (simp only [List.length_drop, List.length_take]; rfl)) ?_
        with_reducible refine (ih k (by omega) _ _ l0 ((rd_T39 l0 t381).f6) t384 _ ?side1 ?side2 A8.out).mono ?_
        (case side1 => repeat (first | exact (Kd.C_below HR0.out HB.out) | (with_reducible refine Kd.C_alloc ?_ _) | (with_reducible refine Kd.C_drewN ?_ _) | (with_reducible refine Kd.C_drew ?_)))
        (case side2 => exact HC0.out)
        rintro e w13 ⟨rfl, hb⟩
        refine ⟨_, rfl, ?_⟩
        have n0_ := Aside0.mk (below_step (by repeat (first | (with_reducible first | exact HB.out | apply below_alloc | apply pw_below_drewN | apply below_drew1) | exact HB.out)) hb)
        clear HB
        have HB := n0_
        clear n0_
        (try clear hb)
        (try clear hb2)
        (try clear hk)
        (try clear hi)
        refine hK.out _ _ ⟨((HB.out.cell (World.block_lt_of_cell? w _ hw382_0)).trans hw382_0), ((HB.out.cell (World.block_lt_of_cell? w _ hw382_1)).trans hw382_1), ((HB.out.cell (World.block_lt_of_cell? w _ hw382_2)).trans hw382_2), ((HB.out.cell (World.block_lt_of_cell? w _ hw382_3)).trans hw382_3), ((HB.out.cell (World.block_lt_of_cell? w _ hw382_4)).trans hw382_4), ((HB.out.cell (World.block_lt_of_cell? w _ hw382_5)).trans hw382_5), ((HB.out.cell (World.block_lt_of_cell? w _ hw382_6)).trans hw382_6), ((HB.out.cell (World.block_lt_of_cell? w _ hw382_7)).trans hw382_7), ((HB.out.cell (World.block_lt_of_cell? w _ hw383_0)).trans hw383_0), ((HB.out.cell (World.block_lt_of_cell? w _ hw383_1)).trans hw383_1), ((HB.out.cell (World.block_lt_of_cell? w _ hw383_2)).trans hw383_2), ((HB.out.cell (World.block_lt_of_cell? w _ hw383_3)).trans hw383_3), ((HB.out.cell (World.block_lt_of_cell? w _ hw383_4)).trans hw383_4), ((HB.out.cell (World.block_lt_of_cell? w _ hw383_5)).trans hw383_5), ((HB.out.cell (World.block_lt_of_cell? w _ hw383_6)).trans hw383_6), ((HB.out.cell (World.block_lt_of_cell? w _ hw383_7)).trans hw383_7), ((HB.out.cell (World.block_lt_of_cell? w _ hw385_0)).trans hw385_0), ((HB.out.cell (World.block_lt_of_cell? w _ hw385_1)).trans hw385_1), ((HB.out.cell (World.block_lt_of_cell? w _ hw385_2)).trans hw385_2), ((HB.out.cell (World.block_lt_of_cell? w _ hw385_3)).trans hw385_3), ((HB.out.cell (World.block_lt_of_cell? w _ hw385_4)).trans hw385_4), ((HB.out.cell (World.block_lt_of_cell? w _ hw385_5)).trans hw385_5), ((HB.out.cell (World.block_lt_of_cell? w _ hw385_6)).trans hw385_6), ((HB.out.cell (World.block_lt_of_cell? w _ hw385_7)).trans hw385_7)⟩ (fun hHeld => ?_)
        clear hK K
        refine norm_ (a' := ?_) ?_ ?_
        rotate_left
        · show Act.put _ (some 22) _ = _
          simp only [Act.put, List.setIfInBounds_toArray, List.set_cons_zero, List.set_cons_succ, i64_w, i32_w]
          rfl
        refine one_ (i := 18) (N := some 29) #[true, true, true, true, true, true, true, true, true, true, true, true, true, true, true, true, true, true, true, false, false, false] rfl rfl (one_of HT_.out (by kernel_rfl)) (by decide) (fun K hK => ?_)
        refine goes_ Try.func71 (by kernel_rfl) rfl #[.slice (some ad382) l0.length c0, .string ((rd_T39 l0 t381).f7)] (by rfl) rfl rfl (by (try simp only [List.map_toArray, List.map_cons, List.map_nil]); first | done | rfl | (simp only [List.length_drop, List.length_take]; rfl)) ?_
        with_reducible refine (ih k (by omega) _ _ l0 ((rd_T39 l0 t381).f7) t386 _ ?side1 ?side2 A9.out).mono ?_
        (case side1 => repeat (first | exact (Kd.C_below HR0.out HB.out) | (with_reducible refine Kd.C_alloc ?_ _) | (with_reducible refine Kd.C_drewN ?_ _) | (with_reducible refine Kd.C_drew ?_)))
        (case side2 => exact HC0.out)
        rintro e w14 ⟨rfl, hb⟩
        refine ⟨_, rfl, ?_⟩
        have n0_ := Aside0.mk (below_step (by repeat (first | (with_reducible first | exact HB.out | apply below_alloc | apply pw_below_drewN | apply below_drew1) | exact HB.out)) hb)
        clear HB
        have HB := n0_
        clear n0_
        (try clear hb)
        (try clear hb2)
        (try clear hk)
        (try clear hi)
        refine hK.out _ _ ⟨((HB.out.cell (World.block_lt_of_cell? w _ hw382_0)).trans hw382_0), ((HB.out.cell (World.block_lt_of_cell? w _ hw382_1)).trans hw382_1), ((HB.out.cell (World.block_lt_of_cell? w _ hw382_2)).trans hw382_2), ((HB.out.cell (World.block_lt_of_cell? w _ hw382_3)).trans hw382_3), ((HB.out.cell (World.block_lt_of_cell? w _ hw382_4)).trans hw382_4), ((HB.out.cell (World.block_lt_of_cell? w _ hw382_5)).trans hw382_5), ((HB.out.cell (World.block_lt_of_cell? w _ hw382_6)).trans hw382_6), ((HB.out.cell (World.block_lt_of_cell? w _ hw382_7)).trans hw382_7), ((HB.out.cell (World.block_lt_of_cell? w _ hw383_0)).trans hw383_0), ((HB.out.cell (World.block_lt_of_cell? w _ hw383_1)).trans hw383_1), ((HB.out.cell (World.block_lt_of_cell? w _ hw383_2)).trans hw383_2), ((HB.out.cell (World.block_lt_of_cell? w _ hw383_3)).trans hw383_3), ((HB.out.cell (World.block_lt_of_cell? w _ hw383_4)).trans hw383_4), ((HB.out.cell (World.block_lt_of_cell? w _ hw383_5)).trans hw383_5), ((HB.out.cell (World.block_lt_of_cell? w _ hw383_6)).trans hw383_6), ((HB.out.cell (World.block_lt_of_cell? w _ hw383_7)).trans hw383_7), ((HB.out.cell (World.block_lt_of_cell? w _ hw385_0)).trans hw385_0), ((HB.out.cell (World.block_lt_of_cell? w _ hw385_1)).trans hw385_1), ((HB.out.cell (World.block_lt_of_cell? w _ hw385_2)).trans hw385_2), ((HB.out.cell (World.block_lt_of_cell? w _ hw385_3)).trans hw385_3), ((HB.out.cell (World.block_lt_of_cell? w _ hw385_4)).trans hw385_4), ((HB.out.cell (World.block_lt_of_cell? w _ hw385_5)).trans hw385_5), ((HB.out.cell (World.block_lt_of_cell? w _ hw385_6)).trans hw385_6), ((HB.out.cell (World.block_lt_of_cell? w _ hw385_7)).trans hw385_7)⟩ (fun hHeld => ?_)
        clear hK K
        refine norm_ (a' := ?_) ?_ ?_
        rotate_left
        · show Act.put _ (some 29) _ = _
          simp only [Act.put, List.setIfInBounds_toArray, List.set_cons_zero, List.set_cons_succ, i64_w, i32_w]
          rfl
        refine pure_ (i := 19) (N := some 30) (v := ?_) (a' := ?_) #[true, true, true, true, true, true, true, true, true, true, true, true, true, true, true, true, true, true, true, true, false, false] rfl rfl (any_of HT_.out (by kernel_rfl)) (fun _ _ _ h => h) (Or.inl ⟨by rfl, ?_⟩) ?_ ?_
        rotate_left
        · intro w'
          go_simp
          with_reducible rfl
        rotate_left
        · simp only [Act.put, List.setIfInBounds_toArray, List.set_cons_zero, List.set_cons_succ, i64_w, i32_w]
          rfl
        refine pure_ (i := 20) (N := some 31) (v := ?_) (a' := ?_) #[true, true, true, true, true, true, true, true, true, true, true, true, true, true, true, true, true, true, true, true, true, false] rfl rfl (any_of HT_.out (by kernel_rfl)) (fun _ _ _ h => h) (Or.inl ⟨by rfl, ?_⟩) ?_ ?_
        rotate_left
        · intro w'
          go_simp
          with_reducible rfl
        rotate_left
        · simp only [Act.put, List.setIfInBounds_toArray, List.set_cons_zero, List.set_cons_succ, i64_w, i32_w]
          rfl
        refine pure_ (i := 21) (N := some 4) (v := ?_) (a' := ?_) #[true, true, true, true, true, true, true, true, true, true, true, true, true, true, true, true, true, true, true, true, true, true] rfl rfl (any_of HT_.out (by kernel_rfl)) (fun _ _ _ h => h) (Or.inl ⟨by rfl, ?_⟩) ?_ ?_
        rotate_left
        · intro w'
          go_simp
          with_reducible rfl
        rotate_left
        · simp only [Act.put, List.setIfInBounds_toArray, List.set_cons_zero, List.set_cons_succ, i64_w, i32_w]
          rfl
        refine done_ (done_of HT_.out (by kernel_rfl)) ?_
        try go_wp2
        go_ret
        exact ⟨by first | rfl | (simp [errW_none, errW_some] <;> rfl) | (simp only [← hji10]; first | rfl | (simp [errW_none, errW_some] <;> rfl)) | (simp [*, errW_none, errW_some] <;> rfl), by repeat (first | (with_reducible first | exact HB.out | apply below_alloc | apply pw_below_drewN | apply below_drew1) | exact HB.out)⟩
      · rw [if_neg c7] at H
        exact absurd H (by simp)
    · rw [if_neg c6] at H
      exact absurd H (by simp)

end Go.Proofs.Ytdkologncoofdaa.P
