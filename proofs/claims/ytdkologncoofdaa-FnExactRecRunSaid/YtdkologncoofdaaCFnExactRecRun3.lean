/- Part 3 of the texts that the law FnExactRecRun reaches: contracts of the functions and plain lemmas. -/
import Derived.Test.YtdkologncoofdaaCFnExactRecRun2
-- Px36
namespace Go.Proofs.Ytdkologncoofdaa.P
open Go.RowKit Go.Proofs.YtdkologncoofdaaW.PrintWords Go.Proofs.YtdkologncoofdaaW.PrintLast Go.Proofs.YtdkologncoofdaaW.PrintMore
attribute [local go_sem] max2_int min2_int max_two min_two max_three min_three max_four min_four   -- for this text's walks alone
set_option linter.unusedVariables false
set_option linter.unusedSimpArgs false

/-! ### impl_bound: function 71 -/
def impl_bound.f : Nat → List (S39) → ByteArray → Option (Int)
  | 0, _, _ => none
  | k + 1, l0, a1 => (impl_at.f l0 a1).bind fun t381 => (if t381 < 0 then (some 0) else (if 0 ≤ t381 then (if t381 < (l0.length : Int) then ((impl_bound.f k l0 ((rd_T39 l0 t381).f6)).bind fun t384 => ((impl_bound.f k l0 ((rd_T39 l0 t381).f7)).bind fun t386 => (some (wrap64 (((rd_T39 l0 t381).f5) + (mx t384 t386)))))) else (none)) else (none)))
theorem impl_bound.mono_l : ∀ k, (∀ y0 y1, LeO (impl_bound.f k y0 y1) (impl_bound.f (k + 1) y0 y1))
  | 0 => fun _ _ r h => by simp [impl_bound.f] at h
  | k + 1 => by
    have ih0 := impl_bound.mono_l k
    · intro y0 y1
      unfold impl_bound.f
      repeat' first
      | (with_reducible exact ih0 _ _)
      | (with_reducible exact LeO.refl _)
      | (with_reducible exact LeO.none _)
      | (with_reducible refine LeO.ite ?_ ?_)
      | (with_reducible refine LeO.bind ?_ (fun _ => ?_))
      | exact ih0 _ _
      | exact LeO.none _
      | refine LeO.ite ?_ ?_
      | refine LeO.bind ?_ (fun _ => ?_)
theorem impl_bound.mono : ∀ a0 a1 k, LeO (impl_bound.f k a0 a1) (impl_bound.f (k + 1) a0 a1) := by
  intro a0 a1 k
  have ih0 := impl_bound.mono_l k
  exact ih0 a0 a1
def impl_bound.T4 : Bool × List (List Nat × List Nat) := (true, [([], []), ([], []), ([0, 1], [0, 1]), ([2], [2]), ([3], [3]), ([], []), ([], []), ([], []), ([6, 7], [6, 7]), ([8], [8]), ([9], [9]), ([5, 10], [5, 10]), ([], []), ([], []), ([], []), ([13, 14], [13, 14]), ([15], [15]), ([16], [16]), ([12, 17, 11], [12, 17]), ([11, 18], [11, 18]), ([4, 19], [4, 19]), ([20, 18, 0, 1, 2, 3, 4, 5, 6, 7, 8, 9, 10, 11, 12, 13, 14, 15, 16, 17, 18, 19, 20], [20])])
def impl_bound.B4 : List Nat := [0, 0, 3, 7, 15, 0, 0, 0, 192, 448, 960, 2016, 0, 0, 0, 24576, 57344, 122880, 262112, 524256, 1048575, 2097151]
theorem impl_bound.tab4 : rtab .any (opsOf Try.f71 4) = impl_bound.T4 := by kernel_rfl
theorem impl_bound.bits4 : waitsOk impl_bound.T4.2 impl_bound.B4 = true := by kernel_rfl
set_option maxHeartbeats 8000000 in
set_option maxRecDepth 100000 in
theorem impl_bound.calls (k : Nat) : ∀ (A0 : Option Addr) (c0 : Nat) (l0 : List (S39)) (a1 : ByteArray) (r : Int) (w : World) (hr0 : Kd.C k39 w A0 l0.length l0) (hc0 : l0.length ≤ c0) (h : impl_bound.f k l0 a1 = some r),
    Calls Try.prog 71 #[.slice A0 l0.length c0, .string a1] w fun e w' => e = .returned (.int .i64 r) ∧ Below w.heap.size w w' := by
  induction k using Nat.strongRecOn with
  | _ k ih =>
  intro A0 c0 l0 a1 r w hr0 hc0 h
  cases k with
  | zero => exact absurd h (by simp [impl_bound.f])
  | succ k =>
  simp only [impl_bound.f] at h
  have HR0 := Aside0.mk hr0
  have HC0 := Aside0.mk hc0
  clear hr0 hc0
  have HB := Aside0.mk (Below.refl w.heap.size w)
  have H : ((impl_at.f l0 a1).bind fun t381 => (if t381 < 0 then (some 0) else (if 0 ≤ t381 then (if t381 < (l0.length : Int) then ((impl_bound.f k l0 ((rd_T39 l0 t381).f6)).bind fun t384 => ((impl_bound.f k l0 ((rd_T39 l0 t381).f7)).bind fun t386 => (some (wrap64 (((rd_T39 l0 t381).f5) + (mx t384 t386)))))) else (none)) else (none)))) = some r := h
  clear h
  replace H := Option.bind_eq_some_iff.mp H
  obtain ⟨t381, A30, H⟩ := H
  replace H : (if t381 < 0 then (some 0) else (if 0 ≤ t381 then (if t381 < (l0.length : Int) then ((impl_bound.f k l0 ((rd_T39 l0 t381).f6)).bind fun t384 => ((impl_bound.f k l0 ((rd_T39 l0 t381).f7)).bind fun t386 => (some (wrap64 (((rd_T39 l0 t381).f5) + (mx t384 t386)))))) else (none)) else (none))) = some r := H
  have A3 := Aside0.mk A30
  clear A30
  by_cases c4 : t381 < 0
  · rw [if_pos c4] at H
    have c4b0 : decide (t381 < 0) = true := decide_eq_true c4
    clear c4
    obtain rfl := Option.some.inj H
    go_enter Try.func71, Try.ntmps71
    go_wp2_with (first | ((with_reducible refine gate_callee (f := 69) rfl ?_); refine goesL_ (some 8) rfl rfl Try.func69 (by kernel_rfl) rfl #[.slice A0 l0.length c0, .string a1] rfl mxp ?_; (with_reducible refine (impl_at.calls _ _ l0 a1 t381 _ ?side1 ?side2 A3.out).mono ?_); (case side1 => exact cx HR0.out); (case side2 => exact HC0.out); rintro e w5 ⟨rfl, hb⟩; refine ⟨_, rfl, ?_⟩; replace HB := bs HB hb; (try clear hb); (try clear hb2); (try clear hk); (try clear hi)))
    go_ret
    exact ⟨exq, bw HB.out⟩
  · rw [if_neg c4] at H
    have c4b0 : decide (t381 < 0) = false := decide_eq_false c4
    clear c4
    by_cases c6 : 0 ≤ t381
    · rw [if_pos c6] at H
      have c6b0 : decide (0 ≤ t381) = true := decide_eq_true c6
      clear c6
      by_cases c7 : t381 < (l0.length : Int)
      · rw [if_pos c7] at H
        have c7b0 : decide (t381 < (l0.length : Int)) = true := decide_eq_true c7
        clear c7
        replace H := Option.bind_eq_some_iff.mp H
        obtain ⟨t384, A80, H⟩ := H
        replace H : ((impl_bound.f k l0 ((rd_T39 l0 t381).f7)).bind fun t386 => (some (wrap64 (((rd_T39 l0 t381).f5) + (mx t384 t386))))) = some r := H
        have A8 := Aside0.mk A80
        clear A80
        replace H := Option.bind_eq_some_iff.mp H
        obtain ⟨t386, A90, H⟩ := H
        replace H : (some (wrap64 (((rd_T39 l0 t381).f5) + (mx t384 t386)))) = some r := H
        have A9 := Aside0.mk A90
        clear A90
        obtain ⟨ji10, hji10⟩ : ∃ j_ : Int, (mx t384 t386) = j_ := ⟨_, rfl⟩
        replace H : (some (wrap64 (((rd_T39 l0 t381).f5) + (ji10)))) = some r := by first | (rw [hji10] at H; exact H) | (simp only [hji10] at H ⊢; exact H)
        (try rw [hji10] at A3)
        (try rw [hji10] at A8)
        (try rw [hji10] at A9)
        have hji10_ : (if t384 < t386 then t386 else t384) = ji10 := hji10
        obtain rfl := Option.some.inj H
        go_enter Try.func71, Try.ntmps71
        try go_wp2_with (first | ((with_reducible refine gate_callee (f := 69) rfl ?_); refine goesL_ (some 8) rfl rfl Try.func69 (by kernel_rfl) rfl #[.slice A0 l0.length c0, .string a1] rfl mxp ?_; (with_reducible refine (impl_at.calls _ _ l0 a1 t381 _ ?side1 ?side2 A3.out).mono ?_); (case side1 => exact cx HR0.out); (case side2 => exact HC0.out); rintro e w11 ⟨rfl, hb⟩; refine ⟨_, rfl, ?_⟩; replace HB := bs HB hb; (try clear hb); (try clear hb2); (try clear hk); (try clear hi)))
        have n0_ := Aside0.mk (below_drew1 HB.out)
        clear HB
        have HB := n0_
        clear n0_
        have p382 : 0 ≤ (t381 : Int) := of_decide_eq_true (by first | (with_reducible assumption) | assumption)
        have q382 : t381 < (l0.length : Int) := of_decide_eq_true (by first | (with_reducible assumption) | assumption)
        obtain ⟨ad382, e382, hx382_0, hx382_1, hx382_2, hx382_3, hx382_4, hx382_5, hx382_6, hx382_7⟩ := at_T39 HR0.out t381 p382 q382
        have hw382_7 := hx382_7
        have hw382_6 := hx382_6
        have hw382_5 := hx382_5
        have hw382_4 := hx382_4
        have hw382_3 := hx382_3
        have hw382_2 := hx382_2
        have hw382_1 := hx382_1
        have hw382_0 := hx382_0
        cases e382
        replace hx382_0 := bcl HB hx382_0
        replace hx382_1 := bcl HB hx382_1
        replace hx382_2 := bcl HB hx382_2
        replace hx382_3 := bcl HB hx382_3
        replace hx382_4 := bcl HB hx382_4
        replace hx382_5 := bcl HB hx382_5
        replace hx382_6 := bcl HB hx382_6
        replace hx382_7 := bcl HB hx382_7
        replace p382 := eq_true p382
        replace q382 := eq_true q382
        have p383 : 0 ≤ (t381 : Int) := of_decide_eq_true (by first | (with_reducible assumption) | assumption)
        have q383 : t381 < (l0.length : Int) := of_decide_eq_true (by first | (with_reducible assumption) | assumption)
        obtain ⟨ad383, e383, hx383_0, hx383_1, hx383_2, hx383_3, hx383_4, hx383_5, hx383_6, hx383_7⟩ := at_T39 HR0.out t381 p383 q383
        have hw383_7 := hx383_7
        have hw383_6 := hx383_6
        have hw383_5 := hx383_5
        have hw383_4 := hx383_4
        have hw383_3 := hx383_3
        have hw383_2 := hx383_2
        have hw383_1 := hx383_1
        have hw383_0 := hx383_0
        obtain rfl : ad382 = ad383 := (by injection e383)
        replace hx383_0 := bcl HB hx383_0
        replace hx383_1 := bcl HB hx383_1
        replace hx383_2 := bcl HB hx383_2
        replace hx383_3 := bcl HB hx383_3
        replace hx383_4 := bcl HB hx383_4
        replace hx383_5 := bcl HB hx383_5
        replace hx383_6 := bcl HB hx383_6
        replace hx383_7 := bcl HB hx383_7
        replace p383 := eq_true p383
        replace q383 := eq_true q383
        have p385 : 0 ≤ (t381 : Int) := of_decide_eq_true (by first | (with_reducible assumption) | assumption)
        have q385 : t381 < (l0.length : Int) := of_decide_eq_true (by first | (with_reducible assumption) | assumption)
        obtain ⟨ad385, e385, hx385_0, hx385_1, hx385_2, hx385_3, hx385_4, hx385_5, hx385_6, hx385_7⟩ := at_T39 HR0.out t381 p385 q385
        have hw385_7 := hx385_7
        have hw385_6 := hx385_6
        have hw385_5 := hx385_5
        have hw385_4 := hx385_4
        have hw385_3 := hx385_3
        have hw385_2 := hx385_2
        have hw385_1 := hx385_1
        have hw385_0 := hx385_0
        obtain rfl : ad382 = ad385 := (by injection e385)
        replace hx385_0 := bcl HB hx385_0
        replace hx385_1 := bcl HB hx385_1
        replace hx385_2 := bcl HB hx385_2
        replace hx385_3 := bcl HB hx385_3
        replace hx385_4 := bcl HB hx385_4
        replace hx385_5 := bcl HB hx385_5
        replace hx385_6 := bcl HB hx385_6
        replace hx385_7 := bcl HB hx385_7
        replace p385 := eq_true p385
        replace q385 := eq_true q385
        refine start_ (n := 22) (S := fun w' => w'.cell? (ad382.add ((t381).toNat * 8)) = some (.string ((rd_T39 l0 t381).f0)) ∧ w'.cell? ⟨(ad382.add ((t381).toNat * 8)).block, (ad382.add ((t381).toNat * 8)).off + 1, none⟩ = some (.int .i64 ((rd_T39 l0 t381).f1)) ∧ w'.cell? ⟨(ad382.add ((t381).toNat * 8)).block, (ad382.add ((t381).toNat * 8)).off + 2, none⟩ = some (.string ((rd_T39 l0 t381).f2)) ∧ w'.cell? ⟨(ad382.add ((t381).toNat * 8)).block, (ad382.add ((t381).toNat * 8)).off + 3, none⟩ = some (.string ((rd_T39 l0 t381).f3)) ∧ w'.cell? ⟨(ad382.add ((t381).toNat * 8)).block, (ad382.add ((t381).toNat * 8)).off + 4, none⟩ = some (.int .i64 ((rd_T39 l0 t381).f4)) ∧ w'.cell? ⟨(ad382.add ((t381).toNat * 8)).block, (ad382.add ((t381).toNat * 8)).off + 5, none⟩ = some (.int .i64 ((rd_T39 l0 t381).f5)) ∧ w'.cell? ⟨(ad382.add ((t381).toNat * 8)).block, (ad382.add ((t381).toNat * 8)).off + 6, none⟩ = some (.string ((rd_T39 l0 t381).f6)) ∧ w'.cell? ⟨(ad382.add ((t381).toNat * 8)).block, (ad382.add ((t381).toNat * 8)).off + 7, none⟩ = some (.string ((rd_T39 l0 t381).f7)) ∧ w'.cell? (ad382.add ((t381).toNat * 8)) = some (.string ((rd_T39 l0 t381).f0)) ∧ w'.cell? ⟨(ad382.add ((t381).toNat * 8)).block, (ad382.add ((t381).toNat * 8)).off + 1, none⟩ = some (.int .i64 ((rd_T39 l0 t381).f1)) ∧ w'.cell? ⟨(ad382.add ((t381).toNat * 8)).block, (ad382.add ((t381).toNat * 8)).off + 2, none⟩ = some (.string ((rd_T39 l0 t381).f2)) ∧ w'.cell? ⟨(ad382.add ((t381).toNat * 8)).block, (ad382.add ((t381).toNat * 8)).off + 3, none⟩ = some (.string ((rd_T39 l0 t381).f3)) ∧ w'.cell? ⟨(ad382.add ((t381).toNat * 8)).block, (ad382.add ((t381).toNat * 8)).off + 4, none⟩ = some (.int .i64 ((rd_T39 l0 t381).f4)) ∧ w'.cell? ⟨(ad382.add ((t381).toNat * 8)).block, (ad382.add ((t381).toNat * 8)).off + 5, none⟩ = some (.int .i64 ((rd_T39 l0 t381).f5)) ∧ w'.cell? ⟨(ad382.add ((t381).toNat * 8)).block, (ad382.add ((t381).toNat * 8)).off + 6, none⟩ = some (.string ((rd_T39 l0 t381).f6)) ∧ w'.cell? ⟨(ad382.add ((t381).toNat * 8)).block, (ad382.add ((t381).toNat * 8)).off + 7, none⟩ = some (.string ((rd_T39 l0 t381).f7)) ∧ w'.cell? (ad382.add ((t381).toNat * 8)) = some (.string ((rd_T39 l0 t381).f0)) ∧ w'.cell? ⟨(ad382.add ((t381).toNat * 8)).block, (ad382.add ((t381).toNat * 8)).off + 1, none⟩ = some (.int .i64 ((rd_T39 l0 t381).f1)) ∧ w'.cell? ⟨(ad382.add ((t381).toNat * 8)).block, (ad382.add ((t381).toNat * 8)).off + 2, none⟩ = some (.string ((rd_T39 l0 t381).f2)) ∧ w'.cell? ⟨(ad382.add ((t381).toNat * 8)).block, (ad382.add ((t381).toNat * 8)).off + 3, none⟩ = some (.string ((rd_T39 l0 t381).f3)) ∧ w'.cell? ⟨(ad382.add ((t381).toNat * 8)).block, (ad382.add ((t381).toNat * 8)).off + 4, none⟩ = some (.int .i64 ((rd_T39 l0 t381).f4)) ∧ w'.cell? ⟨(ad382.add ((t381).toNat * 8)).block, (ad382.add ((t381).toNat * 8)).off + 5, none⟩ = some (.int .i64 ((rd_T39 l0 t381).f5)) ∧ w'.cell? ⟨(ad382.add ((t381).toNat * 8)).block, (ad382.add ((t381).toNat * 8)).off + 6, none⟩ = some (.string ((rd_T39 l0 t381).f6)) ∧ w'.cell? ⟨(ad382.add ((t381).toNat * 8)).block, (ad382.add ((t381).toNat * 8)).off + 7, none⟩ = some (.string ((rd_T39 l0 t381).f7))) (ds := []) #[false, false, false, false, false, false, false, false, false, false, false, false, false, false, false, false, false, false, false, false, false, false] (by kernel_rfl) rfl rfl ⟨((HB.out.cell (World.block_lt_of_cell? w _ hw382_0)).trans hw382_0), ((HB.out.cell (World.block_lt_of_cell? w _ hw382_1)).trans hw382_1), ((HB.out.cell (World.block_lt_of_cell? w _ hw382_2)).trans hw382_2), ((HB.out.cell (World.block_lt_of_cell? w _ hw382_3)).trans hw382_3), ((HB.out.cell (World.block_lt_of_cell? w _ hw382_4)).trans hw382_4), ((HB.out.cell (World.block_lt_of_cell? w _ hw382_5)).trans hw382_5), ((HB.out.cell (World.block_lt_of_cell? w _ hw382_6)).trans hw382_6), ((HB.out.cell (World.block_lt_of_cell? w _ hw382_7)).trans hw382_7), ((HB.out.cell (World.block_lt_of_cell? w _ hw383_0)).trans hw383_0), ((HB.out.cell (World.block_lt_of_cell? w _ hw383_1)).trans hw383_1), ((HB.out.cell (World.block_lt_of_cell? w _ hw383_2)).trans hw383_2), ((HB.out.cell (World.block_lt_of_cell? w _ hw383_3)).trans hw383_3), ((HB.out.cell (World.block_lt_of_cell? w _ hw383_4)).trans hw383_4), ((HB.out.cell (World.block_lt_of_cell? w _ hw383_5)).trans hw383_5), ((HB.out.cell (World.block_lt_of_cell? w _ hw383_6)).trans hw383_6), ((HB.out.cell (World.block_lt_of_cell? w _ hw383_7)).trans hw383_7), ((HB.out.cell (World.block_lt_of_cell? w _ hw385_0)).trans hw385_0), ((HB.out.cell (World.block_lt_of_cell? w _ hw385_1)).trans hw385_1), ((HB.out.cell (World.block_lt_of_cell? w _ hw385_2)).trans hw385_2), ((HB.out.cell (World.block_lt_of_cell? w _ hw385_3)).trans hw385_3), ((HB.out.cell (World.block_lt_of_cell? w _ hw385_4)).trans hw385_4), ((HB.out.cell (World.block_lt_of_cell? w _ hw385_5)).trans hw385_5), ((HB.out.cell (World.block_lt_of_cell? w _ hw385_6)).trans hw385_6), ((HB.out.cell (World.block_lt_of_cell? w _ hw385_7)).trans hw385_7)⟩ (fun hHeld => ?_); refine with_tabW impl_bound.tab4 impl_bound.bits4 (fun HT_ HW_ => ?_)
        generalize w11.drew = w12 at HB hx382_0 hx382_1 hx382_2 hx382_3 hx382_4 hx382_5 hx382_6 hx382_7 hx383_0 hx383_1 hx383_2 hx383_3 hx383_4 hx383_5 hx383_6 hx383_7 hx385_0 hx385_1 hx385_2 hx385_3 hx385_4 hx385_5 hx385_6 hx385_7 hHeld ⊢
        refine pure_ (i := 0) (N := some 11) (v := ?_) (a' := ?_) #[true, false, false, false, false, false, false, false, false, false, false, false, false, false, false, false, false, false, false, false, false, false] rfl rfl (any_of HT_.out (by kernel_rfl)) (fun _ _ _ h => h) (Or.inl ⟨by rfl, ?_⟩) ?_ ?_
        rotate_left
        · intro w'
          go_simp
          with_reducible rfl
        rotate_left
        · simp only [Act.put, List.setIfInBounds_toArray, List.set_cons_zero, List.set_cons_succ, i64_w, i32_w]
          rfl
        refine pure_ (i := 1) (N := some 12) (v := ?_) (a' := ?_) #[true, true, false, false, false, false, false, false, false, false, false, false, false, false, false, false, false, false, false, false, false, false] rfl rfl (any_of HT_.out (by kernel_rfl)) (fun _ _ _ h => h) (Or.inl ⟨by rfl, ?_⟩) ?_ ?_
        rotate_left
        · intro w'
          go_simp
          with_reducible rfl
        rotate_left
        · simp only [Act.put, List.setIfInBounds_toArray, List.set_cons_zero, List.set_cons_succ, i64_w, i32_w]
          rfl
        refine pure_ (i := 2) (N := some 13) (v := ?_) (a' := ?_) #[true, true, true, false, false, false, false, false, false, false, false, false, false, false, false, false, false, false, false, false, false, false] rfl rfl (any_of HT_.out (by kernel_rfl)) (fun _ _ _ h => h) (Or.inl ⟨by rfl, ?_⟩) ?_ ?_
        rotate_left
        · intro w'
          go_simp
          with_reducible rfl
        rotate_left
        · simp only [Act.put, List.setIfInBounds_toArray, List.set_cons_zero, List.set_cons_succ, i64_w, i32_w]
          rfl
        refine pure_ (i := 3) (N := some 14) (v := ?_) (a' := ?_) #[true, true, true, true, false, false, false, false, false, false, false, false, false, false, false, false, false, false, false, false, false, false] rfl rfl (any_of HT_.out (by kernel_rfl)) (fun _ _ _ h => h) (Or.inl ⟨by rfl, ?_⟩) ?_ ?_
        rotate_left
        · intro w'
          go_simp
          with_reducible rfl
        rotate_left
        · simp only [Act.put, List.setIfInBounds_toArray, List.set_cons_zero, List.set_cons_succ, i64_w, i32_w]
          rfl
        refine pure_ (i := 5) (N := some 16) (v := ?_) (a' := ?_) #[true, true, true, true, false, true, false, false, false, false, false, false, false, false, false, false, false, false, false, false, false, false] rfl rfl (any_of HT_.out (by kernel_rfl)) (fun _ _ _ h => h) (Or.inl ⟨by rfl, ?_⟩) ?_ ?_
        rotate_left
        · intro w'
          go_simp
          with_reducible rfl
        rotate_left
        · simp only [Act.put, List.setIfInBounds_toArray, List.set_cons_zero, List.set_cons_succ, i64_w, i32_w]
          rfl
        refine pure_ (i := 6) (N := some 17) (v := ?_) (a' := ?_) #[true, true, true, true, false, true, true, false, false, false, false, false, false, false, false, false, false, false, false, false, false, false] rfl rfl (any_of HT_.out (by kernel_rfl)) (fun _ _ _ h => h) (Or.inl ⟨by rfl, ?_⟩) ?_ ?_
        rotate_left
        · intro w'
          go_simp
          with_reducible rfl
        rotate_left
        · simp only [Act.put, List.setIfInBounds_toArray, List.set_cons_zero, List.set_cons_succ, i64_w, i32_w]
          rfl
        refine pure_ (i := 7) (N := some 18) (v := ?_) (a' := ?_) #[true, true, true, true, false, true, true, true, false, false, false, false, false, false, false, false, false, false, false, false, false, false] rfl rfl (any_of HT_.out (by kernel_rfl)) (fun _ _ _ h => h) (Or.inl ⟨by rfl, ?_⟩) ?_ ?_
        rotate_left
        · intro w'
          go_simp
          with_reducible rfl
        rotate_left
        · simp only [Act.put, List.setIfInBounds_toArray, List.set_cons_zero, List.set_cons_succ, i64_w, i32_w]
          rfl
        refine pure_ (i := 8) (N := some 19) (v := ?_) (a' := ?_) #[true, true, true, true, false, true, true, true, true, false, false, false, false, false, false, false, false, false, false, false, false, false] rfl rfl (any_of HT_.out (by kernel_rfl)) (fun _ _ _ h => h) (Or.inl ⟨by rfl, ?_⟩) ?_ ?_
        rotate_left
        · intro w'
          go_simp
          with_reducible rfl
        rotate_left
        · simp only [Act.put, List.setIfInBounds_toArray, List.set_cons_zero, List.set_cons_succ, i64_w, i32_w]
          rfl
        refine pure_ (i := 9) (N := some 20) (v := ?_) (a' := ?_) #[true, true, true, true, false, true, true, true, true, true, false, false, false, false, false, false, false, false, false, false, false, false] rfl rfl (any_of HT_.out (by kernel_rfl)) (fun _ _ _ h => h) (Or.inl ⟨by rfl, ?_⟩) ?_ ?_
        rotate_left
        · intro w'
          go_simp
          with_reducible rfl
        rotate_left
        · simp only [Act.put, List.setIfInBounds_toArray, List.set_cons_zero, List.set_cons_succ, i64_w, i32_w]
          rfl
        refine pure_ (i := 12) (N := some 23) (v := ?_) (a' := ?_) #[true, true, true, true, false, true, true, true, true, true, false, false, true, false, false, false, false, false, false, false, false, false] rfl rfl (any_of HT_.out (by kernel_rfl)) (fun _ _ _ h => h) (Or.inl ⟨by rfl, ?_⟩) ?_ ?_
        rotate_left
        · intro w'
          go_simp
          with_reducible rfl
        rotate_left
        · simp only [Act.put, List.setIfInBounds_toArray, List.set_cons_zero, List.set_cons_succ, i64_w, i32_w]
          rfl
        refine pure_ (i := 13) (N := some 24) (v := ?_) (a' := ?_) #[true, true, true, true, false, true, true, true, true, true, false, false, true, true, false, false, false, false, false, false, false, false] rfl rfl (any_of HT_.out (by kernel_rfl)) (fun _ _ _ h => h) (Or.inl ⟨by rfl, ?_⟩) ?_ ?_
        rotate_left
        · intro w'
          go_simp
          with_reducible rfl
        rotate_left
        · simp only [Act.put, List.setIfInBounds_toArray, List.set_cons_zero, List.set_cons_succ, i64_w, i32_w]
          rfl
        refine pure_ (i := 14) (N := some 25) (v := ?_) (a' := ?_) #[true, true, true, true, false, true, true, true, true, true, false, false, true, true, true, false, false, false, false, false, false, false] rfl rfl (any_of HT_.out (by kernel_rfl)) (fun _ _ _ h => h) (Or.inl ⟨by rfl, ?_⟩) ?_ ?_
        rotate_left
        · intro w'
          go_simp
          with_reducible rfl
        rotate_left
        · simp only [Act.put, List.setIfInBounds_toArray, List.set_cons_zero, List.set_cons_succ, i64_w, i32_w]
          rfl
        refine pure_ (i := 15) (N := some 26) (v := ?_) (a' := ?_) #[true, true, true, true, false, true, true, true, true, true, false, false, true, true, true, true, false, false, false, false, false, false] rfl rfl (any_of HT_.out (by kernel_rfl)) (fun _ _ _ h => h) (Or.inl ⟨by rfl, ?_⟩) ?_ ?_
        rotate_left
        · intro w'
          go_simp
          with_reducible rfl
        rotate_left
        · simp only [Act.put, List.setIfInBounds_toArray, List.set_cons_zero, List.set_cons_succ, i64_w, i32_w]
          rfl
        refine pure_ (i := 16) (N := some 27) (v := ?_) (a' := ?_) #[true, true, true, true, false, true, true, true, true, true, false, false, true, true, true, true, true, false, false, false, false, false] rfl rfl (any_of HT_.out (by kernel_rfl)) (fun _ _ _ h => h) (Or.inl ⟨by rfl, ?_⟩) ?_ ?_
        rotate_left
        · intro w'
          go_simp
          with_reducible rfl
        rotate_left
        · simp only [Act.put, List.setIfInBounds_toArray, List.set_cons_zero, List.set_cons_succ, i64_w, i32_w]
          rfl
        refine take_ (i := 4) (N := some 15) (v := ?_) (a' := ?_) #[true, true, true, true, true, true, true, true, true, true, false, false, true, true, true, true, true, false, false, false, false, false] rfl rfl (take_ofW HT_.out HW_.out (by kernel_rfl)) (fun _ _ _ h => h) (Or.inl ⟨by rfl, ?_⟩) hHeld ?_ ?_
        rotate_left
        · rintro w' ⟨s0, s1, s2, s3, s4, s5, s6, s7, s8, s9, s10, s11, s12, s13, s14, s15, s16, s17, s18, s19, s20, s21, s22, s23⟩
          go_simp
          with_reducible rfl
        rotate_left
        · simp only [Act.put, List.setIfInBounds_toArray, List.set_cons_zero, List.set_cons_succ, i64_w, i32_w]
          rfl
        refine take_ (i := 10) (N := some 21) (v := ?_) (a' := ?_) #[true, true, true, true, true, true, true, true, true, true, true, false, true, true, true, true, true, false, false, false, false, false] rfl rfl (take_ofW HT_.out HW_.out (by kernel_rfl)) (fun _ _ _ h => h) (Or.inl ⟨by rfl, ?_⟩) hHeld ?_ ?_
        rotate_left
        · rintro w' ⟨s0, s1, s2, s3, s4, s5, s6, s7, s8, s9, s10, s11, s12, s13, s14, s15, s16, s17, s18, s19, s20, s21, s22, s23⟩
          go_simp
          with_reducible rfl
        rotate_left
        · simp only [Act.put, List.setIfInBounds_toArray, List.set_cons_zero, List.set_cons_succ, i64_w, i32_w]
          rfl
        refine take_ (i := 17) (N := some 28) (v := ?_) (a' := ?_) #[true, true, true, true, true, true, true, true, true, true, true, false, true, true, true, true, true, true, false, false, false, false] rfl rfl (take_ofW HT_.out HW_.out (by kernel_rfl)) (fun _ _ _ h => h) (Or.inl ⟨by rfl, ?_⟩) hHeld ?_ ?_
        rotate_left
        · rintro w' ⟨s0, s1, s2, s3, s4, s5, s6, s7, s8, s9, s10, s11, s12, s13, s14, s15, s16, s17, s18, s19, s20, s21, s22, s23⟩
          go_simp
          with_reducible rfl
        rotate_left
        · simp only [Act.put, List.setIfInBounds_toArray, List.set_cons_zero, List.set_cons_succ, i64_w, i32_w]
          rfl
        refine one_ (i := 11) (N := some 22) #[true, true, true, true, true, true, true, true, true, true, true, true, true, true, true, true, true, true, false, false, false, false] rfl rfl (one_of HT_.out (by kernel_rfl)) (by decide) (fun K hK => ?_)
        refine goes_ Try.func71 (by kernel_rfl) rfl #[.slice (some ad382) l0.length c0, .string ((rd_T39 l0 t381).f6)] (by rfl) rfl rfl mxp ?_
        with_reducible refine (ih k (by omega) _ _ l0 ((rd_T39 l0 t381).f6) t384 _ ?side1 ?side2 A8.out).mono ?_
        (case side1 => exact cx (Kd.C_below HR0.out HB.out))
        (case side2 => exact HC0.out)
        rintro e w13 ⟨rfl, hb⟩
        refine ⟨_, rfl, ?_⟩
        have n0_ := bs HB hb
        clear HB
        have HB := n0_
        clear n0_
        (try clear hb)
        (try clear hb2)
        (try clear hk)
        (try clear hi)
        refine hK.out _ _ ⟨((HB.out.cell (World.block_lt_of_cell? w _ hw382_0)).trans hw382_0), ((HB.out.cell (World.block_lt_of_cell? w _ hw382_1)).trans hw382_1), ((HB.out.cell (World.block_lt_of_cell? w _ hw382_2)).trans hw382_2), ((HB.out.cell (World.block_lt_of_cell? w _ hw382_3)).trans hw382_3), ((HB.out.cell (World.block_lt_of_cell? w _ hw382_4)).trans hw382_4), ((HB.out.cell (World.block_lt_of_cell? w _ hw382_5)).trans hw382_5), ((HB.out.cell (World.block_lt_of_cell? w _ hw382_6)).trans hw382_6), ((HB.out.cell (World.block_lt_of_cell? w _ hw382_7)).trans hw382_7), ((HB.out.cell (World.block_lt_of_cell? w _ hw383_0)).trans hw383_0), ((HB.out.cell (World.block_lt_of_cell? w _ hw383_1)).trans hw383_1), ((HB.out.cell (World.block_lt_of_cell? w _ hw383_2)).trans hw383_2), ((HB.out.cell (World.block_lt_of_cell? w _ hw383_3)).trans hw383_3), ((HB.out.cell (World.block_lt_of_cell? w _ hw383_4)).trans hw383_4), ((HB.out.cell (World.block_lt_of_cell? w _ hw383_5)).trans hw383_5), ((HB.out.cell (World.block_lt_of_cell? w _ hw383_6)).trans hw383_6), ((HB.out.cell (World.block_lt_of_cell? w _ hw383_7)).trans hw383_7), ((HB.out.cell (World.block_lt_of_cell? w _ hw385_0)).trans hw385_0), ((HB.out.cell (World.block_lt_of_cell? w _ hw385_1)).trans hw385_1), ((HB.out.cell (World.block_lt_of_cell? w _ hw385_2)).trans hw385_2), ((HB.out.cell (World.block_lt_of_cell? w _ hw385_3)).trans hw385_3), ((HB.out.cell (World.block_lt_of_cell? w _ hw385_4)).trans hw385_4), ((HB.out.cell (World.block_lt_of_cell? w _ hw385_5)).trans hw385_5), ((HB.out.cell (World.block_lt_of_cell? w _ hw385_6)).trans hw385_6), ((HB.out.cell (World.block_lt_of_cell? w _ hw385_7)).trans hw385_7)⟩ (fun hHeld => ?_)
        clear hK K
        refine norm_ (a' := ?_) ?_ ?_
        rotate_left
        · show Act.put _ (some 22) _ = _
          simp only [Act.put, List.setIfInBounds_toArray, List.set_cons_zero, List.set_cons_succ, i64_w, i32_w]
          rfl
        refine one_ (i := 18) (N := some 29) #[true, true, true, true, true, true, true, true, true, true, true, true, true, true, true, true, true, true, true, false, false, false] rfl rfl (one_of HT_.out (by kernel_rfl)) (by decide) (fun K hK => ?_)
        refine goes_ Try.func71 (by kernel_rfl) rfl #[.slice (some ad382) l0.length c0, .string ((rd_T39 l0 t381).f7)] (by rfl) rfl rfl mxp ?_
        with_reducible refine (ih k (by omega) _ _ l0 ((rd_T39 l0 t381).f7) t386 _ ?side1 ?side2 A9.out).mono ?_
        (case side1 => exact cx (Kd.C_below HR0.out HB.out))
        (case side2 => exact HC0.out)
        rintro e w14 ⟨rfl, hb⟩
        refine ⟨_, rfl, ?_⟩
        have n0_ := bs HB hb
        clear HB
        have HB := n0_
        clear n0_
        (try clear hb)
        (try clear hb2)
        (try clear hk)
        (try clear hi)
        refine hK.out _ _ ⟨((HB.out.cell (World.block_lt_of_cell? w _ hw382_0)).trans hw382_0), ((HB.out.cell (World.block_lt_of_cell? w _ hw382_1)).trans hw382_1), ((HB.out.cell (World.block_lt_of_cell? w _ hw382_2)).trans hw382_2), ((HB.out.cell (World.block_lt_of_cell? w _ hw382_3)).trans hw382_3), ((HB.out.cell (World.block_lt_of_cell? w _ hw382_4)).trans hw382_4), ((HB.out.cell (World.block_lt_of_cell? w _ hw382_5)).trans hw382_5), ((HB.out.cell (World.block_lt_of_cell? w _ hw382_6)).trans hw382_6), ((HB.out.cell (World.block_lt_of_cell? w _ hw382_7)).trans hw382_7), ((HB.out.cell (World.block_lt_of_cell? w _ hw383_0)).trans hw383_0), ((HB.out.cell (World.block_lt_of_cell? w _ hw383_1)).trans hw383_1), ((HB.out.cell (World.block_lt_of_cell? w _ hw383_2)).trans hw383_2), ((HB.out.cell (World.block_lt_of_cell? w _ hw383_3)).trans hw383_3), ((HB.out.cell (World.block_lt_of_cell? w _ hw383_4)).trans hw383_4), ((HB.out.cell (World.block_lt_of_cell? w _ hw383_5)).trans hw383_5), ((HB.out.cell (World.block_lt_of_cell? w _ hw383_6)).trans hw383_6), ((HB.out.cell (World.block_lt_of_cell? w _ hw383_7)).trans hw383_7), ((HB.out.cell (World.block_lt_of_cell? w _ hw385_0)).trans hw385_0), ((HB.out.cell (World.block_lt_of_cell? w _ hw385_1)).trans hw385_1), ((HB.out.cell (World.block_lt_of_cell? w _ hw385_2)).trans hw385_2), ((HB.out.cell (World.block_lt_of_cell? w _ hw385_3)).trans hw385_3), ((HB.out.cell (World.block_lt_of_cell? w _ hw385_4)).trans hw385_4), ((HB.out.cell (World.block_lt_of_cell? w _ hw385_5)).trans hw385_5), ((HB.out.cell (World.block_lt_of_cell? w _ hw385_6)).trans hw385_6), ((HB.out.cell (World.block_lt_of_cell? w _ hw385_7)).trans hw385_7)⟩ (fun hHeld => ?_)
        clear hK K
        refine norm_ (a' := ?_) ?_ ?_
        rotate_left
        · show Act.put _ (some 29) _ = _
          simp only [Act.put, List.setIfInBounds_toArray, List.set_cons_zero, List.set_cons_succ, i64_w, i32_w]
          rfl
        refine pure_ (i := 19) (N := some 30) (v := ?_) (a' := ?_) #[true, true, true, true, true, true, true, true, true, true, true, true, true, true, true, true, true, true, true, true, false, false] rfl rfl (any_of HT_.out (by kernel_rfl)) (fun _ _ _ h => h) (Or.inl ⟨by rfl, ?_⟩) ?_ ?_
        rotate_left
        · intro w'
          go_simp
          with_reducible rfl
        rotate_left
        · simp only [Act.put, List.setIfInBounds_toArray, List.set_cons_zero, List.set_cons_succ, i64_w, i32_w]
          rfl
        refine pure_ (i := 20) (N := some 31) (v := ?_) (a' := ?_) #[true, true, true, true, true, true, true, true, true, true, true, true, true, true, true, true, true, true, true, true, true, false] rfl rfl (any_of HT_.out (by kernel_rfl)) (fun _ _ _ h => h) (Or.inl ⟨by rfl, ?_⟩) ?_ ?_
        rotate_left
        · intro w'
          go_simp
          with_reducible rfl
        rotate_left
        · simp only [Act.put, List.setIfInBounds_toArray, List.set_cons_zero, List.set_cons_succ, i64_w, i32_w]
          rfl
        refine pure_ (i := 21) (N := some 4) (v := ?_) (a' := ?_) #[true, true, true, true, true, true, true, true, true, true, true, true, true, true, true, true, true, true, true, true, true, true] rfl rfl (any_of HT_.out (by kernel_rfl)) (fun _ _ _ h => h) (Or.inl ⟨by rfl, ?_⟩) ?_ ?_
        rotate_left
        · intro w'
          go_simp
          with_reducible rfl
        rotate_left
        · simp only [Act.put, List.setIfInBounds_toArray, List.set_cons_zero, List.set_cons_succ, i64_w, i32_w]
          rfl
        refine done_ (done_of HT_.out (by kernel_rfl)) ?_
        try go_wp2
        go_ret
        exact ⟨by first | rfl | (simp [errW_none, errW_some] <;> rfl) | (simp only [← hji10]; first | rfl | (simp [errW_none, errW_some] <;> rfl)) | (simp [*, errW_none, errW_some] <;> rfl), bw HB.out⟩
      · rw [if_neg c7] at H
        exact absurd H (by simp)
    · rw [if_neg c6] at H
      exact absurd H (by simp)

end Go.Proofs.Ytdkologncoofdaa.P
-- Px45
namespace Go.Proofs.Ytdkologncoofdaa.P
open Go.RowKit Go.Proofs.YtdkologncoofdaaW.PrintWords Go.Proofs.YtdkologncoofdaaW.PrintLast Go.Proofs.YtdkologncoofdaaW.PrintMore
attribute [local go_sem] max2_int min2_int max_two min_two max_three min_three max_four min_four   -- for this text's walks alone
set_option linter.unusedVariables false
set_option linter.unusedSimpArgs false

/-! ### impl_RecBegin: function 27 -/
def impl_RecBegin.f (k : Nat) (l0 : List (S39)) : Option (ByteArray × Int × Int) := (impl_RecOk.f k l0).bind fun t434 => (if t434 = true then (if 0 < (l0.length : Int) then ((impl_bound.f k l0 ((rd_T39 l0 0).f0)).bind fun t437 => (some ((rd_T39 l0 0).f0, 0, t437))) else (none)) else (some ((⟨#[]⟩ : ByteArray), 0, 0)))
theorem impl_RecBegin.mono : ∀ a0 k, LeO (impl_RecBegin.f k a0) (impl_RecBegin.f (k + 1) a0) := by
  intro a0 k
  unfold impl_RecBegin.f
  repeat' first
      | (with_reducible exact impl_RecOk.mono _ _)
      | (with_reducible exact impl_bound.mono _ _ _)
      | (with_reducible exact LeO.refl _)
      | (with_reducible exact LeO.none _)
      | (with_reducible refine LeO.ite ?_ ?_)
      | (with_reducible refine LeO.bind ?_ (fun _ => ?_))
      | exact impl_RecOk.mono _ _
      | exact impl_bound.mono _ _ _
      | exact LeO.none _
      | refine LeO.ite ?_ ?_
      | refine LeO.bind ?_ (fun _ => ?_)
def impl_RecBegin.T3 : Bool × List (List Nat × List Nat) := (true, [([], []), ([0], [0]), ([1], [1]), ([2], [2]), ([], []), ([], []), ([5], [5]), ([6], [6]), ([7], [7]), ([4, 8], [4, 8]), ([3, 9], [3, 9]), ([10, 9, 0, 1, 2, 3, 4, 5, 6, 7, 8, 9, 10], [10])])
def impl_RecBegin.B3 : List Nat := [0, 1, 3, 7, 0, 0, 32, 96, 224, 496, 1023, 2047]
theorem impl_RecBegin.tab3 : rtab .any (opsOf Try.f27 3) = impl_RecBegin.T3 := by kernel_rfl
theorem impl_RecBegin.bits3 : waitsOk impl_RecBegin.T3.2 impl_RecBegin.B3 = true := by kernel_rfl
set_option maxHeartbeats 8000000 in
set_option maxRecDepth 100000 in
theorem impl_RecBegin.calls (k : Nat) (A0 : Option Addr) (c0 : Nat) (l0 : List (S39)) (r1 : ByteArray) (r2 : Int) (r3 : Int) (w : World) (hr0 : Kd.C k39 w A0 l0.length l0) (hc0 : l0.length ≤ c0) (h : impl_RecBegin.f k l0 = some (r1, r2, r3)) :
    Calls Try.prog 27 #[.slice A0 l0.length c0] w fun e w' => e = .returned (.agg #[.string r1, .int .i64 r2, .int .i64 r3]) ∧ Below w.heap.size w w' := by
  have hu31 := Try.underlying31
  have HR0 := Aside0.mk hr0
  have HC0 := Aside0.mk hc0
  clear hr0 hc0
  have HB := Aside0.mk (Below.refl w.heap.size w)
  have H : ((impl_RecOk.f k l0).bind fun t434 => (if t434 = true then (if 0 < (l0.length : Int) then ((impl_bound.f k l0 ((rd_T39 l0 0).f0)).bind fun t437 => (some ((rd_T39 l0 0).f0, 0, t437))) else (none)) else (some ((⟨#[]⟩ : ByteArray), 0, 0)))) = some (r1, r2, r3) := h
  clear h
  replace H := Option.bind_eq_some_iff.mp H
  obtain ⟨t434, A20, H⟩ := H
  replace H : (if t434 = true then (if 0 < (l0.length : Int) then ((impl_bound.f k l0 ((rd_T39 l0 0).f0)).bind fun t437 => (some ((rd_T39 l0 0).f0, 0, t437))) else (none)) else (some ((⟨#[]⟩ : ByteArray), 0, 0))) = some (r1, r2, r3) := H
  have A2 := Aside0.mk A20
  clear A20
  by_cases c3 : t434 = true
  · subst c3
    have H1 : (if 0 < (l0.length : Int) then ((impl_bound.f k l0 ((rd_T39 l0 0).f0)).bind fun t437 => (some ((rd_T39 l0 0).f0, 0, t437))) else (none)) = some (r1, r2, r3) := by rw [if_pos rfl] at H; exact H
    clear H
    have H := H1
    clear H1
    by_cases c4 : 0 < (l0.length : Int)
    · rw [if_pos c4] at H
      have c4b0 : decide (0 < (l0.length : Int)) = true := decide_eq_true c4
      have c4b1 : decide (0 < l0.length) = true := decide_eq_true (by omega)
      clear c4
      replace H := Option.bind_eq_some_iff.mp H
      obtain ⟨t437, A50, H⟩ := H
      replace H : (some ((rd_T39 l0 0).f0, 0, t437)) = some (r1, r2, r3) := H
      have A5 := Aside0.mk A50
      clear A50
      simp only [Option.some.injEq, Prod.mk.injEq] at H
      obtain ⟨rfl, rfl, rfl⟩ := H
      go_enter Try.func27, Try.ntmps27
      try go_wp2_with (first | ((with_reducible refine gate_dst (N := 2) rfl ?_); refine box_event ?hg (N := 2) ?hd (cs := #[.string (⟨#[]⟩ : ByteArray), .int .i64 0, .int .i64 0]) (t := 31) ?hr ?_; (case hd => rfl); (case hg => rfl); (case hr => first | (go_simp; done) | (go_simp; rfl)); intro gb433 hg w6 hbox hb; have n0_ := bs HB hb; have n1_ := Aside0.mk (hbox); have n2_ := Aside0.mk ((by rw [hg]; exact (below_size (bw HB.out)) : w.heap.size ≤ gb433)); have n3_ := Aside0.mk ((by rw [hg]; exact (below_size (bw HB.out)) : w.heap.size ≤ gb433)); clear HB; have HB := n0_; have BK433 := n1_; have GW433 := n2_; have GE433 := n3_; clear n0_ n1_ n2_ n3_; clear hb hbox hg) | ((with_reducible refine gate_callee (f := 36) rfl ?_); refine goesL_ (some 4) rfl rfl Try.func36 (by kernel_rfl) rfl #[.slice A0 l0.length c0] rfl mxp ?_; (with_reducible refine (impl_RecOk.calls k _ _ l0 true _ ?side1 ?side2 A2.out).mono ?_); (case side1 => exact cx (Kd.C_below HR0.out HB.out)); (case side2 => exact HC0.out); rintro e w7 ⟨rfl, hb⟩; refine ⟨_, rfl, ?_⟩; replace BK433 := up BK433 hb; replace HB := bs HB hb; (try clear hb); (try clear hb2); (try clear hk); (try clear hi)))
      have n0_ := Aside0.mk (blk_drew BK433.out)
      have n1_ := Aside0.mk (below_drew1 HB.out)
      clear BK433
      clear HB
      have BK433 := n0_
      have HB := n1_
      clear n0_ n1_
      have p435 : 0 ≤ (0 : Int) := (by omega)
      have q435 : 0 < (l0.length : Int) := of_decide_eq_true (by first | (with_reducible assumption) | assumption)
      obtain ⟨ad435, e435, hx435_0, hx435_1, hx435_2, hx435_3, hx435_4, hx435_5, hx435_6, hx435_7⟩ := at_T39 HR0.out 0 p435 q435
      have hw435_7 := hx435_7
      (try rw [show ((0 : Int)).toNat = 0 from rfl] at hw435_7)
      (try rw [show 0 * 8 = 0 from rfl] at hw435_7)
      (try rw [Addr.add_zero'] at hw435_7)
      have hw435_6 := hx435_6
      (try rw [show ((0 : Int)).toNat = 0 from rfl] at hw435_6)
      (try rw [show 0 * 8 = 0 from rfl] at hw435_6)
      (try rw [Addr.add_zero'] at hw435_6)
      have hw435_5 := hx435_5
      (try rw [show ((0 : Int)).toNat = 0 from rfl] at hw435_5)
      (try rw [show 0 * 8 = 0 from rfl] at hw435_5)
      (try rw [Addr.add_zero'] at hw435_5)
      have hw435_4 := hx435_4
      (try rw [show ((0 : Int)).toNat = 0 from rfl] at hw435_4)
      (try rw [show 0 * 8 = 0 from rfl] at hw435_4)
      (try rw [Addr.add_zero'] at hw435_4)
      have hw435_3 := hx435_3
      (try rw [show ((0 : Int)).toNat = 0 from rfl] at hw435_3)
      (try rw [show 0 * 8 = 0 from rfl] at hw435_3)
      (try rw [Addr.add_zero'] at hw435_3)
      have hw435_2 := hx435_2
      (try rw [show ((0 : Int)).toNat = 0 from rfl] at hw435_2)
      (try rw [show 0 * 8 = 0 from rfl] at hw435_2)
      (try rw [Addr.add_zero'] at hw435_2)
      have hw435_1 := hx435_1
      (try rw [show ((0 : Int)).toNat = 0 from rfl] at hw435_1)
      (try rw [show 0 * 8 = 0 from rfl] at hw435_1)
      (try rw [Addr.add_zero'] at hw435_1)
      have hw435_0 := hx435_0
      (try rw [show ((0 : Int)).toNat = 0 from rfl] at hw435_0)
      (try rw [show 0 * 8 = 0 from rfl] at hw435_0)
      (try rw [Addr.add_zero'] at hw435_0)
      cases e435
      have qi435 : (0 < l0.length) = True := eq_true (by omega)
      (try rw [show ((0 : Int)).toNat = 0 from rfl] at hx435_0)
      (try rw [show 0 * 8 = 0 from rfl] at hx435_0)
      (try rw [Addr.add_zero'] at hx435_0)
      (try rw [show ((0 : Int)).toNat = 0 from rfl] at hx435_1)
      (try rw [show 0 * 8 = 0 from rfl] at hx435_1)
      (try rw [Addr.add_zero'] at hx435_1)
      (try rw [show ((0 : Int)).toNat = 0 from rfl] at hx435_2)
      (try rw [show 0 * 8 = 0 from rfl] at hx435_2)
      (try rw [Addr.add_zero'] at hx435_2)
      (try rw [show ((0 : Int)).toNat = 0 from rfl] at hx435_3)
      (try rw [show 0 * 8 = 0 from rfl] at hx435_3)
      (try rw [Addr.add_zero'] at hx435_3)
      (try rw [show ((0 : Int)).toNat = 0 from rfl] at hx435_4)
      (try rw [show 0 * 8 = 0 from rfl] at hx435_4)
      (try rw [Addr.add_zero'] at hx435_4)
      (try rw [show ((0 : Int)).toNat = 0 from rfl] at hx435_5)
      (try rw [show 0 * 8 = 0 from rfl] at hx435_5)
      (try rw [Addr.add_zero'] at hx435_5)
      (try rw [show ((0 : Int)).toNat = 0 from rfl] at hx435_6)
      (try rw [show 0 * 8 = 0 from rfl] at hx435_6)
      (try rw [Addr.add_zero'] at hx435_6)
      (try rw [show ((0 : Int)).toNat = 0 from rfl] at hx435_7)
      (try rw [show 0 * 8 = 0 from rfl] at hx435_7)
      (try rw [Addr.add_zero'] at hx435_7)
      replace hx435_0 := bcl HB hx435_0
      replace hx435_1 := bcl HB hx435_1
      replace hx435_2 := bcl HB hx435_2
      replace hx435_3 := bcl HB hx435_3
      replace hx435_4 := bcl HB hx435_4
      replace hx435_5 := bcl HB hx435_5
      replace hx435_6 := bcl HB hx435_6
      replace hx435_7 := bcl HB hx435_7
      replace p435 := eq_true p435
      replace q435 := eq_true q435
      have p436 : 0 ≤ (0 : Int) := (by omega)
      have q436 : 0 < (l0.length : Int) := of_decide_eq_true (by first | (with_reducible assumption) | assumption)
      obtain ⟨ad436, e436, hx436_0, hx436_1, hx436_2, hx436_3, hx436_4, hx436_5, hx436_6, hx436_7⟩ := at_T39 HR0.out 0 p436 q436
      have hw436_7 := hx436_7
      (try rw [show ((0 : Int)).toNat = 0 from rfl] at hw436_7)
      (try rw [show 0 * 8 = 0 from rfl] at hw436_7)
      (try rw [Addr.add_zero'] at hw436_7)
      have hw436_6 := hx436_6
      (try rw [show ((0 : Int)).toNat = 0 from rfl] at hw436_6)
      (try rw [show 0 * 8 = 0 from rfl] at hw436_6)
      (try rw [Addr.add_zero'] at hw436_6)
      have hw436_5 := hx436_5
      (try rw [show ((0 : Int)).toNat = 0 from rfl] at hw436_5)
      (try rw [show 0 * 8 = 0 from rfl] at hw436_5)
      (try rw [Addr.add_zero'] at hw436_5)
      have hw436_4 := hx436_4
      (try rw [show ((0 : Int)).toNat = 0 from rfl] at hw436_4)
      (try rw [show 0 * 8 = 0 from rfl] at hw436_4)
      (try rw [Addr.add_zero'] at hw436_4)
      have hw436_3 := hx436_3
      (try rw [show ((0 : Int)).toNat = 0 from rfl] at hw436_3)
      (try rw [show 0 * 8 = 0 from rfl] at hw436_3)
      (try rw [Addr.add_zero'] at hw436_3)
      have hw436_2 := hx436_2
      (try rw [show ((0 : Int)).toNat = 0 from rfl] at hw436_2)
      (try rw [show 0 * 8 = 0 from rfl] at hw436_2)
      (try rw [Addr.add_zero'] at hw436_2)
      have hw436_1 := hx436_1
      (try rw [show ((0 : Int)).toNat = 0 from rfl] at hw436_1)
      (try rw [show 0 * 8 = 0 from rfl] at hw436_1)
      (try rw [Addr.add_zero'] at hw436_1)
      have hw436_0 := hx436_0
      (try rw [show ((0 : Int)).toNat = 0 from rfl] at hw436_0)
      (try rw [show 0 * 8 = 0 from rfl] at hw436_0)
      (try rw [Addr.add_zero'] at hw436_0)
      obtain rfl : ad435 = ad436 := (by injection e436)
      have qi436 : (0 < l0.length) = True := eq_true (by omega)
      (try rw [show ((0 : Int)).toNat = 0 from rfl] at hx436_0)
      (try rw [show 0 * 8 = 0 from rfl] at hx436_0)
      (try rw [Addr.add_zero'] at hx436_0)
      (try rw [show ((0 : Int)).toNat = 0 from rfl] at hx436_1)
      (try rw [show 0 * 8 = 0 from rfl] at hx436_1)
      (try rw [Addr.add_zero'] at hx436_1)
      (try rw [show ((0 : Int)).toNat = 0 from rfl] at hx436_2)
      (try rw [show 0 * 8 = 0 from rfl] at hx436_2)
      (try rw [Addr.add_zero'] at hx436_2)
      (try rw [show ((0 : Int)).toNat = 0 from rfl] at hx436_3)
      (try rw [show 0 * 8 = 0 from rfl] at hx436_3)
      (try rw [Addr.add_zero'] at hx436_3)
      (try rw [show ((0 : Int)).toNat = 0 from rfl] at hx436_4)
      (try rw [show 0 * 8 = 0 from rfl] at hx436_4)
      (try rw [Addr.add_zero'] at hx436_4)
      (try rw [show ((0 : Int)).toNat = 0 from rfl] at hx436_5)
      (try rw [show 0 * 8 = 0 from rfl] at hx436_5)
      (try rw [Addr.add_zero'] at hx436_5)
      (try rw [show ((0 : Int)).toNat = 0 from rfl] at hx436_6)
      (try rw [show 0 * 8 = 0 from rfl] at hx436_6)
      (try rw [Addr.add_zero'] at hx436_6)
      (try rw [show ((0 : Int)).toNat = 0 from rfl] at hx436_7)
      (try rw [show 0 * 8 = 0 from rfl] at hx436_7)
      (try rw [Addr.add_zero'] at hx436_7)
      replace hx436_0 := bcl HB hx436_0
      replace hx436_1 := bcl HB hx436_1
      replace hx436_2 := bcl HB hx436_2
      replace hx436_3 := bcl HB hx436_3
      replace hx436_4 := bcl HB hx436_4
      replace hx436_5 := bcl HB hx436_5
      replace hx436_6 := bcl HB hx436_6
      replace hx436_7 := bcl HB hx436_7
      replace p436 := eq_true p436
      replace q436 := eq_true q436
      refine start_ (n := 12) (S := fun w' => w'.cell? ad435 = some (.string ((rd_T39 l0 0).f0)) ∧ w'.cell? ⟨ad435.block, ad435.off + 1, none⟩ = some (.int .i64 ((rd_T39 l0 0).f1)) ∧ w'.cell? ⟨ad435.block, ad435.off + 2, none⟩ = some (.string ((rd_T39 l0 0).f2)) ∧ w'.cell? ⟨ad435.block, ad435.off + 3, none⟩ = some (.string ((rd_T39 l0 0).f3)) ∧ w'.cell? ⟨ad435.block, ad435.off + 4, none⟩ = some (.int .i64 ((rd_T39 l0 0).f4)) ∧ w'.cell? ⟨ad435.block, ad435.off + 5, none⟩ = some (.int .i64 ((rd_T39 l0 0).f5)) ∧ w'.cell? ⟨ad435.block, ad435.off + 6, none⟩ = some (.string ((rd_T39 l0 0).f6)) ∧ w'.cell? ⟨ad435.block, ad435.off + 7, none⟩ = some (.string ((rd_T39 l0 0).f7)) ∧ w'.cell? ad435 = some (.string ((rd_T39 l0 0).f0)) ∧ w'.cell? ⟨ad435.block, ad435.off + 1, none⟩ = some (.int .i64 ((rd_T39 l0 0).f1)) ∧ w'.cell? ⟨ad435.block, ad435.off + 2, none⟩ = some (.string ((rd_T39 l0 0).f2)) ∧ w'.cell? ⟨ad435.block, ad435.off + 3, none⟩ = some (.string ((rd_T39 l0 0).f3)) ∧ w'.cell? ⟨ad435.block, ad435.off + 4, none⟩ = some (.int .i64 ((rd_T39 l0 0).f4)) ∧ w'.cell? ⟨ad435.block, ad435.off + 5, none⟩ = some (.int .i64 ((rd_T39 l0 0).f5)) ∧ w'.cell? ⟨ad435.block, ad435.off + 6, none⟩ = some (.string ((rd_T39 l0 0).f6)) ∧ w'.cell? ⟨ad435.block, ad435.off + 7, none⟩ = some (.string ((rd_T39 l0 0).f7))) (ds := []) #[false, false, false, false, false, false, false, false, false, false, false, false] (by kernel_rfl) rfl rfl ⟨((HB.out.cell (World.block_lt_of_cell? w _ hw435_0)).trans hw435_0), ((HB.out.cell (World.block_lt_of_cell? w _ hw435_1)).trans hw435_1), ((HB.out.cell (World.block_lt_of_cell? w _ hw435_2)).trans hw435_2), ((HB.out.cell (World.block_lt_of_cell? w _ hw435_3)).trans hw435_3), ((HB.out.cell (World.block_lt_of_cell? w _ hw435_4)).trans hw435_4), ((HB.out.cell (World.block_lt_of_cell? w _ hw435_5)).trans hw435_5), ((HB.out.cell (World.block_lt_of_cell? w _ hw435_6)).trans hw435_6), ((HB.out.cell (World.block_lt_of_cell? w _ hw435_7)).trans hw435_7), ((HB.out.cell (World.block_lt_of_cell? w _ hw436_0)).trans hw436_0), ((HB.out.cell (World.block_lt_of_cell? w _ hw436_1)).trans hw436_1), ((HB.out.cell (World.block_lt_of_cell? w _ hw436_2)).trans hw436_2), ((HB.out.cell (World.block_lt_of_cell? w _ hw436_3)).trans hw436_3), ((HB.out.cell (World.block_lt_of_cell? w _ hw436_4)).trans hw436_4), ((HB.out.cell (World.block_lt_of_cell? w _ hw436_5)).trans hw436_5), ((HB.out.cell (World.block_lt_of_cell? w _ hw436_6)).trans hw436_6), ((HB.out.cell (World.block_lt_of_cell? w _ hw436_7)).trans hw436_7)⟩ (fun hHeld => ?_); refine with_tabW impl_RecBegin.tab3 impl_RecBegin.bits3 (fun HT_ HW_ => ?_)
      generalize w7.drew = w8 at BK433 HB hx435_0 hx435_1 hx435_2 hx435_3 hx435_4 hx435_5 hx435_6 hx435_7 hx436_0 hx436_1 hx436_2 hx436_3 hx436_4 hx436_5 hx436_6 hx436_7 hHeld ⊢
      refine pure_ (i := 0) (N := some 7) (v := ?_) (a' := ?_) #[true, false, false, false, false, false, false, false, false, false, false, false] rfl rfl (any_of HT_.out (by kernel_rfl)) (fun _ _ _ h => h) (Or.inl ⟨by rfl, ?_⟩) ?_ ?_
      rotate_left
      · intro w'
        go_simp
        with_reducible rfl
      rotate_left
      · simp only [Act.put, List.setIfInBounds_toArray, List.set_cons_zero, List.set_cons_succ, i64_w, i32_w]
        rfl
      refine pure_ (i := 1) (N := some 8) (v := ?_) (a' := ?_) #[true, true, false, false, false, false, false, false, false, false, false, false] rfl rfl (any_of HT_.out (by kernel_rfl)) (fun _ _ _ h => h) (Or.inl ⟨by rfl, ?_⟩) ?_ ?_
      rotate_left
      · intro w'
        go_simp
        with_reducible rfl
      rotate_left
      · simp only [Act.put, List.setIfInBounds_toArray, List.set_cons_zero, List.set_cons_succ, i64_w, i32_w]
        rfl
      refine pure_ (i := 2) (N := some 9) (v := ?_) (a' := ?_) #[true, true, true, false, false, false, false, false, false, false, false, false] rfl rfl (any_of HT_.out (by kernel_rfl)) (fun _ _ _ h => h) (Or.inl ⟨by rfl, ?_⟩) ?_ ?_
      rotate_left
      · intro w'
        go_simp
        with_reducible rfl
      rotate_left
      · simp only [Act.put, List.setIfInBounds_toArray, List.set_cons_zero, List.set_cons_succ, i64_w, i32_w]
        rfl
      refine pure_ (i := 4) (N := some 11) (v := ?_) (a' := ?_) #[true, true, true, false, true, false, false, false, false, false, false, false] rfl rfl (any_of HT_.out (by kernel_rfl)) (fun _ _ _ h => h) (Or.inl ⟨by rfl, ?_⟩) ?_ ?_
      rotate_left
      · intro w'
        go_simp
        with_reducible rfl
      rotate_left
      · simp only [Act.put, List.setIfInBounds_toArray, List.set_cons_zero, List.set_cons_succ, i64_w, i32_w]
        rfl
      refine pure_ (i := 5) (N := some 12) (v := ?_) (a' := ?_) #[true, true, true, false, true, true, false, false, false, false, false, false] rfl rfl (any_of HT_.out (by kernel_rfl)) (fun _ _ _ h => h) (Or.inl ⟨by rfl, ?_⟩) ?_ ?_
      rotate_left
      · intro w'
        go_simp
        with_reducible rfl
      rotate_left
      · simp only [Act.put, List.setIfInBounds_toArray, List.set_cons_zero, List.set_cons_succ, i64_w, i32_w]
        rfl
      refine pure_ (i := 6) (N := some 13) (v := ?_) (a' := ?_) #[true, true, true, false, true, true, true, false, false, false, false, false] rfl rfl (any_of HT_.out (by kernel_rfl)) (fun _ _ _ h => h) (Or.inl ⟨by rfl, ?_⟩) ?_ ?_
      rotate_left
      · intro w'
        go_simp
        with_reducible rfl
      rotate_left
      · simp only [Act.put, List.setIfInBounds_toArray, List.set_cons_zero, List.set_cons_succ, i64_w, i32_w]
        rfl
      refine pure_ (i := 7) (N := some 14) (v := ?_) (a' := ?_) #[true, true, true, false, true, true, true, true, false, false, false, false] rfl rfl (any_of HT_.out (by kernel_rfl)) (fun _ _ _ h => h) (Or.inl ⟨by rfl, ?_⟩) ?_ ?_
      rotate_left
      · intro w'
        go_simp
        with_reducible rfl
      rotate_left
      · simp only [Act.put, List.setIfInBounds_toArray, List.set_cons_zero, List.set_cons_succ, i64_w, i32_w]
        rfl
      refine take_ (i := 3) (N := some 10) (v := ?_) (a' := ?_) #[true, true, true, true, true, true, true, true, false, false, false, false] rfl rfl (take_ofW HT_.out HW_.out (by kernel_rfl)) (fun _ _ _ h => h) (Or.inl ⟨by rfl, ?_⟩) hHeld ?_ ?_
      rotate_left
      · rintro w' ⟨s0, s1, s2, s3, s4, s5, s6, s7, s8, s9, s10, s11, s12, s13, s14, s15⟩
        go_simp
        with_reducible rfl
      rotate_left
      · simp only [Act.put, List.setIfInBounds_toArray, List.set_cons_zero, List.set_cons_succ, i64_w, i32_w]
        rfl
      refine take_ (i := 8) (N := some 15) (v := ?_) (a' := ?_) #[true, true, true, true, true, true, true, true, true, false, false, false] rfl rfl (take_ofW HT_.out HW_.out (by kernel_rfl)) (fun _ _ _ h => h) (Or.inl ⟨by rfl, ?_⟩) hHeld ?_ ?_
      rotate_left
      · rintro w' ⟨s0, s1, s2, s3, s4, s5, s6, s7, s8, s9, s10, s11, s12, s13, s14, s15⟩
        go_simp
        with_reducible rfl
      rotate_left
      · simp only [Act.put, List.setIfInBounds_toArray, List.set_cons_zero, List.set_cons_succ, i64_w, i32_w]
        rfl
      refine one_ (i := 9) (N := some 16) #[true, true, true, true, true, true, true, true, true, true, false, false] rfl rfl (one_of HT_.out (by kernel_rfl)) (by decide) (fun K hK => ?_)
      refine goes_ Try.func71 (by kernel_rfl) rfl #[.slice (some ad435) l0.length c0, .string ((rd_T39 l0 0).f0)] (by rfl) rfl rfl mxp ?_
      with_reducible refine (impl_bound.calls k _ _ l0 ((rd_T39 l0 0).f0) t437 _ ?side1 ?side2 A5.out).mono ?_
      (case side1 => exact cx (Kd.C_below HR0.out HB.out))
      (case side2 => exact HC0.out)
      rintro e w9 ⟨rfl, hb⟩
      refine ⟨_, rfl, ?_⟩
      have n0_ := up BK433 hb
      have n1_ := bs HB hb
      clear BK433
      clear HB
      have BK433 := n0_
      have HB := n1_
      clear n0_ n1_
      (try clear hb)
      (try clear hb2)
      (try clear hk)
      (try clear hi)
      refine hK.out _ _ ⟨((HB.out.cell (World.block_lt_of_cell? w _ hw435_0)).trans hw435_0), ((HB.out.cell (World.block_lt_of_cell? w _ hw435_1)).trans hw435_1), ((HB.out.cell (World.block_lt_of_cell? w _ hw435_2)).trans hw435_2), ((HB.out.cell (World.block_lt_of_cell? w _ hw435_3)).trans hw435_3), ((HB.out.cell (World.block_lt_of_cell? w _ hw435_4)).trans hw435_4), ((HB.out.cell (World.block_lt_of_cell? w _ hw435_5)).trans hw435_5), ((HB.out.cell (World.block_lt_of_cell? w _ hw435_6)).trans hw435_6), ((HB.out.cell (World.block_lt_of_cell? w _ hw435_7)).trans hw435_7), ((HB.out.cell (World.block_lt_of_cell? w _ hw436_0)).trans hw436_0), ((HB.out.cell (World.block_lt_of_cell? w _ hw436_1)).trans hw436_1), ((HB.out.cell (World.block_lt_of_cell? w _ hw436_2)).trans hw436_2), ((HB.out.cell (World.block_lt_of_cell? w _ hw436_3)).trans hw436_3), ((HB.out.cell (World.block_lt_of_cell? w _ hw436_4)).trans hw436_4), ((HB.out.cell (World.block_lt_of_cell? w _ hw436_5)).trans hw436_5), ((HB.out.cell (World.block_lt_of_cell? w _ hw436_6)).trans hw436_6), ((HB.out.cell (World.block_lt_of_cell? w _ hw436_7)).trans hw436_7)⟩ (fun hHeld => ?_)
      clear hK K
      refine norm_ (a' := ?_) ?_ ?_
      rotate_left
      · show Act.put _ (some 16) _ = _
        simp only [Act.put, List.setIfInBounds_toArray, List.set_cons_zero, List.set_cons_succ, i64_w, i32_w]
        rfl
      refine pure_ (i := 10) (N := some 17) (v := ?_) (a' := ?_) #[true, true, true, true, true, true, true, true, true, true, true, false] rfl rfl (any_of HT_.out (by kernel_rfl)) (fun _ _ _ h => h) (Or.inl ⟨by rfl, ?_⟩) ?_ ?_
      rotate_left
      · intro w'
        go_simp
        with_reducible rfl
      rotate_left
      · simp only [Act.put, List.setIfInBounds_toArray, List.set_cons_zero, List.set_cons_succ, i64_w, i32_w]
        rfl
      refine one_ (i := 11) (N := none) #[true, true, true, true, true, true, true, true, true, true, true, true] rfl rfl (one_of HT_.out (by kernel_rfl)) (by decide) (fun K hK => ?_)
      have hs10 : w9.cell? ⟨gb433, 0, none⟩ = some (.string (⟨#[]⟩ : ByteArray)) := (blk_cell BK433.out 0).trans rfl
      have hfs10 := blk_frozen BK433.out 0
      have hs11 : w9.cell? ⟨gb433, 1, none⟩ = some (.int .i64 0) := (blk_cell BK433.out 1).trans rfl
      have hfs11 := blk_frozen BK433.out 1
      have hs12 : w9.cell? ⟨gb433, 2, none⟩ = some (.int .i64 0) := (blk_cell BK433.out 2).trans rfl
      have hfs12 := blk_frozen BK433.out 2
      refine skip_ (w1 := ?_) (by rfl) rfl ?_ ?_
      rotate_left
      · go_simp
        rfl
      refine hK.out _ _ ⟨((cell_far (p := ⟨gb433, _, none⟩) (by first | exact Nat.ne_of_lt (Nat.lt_of_lt_of_le (by have := World.block_lt_of_cell? _ _ hw435_0; first | rwa [add_block] at this | exact this) GW433.out) | (rw [add_block]; exact Nat.ne_of_lt (Nat.lt_of_lt_of_le (by have := World.block_lt_of_cell? _ _ hw435_0; first | rwa [add_block] at this | exact this) GW433.out)) | (show (Addr.add _ _).block ≠ _; rw [add_block]; exact Nat.ne_of_lt (Nat.lt_of_lt_of_le (by have := World.block_lt_of_cell? _ _ hw435_0; first | rwa [add_block] at this | exact this) GW433.out)) | (dsimp only; exact Nat.ne_of_lt (Nat.lt_of_lt_of_le (by have := World.block_lt_of_cell? _ _ hw435_0; first | rwa [add_block] at this | exact this) GW433.out))) _).trans (((cell_far (p := ⟨gb433, _, none⟩) (by first | exact Nat.ne_of_lt (Nat.lt_of_lt_of_le (by have := World.block_lt_of_cell? _ _ hw435_0; first | rwa [add_block] at this | exact this) GW433.out) | (rw [add_block]; exact Nat.ne_of_lt (Nat.lt_of_lt_of_le (by have := World.block_lt_of_cell? _ _ hw435_0; first | rwa [add_block] at this | exact this) GW433.out)) | (show (Addr.add _ _).block ≠ _; rw [add_block]; exact Nat.ne_of_lt (Nat.lt_of_lt_of_le (by have := World.block_lt_of_cell? _ _ hw435_0; first | rwa [add_block] at this | exact this) GW433.out)) | (dsimp only; exact Nat.ne_of_lt (Nat.lt_of_lt_of_le (by have := World.block_lt_of_cell? _ _ hw435_0; first | rwa [add_block] at this | exact this) GW433.out))) _).trans (((cell_far (p := ⟨gb433, _, none⟩) (by first | exact Nat.ne_of_lt (Nat.lt_of_lt_of_le (by have := World.block_lt_of_cell? _ _ hw435_0; first | rwa [add_block] at this | exact this) GW433.out) | (rw [add_block]; exact Nat.ne_of_lt (Nat.lt_of_lt_of_le (by have := World.block_lt_of_cell? _ _ hw435_0; first | rwa [add_block] at this | exact this) GW433.out)) | (show (Addr.add _ _).block ≠ _; rw [add_block]; exact Nat.ne_of_lt (Nat.lt_of_lt_of_le (by have := World.block_lt_of_cell? _ _ hw435_0; first | rwa [add_block] at this | exact this) GW433.out)) | (dsimp only; exact Nat.ne_of_lt (Nat.lt_of_lt_of_le (by have := World.block_lt_of_cell? _ _ hw435_0; first | rwa [add_block] at this | exact this) GW433.out))) _).trans (hHeld.1)))))), ((cell_far (p := ⟨gb433, _, none⟩) (by first | exact Nat.ne_of_lt (Nat.lt_of_lt_of_le (by have := World.block_lt_of_cell? _ _ hw435_1; first | rwa [add_block] at this | exact this) GW433.out) | (rw [add_block]; exact Nat.ne_of_lt (Nat.lt_of_lt_of_le (by have := World.block_lt_of_cell? _ _ hw435_1; first | rwa [add_block] at this | exact this) GW433.out)) | (show (Addr.add _ _).block ≠ _; rw [add_block]; exact Nat.ne_of_lt (Nat.lt_of_lt_of_le (by have := World.block_lt_of_cell? _ _ hw435_1; first | rwa [add_block] at this | exact this) GW433.out)) | (dsimp only; exact Nat.ne_of_lt (Nat.lt_of_lt_of_le (by have := World.block_lt_of_cell? _ _ hw435_1; first | rwa [add_block] at this | exact this) GW433.out))) _).trans (((cell_far (p := ⟨gb433, _, none⟩) (by first | exact Nat.ne_of_lt (Nat.lt_of_lt_of_le (by have := World.block_lt_of_cell? _ _ hw435_1; first | rwa [add_block] at this | exact this) GW433.out) | (rw [add_block]; exact Nat.ne_of_lt (Nat.lt_of_lt_of_le (by have := World.block_lt_of_cell? _ _ hw435_1; first | rwa [add_block] at this | exact this) GW433.out)) | (show (Addr.add _ _).block ≠ _; rw [add_block]; exact Nat.ne_of_lt (Nat.lt_of_lt_of_le (by have := World.block_lt_of_cell? _ _ hw435_1; first | rwa [add_block] at this | exact this) GW433.out)) | (dsimp only; exact Nat.ne_of_lt (Nat.lt_of_lt_of_le (by have := World.block_lt_of_cell? _ _ hw435_1; first | rwa [add_block] at this | exact this) GW433.out))) _).trans (((cell_far (p := ⟨gb433, _, none⟩) (by first | exact Nat.ne_of_lt (Nat.lt_of_lt_of_le (by have := World.block_lt_of_cell? _ _ hw435_1; first | rwa [add_block] at this | exact this) GW433.out) | (rw [add_block]; exact Nat.ne_of_lt (Nat.lt_of_lt_of_le (by have := World.block_lt_of_cell? _ _ hw435_1; first | rwa [add_block] at this | exact this) GW433.out)) | (show (Addr.add _ _).block ≠ _; rw [add_block]; exact Nat.ne_of_lt (Nat.lt_of_lt_of_le (by have := World.block_lt_of_cell? _ _ hw435_1; first | rwa [add_block] at this | exact this) GW433.out)) | (dsimp only; exact Nat.ne_of_lt (Nat.lt_of_lt_of_le (by have := World.block_lt_of_cell? _ _ hw435_1; first | rwa [add_block] at this | exact this) GW433.out))) _).trans (hHeld.2.1)))))), ((cell_far (p := ⟨gb433, _, none⟩) (by first | exact Nat.ne_of_lt (Nat.lt_of_lt_of_le (by have := World.block_lt_of_cell? _ _ hw435_2; first | rwa [add_block] at this | exact this) GW433.out) | (rw [add_block]; exact Nat.ne_of_lt (Nat.lt_of_lt_of_le (by have := World.block_lt_of_cell? _ _ hw435_2; first | rwa [add_block] at this | exact this) GW433.out)) | (show (Addr.add _ _).block ≠ _; rw [add_block]; exact Nat.ne_of_lt (Nat.lt_of_lt_of_le (by have := World.block_lt_of_cell? _ _ hw435_2; first | rwa [add_block] at this | exact this) GW433.out)) | (dsimp only; exact Nat.ne_of_lt (Nat.lt_of_lt_of_le (by have := World.block_lt_of_cell? _ _ hw435_2; first | rwa [add_block] at this | exact this) GW433.out))) _).trans (((cell_far (p := ⟨gb433, _, none⟩) (by first | exact Nat.ne_of_lt (Nat.lt_of_lt_of_le (by have := World.block_lt_of_cell? _ _ hw435_2; first | rwa [add_block] at this | exact this) GW433.out) | (rw [add_block]; exact Nat.ne_of_lt (Nat.lt_of_lt_of_le (by have := World.block_lt_of_cell? _ _ hw435_2; first | rwa [add_block] at this | exact this) GW433.out)) | (show (Addr.add _ _).block ≠ _; rw [add_block]; exact Nat.ne_of_lt (Nat.lt_of_lt_of_le (by have := World.block_lt_of_cell? _ _ hw435_2; first | rwa [add_block] at this | exact this) GW433.out)) | (dsimp only; exact Nat.ne_of_lt (Nat.lt_of_lt_of_le (by have := World.block_lt_of_cell? _ _ hw435_2; first | rwa [add_block] at this | exact this) GW433.out))) _).trans (((cell_far (p := ⟨gb433, _, none⟩) (by first | exact Nat.ne_of_lt (Nat.lt_of_lt_of_le (by have := World.block_lt_of_cell? _ _ hw435_2; first | rwa [add_block] at this | exact this) GW433.out) | (rw [add_block]; exact Nat.ne_of_lt (Nat.lt_of_lt_of_le (by have := World.block_lt_of_cell? _ _ hw435_2; first | rwa [add_block] at this | exact this) GW433.out)) | (show (Addr.add _ _).block ≠ _; rw [add_block]; exact Nat.ne_of_lt (Nat.lt_of_lt_of_le (by have := World.block_lt_of_cell? _ _ hw435_2; first | rwa [add_block] at this | exact this) GW433.out)) | (dsimp only; exact Nat.ne_of_lt (Nat.lt_of_lt_of_le (by have := World.block_lt_of_cell? _ _ hw435_2; first | rwa [add_block] at this | exact this) GW433.out))) _).trans (hHeld.2.2.1)))))), ((cell_far (p := ⟨gb433, _, none⟩) (by first | exact Nat.ne_of_lt (Nat.lt_of_lt_of_le (by have := World.block_lt_of_cell? _ _ hw435_3; first | rwa [add_block] at this | exact this) GW433.out) | (rw [add_block]; exact Nat.ne_of_lt (Nat.lt_of_lt_of_le (by have := World.block_lt_of_cell? _ _ hw435_3; first | rwa [add_block] at this | exact this) GW433.out)) | (show (Addr.add _ _).block ≠ _; rw [add_block]; exact Nat.ne_of_lt (Nat.lt_of_lt_of_le (by have := World.block_lt_of_cell? _ _ hw435_3; first | rwa [add_block] at this | exact this) GW433.out)) | (dsimp only; exact Nat.ne_of_lt (Nat.lt_of_lt_of_le (by have := World.block_lt_of_cell? _ _ hw435_3; first | rwa [add_block] at this | exact this) GW433.out))) _).trans (((cell_far (p := ⟨gb433, _, none⟩) (by first | exact Nat.ne_of_lt (Nat.lt_of_lt_of_le (by have := World.block_lt_of_cell? _ _ hw435_3; first | rwa [add_block] at this | exact this) GW433.out) | (rw [add_block]; exact Nat.ne_of_lt (Nat.lt_of_lt_of_le (by have := World.block_lt_of_cell? _ _ hw435_3; first | rwa [add_block] at this | exact this) GW433.out)) | (show (Addr.add _ _).block ≠ _; rw [add_block]; exact Nat.ne_of_lt (Nat.lt_of_lt_of_le (by have := World.block_lt_of_cell? _ _ hw435_3; first | rwa [add_block] at this | exact this) GW433.out)) | (dsimp only; exact Nat.ne_of_lt (Nat.lt_of_lt_of_le (by have := World.block_lt_of_cell? _ _ hw435_3; first | rwa [add_block] at this | exact this) GW433.out))) _).trans (((cell_far (p := ⟨gb433, _, none⟩) (by first | exact Nat.ne_of_lt (Nat.lt_of_lt_of_le (by have := World.block_lt_of_cell? _ _ hw435_3; first | rwa [add_block] at this | exact this) GW433.out) | (rw [add_block]; exact Nat.ne_of_lt (Nat.lt_of_lt_of_le (by have := World.block_lt_of_cell? _ _ hw435_3; first | rwa [add_block] at this | exact this) GW433.out)) | (show (Addr.add _ _).block ≠ _; rw [add_block]; exact Nat.ne_of_lt (Nat.lt_of_lt_of_le (by have := World.block_lt_of_cell? _ _ hw435_3; first | rwa [add_block] at this | exact this) GW433.out)) | (dsimp only; exact Nat.ne_of_lt (Nat.lt_of_lt_of_le (by have := World.block_lt_of_cell? _ _ hw435_3; first | rwa [add_block] at this | exact this) GW433.out))) _).trans (hHeld.2.2.2.1)))))), ((cell_far (p := ⟨gb433, _, none⟩) (by first | exact Nat.ne_of_lt (Nat.lt_of_lt_of_le (by have := World.block_lt_of_cell? _ _ hw435_4; first | rwa [add_block] at this | exact this) GW433.out) | (rw [add_block]; exact Nat.ne_of_lt (Nat.lt_of_lt_of_le (by have := World.block_lt_of_cell? _ _ hw435_4; first | rwa [add_block] at this | exact this) GW433.out)) | (show (Addr.add _ _).block ≠ _; rw [add_block]; exact Nat.ne_of_lt (Nat.lt_of_lt_of_le (by have := World.block_lt_of_cell? _ _ hw435_4; first | rwa [add_block] at this | exact this) GW433.out)) | (dsimp only; exact Nat.ne_of_lt (Nat.lt_of_lt_of_le (by have := World.block_lt_of_cell? _ _ hw435_4; first | rwa [add_block] at this | exact this) GW433.out))) _).trans (((cell_far (p := ⟨gb433, _, none⟩) (by first | exact Nat.ne_of_lt (Nat.lt_of_lt_of_le (by have := World.block_lt_of_cell? _ _ hw435_4; first | rwa [add_block] at this | exact this) GW433.out) | (rw [add_block]; exact Nat.ne_of_lt (Nat.lt_of_lt_of_le (by have := World.block_lt_of_cell? _ _ hw435_4; first | rwa [add_block] at this | exact this) GW433.out)) | (show (Addr.add _ _).block ≠ _; rw [add_block]; exact Nat.ne_of_lt (Nat.lt_of_lt_of_le (by have := World.block_lt_of_cell? _ _ hw435_4; first | rwa [add_block] at this | exact this) GW433.out)) | (dsimp only; exact Nat.ne_of_lt (Nat.lt_of_lt_of_le (by have := World.block_lt_of_cell? _ _ hw435_4; first | rwa [add_block] at this | exact this) GW433.out))) _).trans (((cell_far (p := ⟨gb433, _, none⟩) (by first | exact Nat.ne_of_lt (Nat.lt_of_lt_of_le (by have := World.block_lt_of_cell? _ _ hw435_4; first | rwa [add_block] at this | exact this) GW433.out) | (rw [add_block]; exact Nat.ne_of_lt (Nat.lt_of_lt_of_le (by have := World.block_lt_of_cell? _ _ hw435_4; first | rwa [add_block] at this | exact this) GW433.out)) | (show (Addr.add _ _).block ≠ _; rw [add_block]; exact Nat.ne_of_lt (Nat.lt_of_lt_of_le (by have := World.block_lt_of_cell? _ _ hw435_4; first | rwa [add_block] at this | exact this) GW433.out)) | (dsimp only; exact Nat.ne_of_lt (Nat.lt_of_lt_of_le (by have := World.block_lt_of_cell? _ _ hw435_4; first | rwa [add_block] at this | exact this) GW433.out))) _).trans (hHeld.2.2.2.2.1)))))), ((cell_far (p := ⟨gb433, _, none⟩) (by first | exact Nat.ne_of_lt (Nat.lt_of_lt_of_le (by have := World.block_lt_of_cell? _ _ hw435_5; first | rwa [add_block] at this | exact this) GW433.out) | (rw [add_block]; exact Nat.ne_of_lt (Nat.lt_of_lt_of_le (by have := World.block_lt_of_cell? _ _ hw435_5; first | rwa [add_block] at this | exact this) GW433.out)) | (show (Addr.add _ _).block ≠ _; rw [add_block]; exact Nat.ne_of_lt (Nat.lt_of_lt_of_le (by have := World.block_lt_of_cell? _ _ hw435_5; first | rwa [add_block] at this | exact this) GW433.out)) | (dsimp only; exact Nat.ne_of_lt (Nat.lt_of_lt_of_le (by have := World.block_lt_of_cell? _ _ hw435_5; first | rwa [add_block] at this | exact this) GW433.out))) _).trans (((cell_far (p := ⟨gb433, _, none⟩) (by first | exact Nat.ne_of_lt (Nat.lt_of_lt_of_le (by have := World.block_lt_of_cell? _ _ hw435_5; first | rwa [add_block] at this | exact this) GW433.out) | (rw [add_block]; exact Nat.ne_of_lt (Nat.lt_of_lt_of_le (by have := World.block_lt_of_cell? _ _ hw435_5; first | rwa [add_block] at this | exact this) GW433.out)) | (show (Addr.add _ _).block ≠ _; rw [add_block]; exact Nat.ne_of_lt (Nat.lt_of_lt_of_le (by have := World.block_lt_of_cell? _ _ hw435_5; first | rwa [add_block] at this | exact this) GW433.out)) | (dsimp only; exact Nat.ne_of_lt (Nat.lt_of_lt_of_le (by have := World.block_lt_of_cell? _ _ hw435_5; first | rwa [add_block] at this | exact this) GW433.out))) _).trans (((cell_far (p := ⟨gb433, _, none⟩) (by first | exact Nat.ne_of_lt (Nat.lt_of_lt_of_le (by have := World.block_lt_of_cell? _ _ hw435_5; first | rwa [add_block] at this | exact this) GW433.out) | (rw [add_block]; exact Nat.ne_of_lt (Nat.lt_of_lt_of_le (by have := World.block_lt_of_cell? _ _ hw435_5; first | rwa [add_block] at this | exact this) GW433.out)) | (show (Addr.add _ _).block ≠ _; rw [add_block]; exact Nat.ne_of_lt (Nat.lt_of_lt_of_le (by have := World.block_lt_of_cell? _ _ hw435_5; first | rwa [add_block] at this | exact this) GW433.out)) | (dsimp only; exact Nat.ne_of_lt (Nat.lt_of_lt_of_le (by have := World.block_lt_of_cell? _ _ hw435_5; first | rwa [add_block] at this | exact this) GW433.out))) _).trans (hHeld.2.2.2.2.2.1)))))), ((cell_far (p := ⟨gb433, _, none⟩) (by first | exact Nat.ne_of_lt (Nat.lt_of_lt_of_le (by have := World.block_lt_of_cell? _ _ hw435_6; first | rwa [add_block] at this | exact this) GW433.out) | (rw [add_block]; exact Nat.ne_of_lt (Nat.lt_of_lt_of_le (by have := World.block_lt_of_cell? _ _ hw435_6; first | rwa [add_block] at this | exact this) GW433.out)) | (show (Addr.add _ _).block ≠ _; rw [add_block]; exact Nat.ne_of_lt (Nat.lt_of_lt_of_le (by have := World.block_lt_of_cell? _ _ hw435_6; first | rwa [add_block] at this | exact this) GW433.out)) | (dsimp only; exact Nat.ne_of_lt (Nat.lt_of_lt_of_le (by have := World.block_lt_of_cell? _ _ hw435_6; first | rwa [add_block] at this | exact this) GW433.out))) _).trans (((cell_far (p := ⟨gb433, _, none⟩) (by first | exact Nat.ne_of_lt (Nat.lt_of_lt_of_le (by have := World.block_lt_of_cell? _ _ hw435_6; first | rwa [add_block] at this | exact this) GW433.out) | (rw [add_block]; exact Nat.ne_of_lt (Nat.lt_of_lt_of_le (by have := World.block_lt_of_cell? _ _ hw435_6; first | rwa [add_block] at this | exact this) GW433.out)) | (show (Addr.add _ _).block ≠ _; rw [add_block]; exact Nat.ne_of_lt (Nat.lt_of_lt_of_le (by have := World.block_lt_of_cell? _ _ hw435_6; first | rwa [add_block] at this | exact this) GW433.out)) | (dsimp only; exact Nat.ne_of_lt (Nat.lt_of_lt_of_le (by have := World.block_lt_of_cell? _ _ hw435_6; first | rwa [add_block] at this | exact this) GW433.out))) _).trans (((cell_far (p := ⟨gb433, _, none⟩) (by first | exact Nat.ne_of_lt (Nat.lt_of_lt_of_le (by have := World.block_lt_of_cell? _ _ hw435_6; first | rwa [add_block] at this | exact this) GW433.out) | (rw [add_block]; exact Nat.ne_of_lt (Nat.lt_of_lt_of_le (by have := World.block_lt_of_cell? _ _ hw435_6; first | rwa [add_block] at this | exact this) GW433.out)) | (show (Addr.add _ _).block ≠ _; rw [add_block]; exact Nat.ne_of_lt (Nat.lt_of_lt_of_le (by have := World.block_lt_of_cell? _ _ hw435_6; first | rwa [add_block] at this | exact this) GW433.out)) | (dsimp only; exact Nat.ne_of_lt (Nat.lt_of_lt_of_le (by have := World.block_lt_of_cell? _ _ hw435_6; first | rwa [add_block] at this | exact this) GW433.out))) _).trans (hHeld.2.2.2.2.2.2.1)))))), ((cell_far (p := ⟨gb433, _, none⟩) (by first | exact Nat.ne_of_lt (Nat.lt_of_lt_of_le (by have := World.block_lt_of_cell? _ _ hw435_7; first | rwa [add_block] at this | exact this) GW433.out) | (rw [add_block]; exact Nat.ne_of_lt (Nat.lt_of_lt_of_le (by have := World.block_lt_of_cell? _ _ hw435_7; first | rwa [add_block] at this | exact this) GW433.out)) | (show (Addr.add _ _).block ≠ _; rw [add_block]; exact Nat.ne_of_lt (Nat.lt_of_lt_of_le (by have := World.block_lt_of_cell? _ _ hw435_7; first | rwa [add_block] at this | exact this) GW433.out)) | (dsimp only; exact Nat.ne_of_lt (Nat.lt_of_lt_of_le (by have := World.block_lt_of_cell? _ _ hw435_7; first | rwa [add_block] at this | exact this) GW433.out))) _).trans (((cell_far (p := ⟨gb433, _, none⟩) (by first | exact Nat.ne_of_lt (Nat.lt_of_lt_of_le (by have := World.block_lt_of_cell? _ _ hw435_7; first | rwa [add_block] at this | exact this) GW433.out) | (rw [add_block]; exact Nat.ne_of_lt (Nat.lt_of_lt_of_le (by have := World.block_lt_of_cell? _ _ hw435_7; first | rwa [add_block] at this | exact this) GW433.out)) | (show (Addr.add _ _).block ≠ _; rw [add_block]; exact Nat.ne_of_lt (Nat.lt_of_lt_of_le (by have := World.block_lt_of_cell? _ _ hw435_7; first | rwa [add_block] at this | exact this) GW433.out)) | (dsimp only; exact Nat.ne_of_lt (Nat.lt_of_lt_of_le (by have := World.block_lt_of_cell? _ _ hw435_7; first | rwa [add_block] at this | exact this) GW433.out))) _).trans (((cell_far (p := ⟨gb433, _, none⟩) (by first | exact Nat.ne_of_lt (Nat.lt_of_lt_of_le (by have := World.block_lt_of_cell? _ _ hw435_7; first | rwa [add_block] at this | exact this) GW433.out) | (rw [add_block]; exact Nat.ne_of_lt (Nat.lt_of_lt_of_le (by have := World.block_lt_of_cell? _ _ hw435_7; first | rwa [add_block] at this | exact this) GW433.out)) | (show (Addr.add _ _).block ≠ _; rw [add_block]; exact Nat.ne_of_lt (Nat.lt_of_lt_of_le (by have := World.block_lt_of_cell? _ _ hw435_7; first | rwa [add_block] at this | exact this) GW433.out)) | (dsimp only; exact Nat.ne_of_lt (Nat.lt_of_lt_of_le (by have := World.block_lt_of_cell? _ _ hw435_7; first | rwa [add_block] at this | exact this) GW433.out))) _).trans (hHeld.2.2.2.2.2.2.2.1)))))), ((cell_far (p := ⟨gb433, _, none⟩) (by first | exact Nat.ne_of_lt (Nat.lt_of_lt_of_le (by have := World.block_lt_of_cell? _ _ hw436_0; first | rwa [add_block] at this | exact this) GW433.out) | (rw [add_block]; exact Nat.ne_of_lt (Nat.lt_of_lt_of_le (by have := World.block_lt_of_cell? _ _ hw436_0; first | rwa [add_block] at this | exact this) GW433.out)) | (show (Addr.add _ _).block ≠ _; rw [add_block]; exact Nat.ne_of_lt (Nat.lt_of_lt_of_le (by have := World.block_lt_of_cell? _ _ hw436_0; first | rwa [add_block] at this | exact this) GW433.out)) | (dsimp only; exact Nat.ne_of_lt (Nat.lt_of_lt_of_le (by have := World.block_lt_of_cell? _ _ hw436_0; first | rwa [add_block] at this | exact this) GW433.out))) _).trans (((cell_far (p := ⟨gb433, _, none⟩) (by first | exact Nat.ne_of_lt (Nat.lt_of_lt_of_le (by have := World.block_lt_of_cell? _ _ hw436_0; first | rwa [add_block] at this | exact this) GW433.out) | (rw [add_block]; exact Nat.ne_of_lt (Nat.lt_of_lt_of_le (by have := World.block_lt_of_cell? _ _ hw436_0; first | rwa [add_block] at this | exact this) GW433.out)) | (show (Addr.add _ _).block ≠ _; rw [add_block]; exact Nat.ne_of_lt (Nat.lt_of_lt_of_le (by have := World.block_lt_of_cell? _ _ hw436_0; first | rwa [add_block] at this | exact this) GW433.out)) | (dsimp only; exact Nat.ne_of_lt (Nat.lt_of_lt_of_le (by have := World.block_lt_of_cell? _ _ hw436_0; first | rwa [add_block] at this | exact this) GW433.out))) _).trans (((cell_far (p := ⟨gb433, _, none⟩) (by first | exact Nat.ne_of_lt (Nat.lt_of_lt_of_le (by have := World.block_lt_of_cell? _ _ hw436_0; first | rwa [add_block] at this | exact this) GW433.out) | (rw [add_block]; exact Nat.ne_of_lt (Nat.lt_of_lt_of_le (by have := World.block_lt_of_cell? _ _ hw436_0; first | rwa [add_block] at this | exact this) GW433.out)) | (show (Addr.add _ _).block ≠ _; rw [add_block]; exact Nat.ne_of_lt (Nat.lt_of_lt_of_le (by have := World.block_lt_of_cell? _ _ hw436_0; first | rwa [add_block] at this | exact this) GW433.out)) | (dsimp only; exact Nat.ne_of_lt (Nat.lt_of_lt_of_le (by have := World.block_lt_of_cell? _ _ hw436_0; first | rwa [add_block] at this | exact this) GW433.out))) _).trans (hHeld.2.2.2.2.2.2.2.2.1)))))), ((cell_far (p := ⟨gb433, _, none⟩) (by first | exact Nat.ne_of_lt (Nat.lt_of_lt_of_le (by have := World.block_lt_of_cell? _ _ hw436_1; first | rwa [add_block] at this | exact this) GW433.out) | (rw [add_block]; exact Nat.ne_of_lt (Nat.lt_of_lt_of_le (by have := World.block_lt_of_cell? _ _ hw436_1; first | rwa [add_block] at this | exact this) GW433.out)) | (show (Addr.add _ _).block ≠ _; rw [add_block]; exact Nat.ne_of_lt (Nat.lt_of_lt_of_le (by have := World.block_lt_of_cell? _ _ hw436_1; first | rwa [add_block] at this | exact this) GW433.out)) | (dsimp only; exact Nat.ne_of_lt (Nat.lt_of_lt_of_le (by have := World.block_lt_of_cell? _ _ hw436_1; first | rwa [add_block] at this | exact this) GW433.out))) _).trans (((cell_far (p := ⟨gb433, _, none⟩) (by first | exact Nat.ne_of_lt (Nat.lt_of_lt_of_le (by have := World.block_lt_of_cell? _ _ hw436_1; first | rwa [add_block] at this | exact this) GW433.out) | (rw [add_block]; exact Nat.ne_of_lt (Nat.lt_of_lt_of_le (by have := World.block_lt_of_cell? _ _ hw436_1; first | rwa [add_block] at this | exact this) GW433.out)) | (show (Addr.add _ _).block ≠ _; rw [add_block]; exact Nat.ne_of_lt (Nat.lt_of_lt_of_le (by have := World.block_lt_of_cell? _ _ hw436_1; first | rwa [add_block] at this | exact this) GW433.out)) | (dsimp only; exact Nat.ne_of_lt (Nat.lt_of_lt_of_le (by have := World.block_lt_of_cell? _ _ hw436_1; first | rwa [add_block] at this | exact this) GW433.out))) _).trans (((cell_far (p := ⟨gb433, _, none⟩) (by first | exact Nat.ne_of_lt (Nat.lt_of_lt_of_le (by have := World.block_lt_of_cell? _ _ hw436_1; first | rwa [add_block] at this | exact this) GW433.out) | (rw [add_block]; exact Nat.ne_of_lt (Nat.lt_of_lt_of_le (by have := World.block_lt_of_cell? _ _ hw436_1; first | rwa [add_block] at this | exact this) GW433.out)) | (show (Addr.add _ _).block ≠ _; rw [add_block]; exact Nat.ne_of_lt (Nat.lt_of_lt_of_le (by have := World.block_lt_of_cell? _ _ hw436_1; first | rwa [add_block] at this | exact this) GW433.out)) | (dsimp only; exact Nat.ne_of_lt (Nat.lt_of_lt_of_le (by have := World.block_lt_of_cell? _ _ hw436_1; first | rwa [add_block] at this | exact this) GW433.out))) _).trans (hHeld.2.2.2.2.2.2.2.2.2.1)))))), ((cell_far (p := ⟨gb433, _, none⟩) (by first | exact Nat.ne_of_lt (Nat.lt_of_lt_of_le (by have := World.block_lt_of_cell? _ _ hw436_2; first | rwa [add_block] at this | exact this) GW433.out) | (rw [add_block]; exact Nat.ne_of_lt (Nat.lt_of_lt_of_le (by have := World.block_lt_of_cell? _ _ hw436_2; first | rwa [add_block] at this | exact this) GW433.out)) | (show (Addr.add _ _).block ≠ _; rw [add_block]; exact Nat.ne_of_lt (Nat.lt_of_lt_of_le (by have := World.block_lt_of_cell? _ _ hw436_2; first | rwa [add_block] at this | exact this) GW433.out)) | (dsimp only; exact Nat.ne_of_lt (Nat.lt_of_lt_of_le (by have := World.block_lt_of_cell? _ _ hw436_2; first | rwa [add_block] at this | exact this) GW433.out))) _).trans (((cell_far (p := ⟨gb433, _, none⟩) (by first | exact Nat.ne_of_lt (Nat.lt_of_lt_of_le (by have := World.block_lt_of_cell? _ _ hw436_2; first | rwa [add_block] at this | exact this) GW433.out) | (rw [add_block]; exact Nat.ne_of_lt (Nat.lt_of_lt_of_le (by have := World.block_lt_of_cell? _ _ hw436_2; first | rwa [add_block] at this | exact this) GW433.out)) | (show (Addr.add _ _).block ≠ _; rw [add_block]; exact Nat.ne_of_lt (Nat.lt_of_lt_of_le (by have := World.block_lt_of_cell? _ _ hw436_2; first | rwa [add_block] at this | exact this) GW433.out)) | (dsimp only; exact Nat.ne_of_lt (Nat.lt_of_lt_of_le (by have := World.block_lt_of_cell? _ _ hw436_2; first | rwa [add_block] at this | exact this) GW433.out))) _).trans (((cell_far (p := ⟨gb433, _, none⟩) (by first | exact Nat.ne_of_lt (Nat.lt_of_lt_of_le (by have := World.block_lt_of_cell? _ _ hw436_2; first | rwa [add_block] at this | exact this) GW433.out) | (rw [add_block]; exact Nat.ne_of_lt (Nat.lt_of_lt_of_le (by have := World.block_lt_of_cell? _ _ hw436_2; first | rwa [add_block] at this | exact this) GW433.out)) | (show (Addr.add _ _).block ≠ _; rw [add_block]; exact Nat.ne_of_lt (Nat.lt_of_lt_of_le (by have := World.block_lt_of_cell? _ _ hw436_2; first | rwa [add_block] at this | exact this) GW433.out)) | (dsimp only; exact Nat.ne_of_lt (Nat.lt_of_lt_of_le (by have := World.block_lt_of_cell? _ _ hw436_2; first | rwa [add_block] at this | exact this) GW433.out))) _).trans (hHeld.2.2.2.2.2.2.2.2.2.2.1)))))), ((cell_far (p := ⟨gb433, _, none⟩) (by first | exact Nat.ne_of_lt (Nat.lt_of_lt_of_le (by have := World.block_lt_of_cell? _ _ hw436_3; first | rwa [add_block] at this | exact this) GW433.out) | (rw [add_block]; exact Nat.ne_of_lt (Nat.lt_of_lt_of_le (by have := World.block_lt_of_cell? _ _ hw436_3; first | rwa [add_block] at this | exact this) GW433.out)) | (show (Addr.add _ _).block ≠ _; rw [add_block]; exact Nat.ne_of_lt (Nat.lt_of_lt_of_le (by have := World.block_lt_of_cell? _ _ hw436_3; first | rwa [add_block] at this | exact this) GW433.out)) | (dsimp only; exact Nat.ne_of_lt (Nat.lt_of_lt_of_le (by have := World.block_lt_of_cell? _ _ hw436_3; first | rwa [add_block] at this | exact this) GW433.out))) _).trans (((cell_far (p := ⟨gb433, _, none⟩) (by first | exact Nat.ne_of_lt (Nat.lt_of_lt_of_le (by have := World.block_lt_of_cell? _ _ hw436_3; first | rwa [add_block] at this | exact this) GW433.out) | (rw [add_block]; exact Nat.ne_of_lt (Nat.lt_of_lt_of_le (by have := World.block_lt_of_cell? _ _ hw436_3; first | rwa [add_block] at this | exact this) GW433.out)) | (show (Addr.add _ _).block ≠ _; rw [add_block]; exact Nat.ne_of_lt (Nat.lt_of_lt_of_le (by have := World.block_lt_of_cell? _ _ hw436_3; first | rwa [add_block] at this | exact this) GW433.out)) | (dsimp only; exact Nat.ne_of_lt (Nat.lt_of_lt_of_le (by have := World.block_lt_of_cell? _ _ hw436_3; first | rwa [add_block] at this | exact this) GW433.out))) _).trans (((cell_far (p := ⟨gb433, _, none⟩) (by first | exact Nat.ne_of_lt (Nat.lt_of_lt_of_le (by have := World.block_lt_of_cell? _ _ hw436_3; first | rwa [add_block] at this | exact this) GW433.out) | (rw [add_block]; exact Nat.ne_of_lt (Nat.lt_of_lt_of_le (by have := World.block_lt_of_cell? _ _ hw436_3; first | rwa [add_block] at this | exact this) GW433.out)) | (show (Addr.add _ _).block ≠ _; rw [add_block]; exact Nat.ne_of_lt (Nat.lt_of_lt_of_le (by have := World.block_lt_of_cell? _ _ hw436_3; first | rwa [add_block] at this | exact this) GW433.out)) | (dsimp only; exact Nat.ne_of_lt (Nat.lt_of_lt_of_le (by have := World.block_lt_of_cell? _ _ hw436_3; first | rwa [add_block] at this | exact this) GW433.out))) _).trans (hHeld.2.2.2.2.2.2.2.2.2.2.2.1)))))), ((cell_far (p := ⟨gb433, _, none⟩) (by first | exact Nat.ne_of_lt (Nat.lt_of_lt_of_le (by have := World.block_lt_of_cell? _ _ hw436_4; first | rwa [add_block] at this | exact this) GW433.out) | (rw [add_block]; exact Nat.ne_of_lt (Nat.lt_of_lt_of_le (by have := World.block_lt_of_cell? _ _ hw436_4; first | rwa [add_block] at this | exact this) GW433.out)) | (show (Addr.add _ _).block ≠ _; rw [add_block]; exact Nat.ne_of_lt (Nat.lt_of_lt_of_le (by have := World.block_lt_of_cell? _ _ hw436_4; first | rwa [add_block] at this | exact this) GW433.out)) | (dsimp only; exact Nat.ne_of_lt (Nat.lt_of_lt_of_le (by have := World.block_lt_of_cell? _ _ hw436_4; first | rwa [add_block] at this | exact this) GW433.out))) _).trans (((cell_far (p := ⟨gb433, _, none⟩) (by first | exact Nat.ne_of_lt (Nat.lt_of_lt_of_le (by have := World.block_lt_of_cell? _ _ hw436_4; first | rwa [add_block] at this | exact this) GW433.out) | (rw [add_block]; exact Nat.ne_of_lt (Nat.lt_of_lt_of_le (by have := World.block_lt_of_cell? _ _ hw436_4; first | rwa [add_block] at this | exact this) GW433.out)) | (show (Addr.add _ _).block ≠ _; rw [add_block]; exact Nat.ne_of_lt (Nat.lt_of_lt_of_le (by have := World.block_lt_of_cell? _ _ hw436_4; first | rwa [add_block] at this | exact this) GW433.out)) | (dsimp only; exact Nat.ne_of_lt (Nat.lt_of_lt_of_le (by have := World.block_lt_of_cell? _ _ hw436_4; first | rwa [add_block] at this | exact this) GW433.out))) _).trans (((cell_far (p := ⟨gb433, _, none⟩) (by first | exact Nat.ne_of_lt (Nat.lt_of_lt_of_le (by have := World.block_lt_of_cell? _ _ hw436_4; first | rwa [add_block] at this | exact this) GW433.out) | (rw [add_block]; exact Nat.ne_of_lt (Nat.lt_of_lt_of_le (by have := World.block_lt_of_cell? _ _ hw436_4; first | rwa [add_block] at this | exact this) GW433.out)) | (show (Addr.add _ _).block ≠ _; rw [add_block]; exact Nat.ne_of_lt (Nat.lt_of_lt_of_le (by have := World.block_lt_of_cell? _ _ hw436_4; first | rwa [add_block] at this | exact this) GW433.out)) | (dsimp only; exact Nat.ne_of_lt (Nat.lt_of_lt_of_le (by have := World.block_lt_of_cell? _ _ hw436_4; first | rwa [add_block] at this | exact this) GW433.out))) _).trans (hHeld.2.2.2.2.2.2.2.2.2.2.2.2.1)))))), ((cell_far (p := ⟨gb433, _, none⟩) (by first | exact Nat.ne_of_lt (Nat.lt_of_lt_of_le (by have := World.block_lt_of_cell? _ _ hw436_5; first | rwa [add_block] at this | exact this) GW433.out) | (rw [add_block]; exact Nat.ne_of_lt (Nat.lt_of_lt_of_le (by have := World.block_lt_of_cell? _ _ hw436_5; first | rwa [add_block] at this | exact this) GW433.out)) | (show (Addr.add _ _).block ≠ _; rw [add_block]; exact Nat.ne_of_lt (Nat.lt_of_lt_of_le (by have := World.block_lt_of_cell? _ _ hw436_5; first | rwa [add_block] at this | exact this) GW433.out)) | (dsimp only; exact Nat.ne_of_lt (Nat.lt_of_lt_of_le (by have := World.block_lt_of_cell? _ _ hw436_5; first | rwa [add_block] at this | exact this) GW433.out))) _).trans (((cell_far (p := ⟨gb433, _, none⟩) (by first | exact Nat.ne_of_lt (Nat.lt_of_lt_of_le (by have := World.block_lt_of_cell? _ _ hw436_5; first | rwa [add_block] at this | exact this) GW433.out) | (rw [add_block]; exact Nat.ne_of_lt (Nat.lt_of_lt_of_le (by have := World.block_lt_of_cell? _ _ hw436_5; first | rwa [add_block] at this | exact this) GW433.out)) | (show (Addr.add _ _).block ≠ _; rw [add_block]; exact Nat.ne_of_lt (Nat.lt_of_lt_of_le (by have := World.block_lt_of_cell? _ _ hw436_5; first | rwa [add_block] at this | exact this) GW433.out)) | (dsimp only; exact Nat.ne_of_lt (Nat.lt_of_lt_of_le (by have := World.block_lt_of_cell? _ _ hw436_5; first | rwa [add_block] at this | exact this) GW433.out))) _).trans (((cell_far (p := ⟨gb433, _, none⟩) (by first | exact Nat.ne_of_lt (Nat.lt_of_lt_of_le (by have := World.block_lt_of_cell? _ _ hw436_5; first | rwa [add_block] at this | exact this) GW433.out) | (rw [add_block]; exact Nat.ne_of_lt (Nat.lt_of_lt_of_le (by have := World.block_lt_of_cell? _ _ hw436_5; first | rwa [add_block] at this | exact this) GW433.out)) | (show (Addr.add _ _).block ≠ _; rw [add_block]; exact Nat.ne_of_lt (Nat.lt_of_lt_of_le (by have := World.block_lt_of_cell? _ _ hw436_5; first | rwa [add_block] at this | exact this) GW433.out)) | (dsimp only; exact Nat.ne_of_lt (Nat.lt_of_lt_of_le (by have := World.block_lt_of_cell? _ _ hw436_5; first | rwa [add_block] at this | exact this) GW433.out))) _).trans (hHeld.2.2.2.2.2.2.2.2.2.2.2.2.2.1)))))), ((cell_far (p := ⟨gb433, _, none⟩) (by first | exact Nat.ne_of_lt (Nat.lt_of_lt_of_le (by have := World.block_lt_of_cell? _ _ hw436_6; first | rwa [add_block] at this | exact this) GW433.out) | (rw [add_block]; exact Nat.ne_of_lt (Nat.lt_of_lt_of_le (by have := World.block_lt_of_cell? _ _ hw436_6; first | rwa [add_block] at this | exact this) GW433.out)) | (show (Addr.add _ _).block ≠ _; rw [add_block]; exact Nat.ne_of_lt (Nat.lt_of_lt_of_le (by have := World.block_lt_of_cell? _ _ hw436_6; first | rwa [add_block] at this | exact this) GW433.out)) | (dsimp only; exact Nat.ne_of_lt (Nat.lt_of_lt_of_le (by have := World.block_lt_of_cell? _ _ hw436_6; first | rwa [add_block] at this | exact this) GW433.out))) _).trans (((cell_far (p := ⟨gb433, _, none⟩) (by first | exact Nat.ne_of_lt (Nat.lt_of_lt_of_le (by have := World.block_lt_of_cell? _ _ hw436_6; first | rwa [add_block] at this | exact this) GW433.out) | (rw [add_block]; exact Nat.ne_of_lt (Nat.lt_of_lt_of_le (by have := World.block_lt_of_cell? _ _ hw436_6; first | rwa [add_block] at this | exact this) GW433.out)) | (show (Addr.add _ _).block ≠ _; rw [add_block]; exact Nat.ne_of_lt (Nat.lt_of_lt_of_le (by have := World.block_lt_of_cell? _ _ hw436_6; first | rwa [add_block] at this | exact this) GW433.out)) | (dsimp only; exact Nat.ne_of_lt (Nat.lt_of_lt_of_le (by have := World.block_lt_of_cell? _ _ hw436_6; first | rwa [add_block] at this | exact this) GW433.out))) _).trans (((cell_far (p := ⟨gb433, _, none⟩) (by first | exact Nat.ne_of_lt (Nat.lt_of_lt_of_le (by have := World.block_lt_of_cell? _ _ hw436_6; first | rwa [add_block] at this | exact this) GW433.out) | (rw [add_block]; exact Nat.ne_of_lt (Nat.lt_of_lt_of_le (by have := World.block_lt_of_cell? _ _ hw436_6; first | rwa [add_block] at this | exact this) GW433.out)) | (show (Addr.add _ _).block ≠ _; rw [add_block]; exact Nat.ne_of_lt (Nat.lt_of_lt_of_le (by have := World.block_lt_of_cell? _ _ hw436_6; first | rwa [add_block] at this | exact this) GW433.out)) | (dsimp only; exact Nat.ne_of_lt (Nat.lt_of_lt_of_le (by have := World.block_lt_of_cell? _ _ hw436_6; first | rwa [add_block] at this | exact this) GW433.out))) _).trans (hHeld.2.2.2.2.2.2.2.2.2.2.2.2.2.2.1)))))), ((cell_far (p := ⟨gb433, _, none⟩) (by first | exact Nat.ne_of_lt (Nat.lt_of_lt_of_le (by have := World.block_lt_of_cell? _ _ hw436_7; first | rwa [add_block] at this | exact this) GW433.out) | (rw [add_block]; exact Nat.ne_of_lt (Nat.lt_of_lt_of_le (by have := World.block_lt_of_cell? _ _ hw436_7; first | rwa [add_block] at this | exact this) GW433.out)) | (show (Addr.add _ _).block ≠ _; rw [add_block]; exact Nat.ne_of_lt (Nat.lt_of_lt_of_le (by have := World.block_lt_of_cell? _ _ hw436_7; first | rwa [add_block] at this | exact this) GW433.out)) | (dsimp only; exact Nat.ne_of_lt (Nat.lt_of_lt_of_le (by have := World.block_lt_of_cell? _ _ hw436_7; first | rwa [add_block] at this | exact this) GW433.out))) _).trans (((cell_far (p := ⟨gb433, _, none⟩) (by first | exact Nat.ne_of_lt (Nat.lt_of_lt_of_le (by have := World.block_lt_of_cell? _ _ hw436_7; first | rwa [add_block] at this | exact this) GW433.out) | (rw [add_block]; exact Nat.ne_of_lt (Nat.lt_of_lt_of_le (by have := World.block_lt_of_cell? _ _ hw436_7; first | rwa [add_block] at this | exact this) GW433.out)) | (show (Addr.add _ _).block ≠ _; rw [add_block]; exact Nat.ne_of_lt (Nat.lt_of_lt_of_le (by have := World.block_lt_of_cell? _ _ hw436_7; first | rwa [add_block] at this | exact this) GW433.out)) | (dsimp only; exact Nat.ne_of_lt (Nat.lt_of_lt_of_le (by have := World.block_lt_of_cell? _ _ hw436_7; first | rwa [add_block] at this | exact this) GW433.out))) _).trans (((cell_far (p := ⟨gb433, _, none⟩) (by first | exact Nat.ne_of_lt (Nat.lt_of_lt_of_le (by have := World.block_lt_of_cell? _ _ hw436_7; first | rwa [add_block] at this | exact this) GW433.out) | (rw [add_block]; exact Nat.ne_of_lt (Nat.lt_of_lt_of_le (by have := World.block_lt_of_cell? _ _ hw436_7; first | rwa [add_block] at this | exact this) GW433.out)) | (show (Addr.add _ _).block ≠ _; rw [add_block]; exact Nat.ne_of_lt (Nat.lt_of_lt_of_le (by have := World.block_lt_of_cell? _ _ hw436_7; first | rwa [add_block] at this | exact this) GW433.out)) | (dsimp only; exact Nat.ne_of_lt (Nat.lt_of_lt_of_le (by have := World.block_lt_of_cell? _ _ hw436_7; first | rwa [add_block] at this | exact this) GW433.out))) _).trans (hHeld.2.2.2.2.2.2.2.2.2.2.2.2.2.2.2))))))⟩ (fun hHeld => ?_)
      clear hK K
      refine done_ (done_of HT_.out (by kernel_rfl)) ?_
      try go_wp2
      refine bodyPost_ret (results_cell_row rfl _ _ gb433 31 #[.string ((rd_T39 l0 0).f0), .int .i64 0, .int .i64 t437] (0, 0) _ rfl (by refine bx ?_; refine blk_put (cs := #[.string ((rd_T39 l0 0).f0), .int .i64 0, .int .i64 0]) ?_ 2 _ rfl; refine bx ?_; refine blk_put (cs := #[.string ((rd_T39 l0 0).f0), .int .i64 0, .int .i64 0]) ?_ 1 _ rfl; refine bx ?_; refine blk_put (cs := #[.string (⟨#[]⟩ : ByteArray), .int .i64 0, .int .i64 0]) ?_ 0 _ rfl; refine bx ?_; exact BK433.out) Try.underlying31 rfl (by kernel_rfl)) rfl ?_
      exact ⟨exq, bw HB.out⟩
    · rw [if_neg c4] at H
      exact absurd H (by simp)
  · replace c3 := Bool.eq_false_iff.mpr c3
    subst c3
    have H1 : (some ((⟨#[]⟩ : ByteArray), 0, 0)) = some (r1, r2, r3) := by rw [if_neg (show ¬ (false = true) by decide)] at H; exact H
    clear H
    have H := H1
    clear H1
    simp only [Option.some.injEq, Prod.mk.injEq] at H
    obtain ⟨rfl, rfl, rfl⟩ := H
    go_enter Try.func27, Try.ntmps27
    go_wp2_with (first | ((with_reducible refine gate_dst (N := 2) rfl ?_); refine box_event ?hg (N := 2) ?hd (cs := #[.string (⟨#[]⟩ : ByteArray), .int .i64 0, .int .i64 0]) (t := 31) ?hr ?_; (case hd => rfl); (case hg => rfl); (case hr => first | (go_simp; done) | (go_simp; rfl)); intro gb433 hg w13 hbox hb; have n0_ := bs HB hb; have n1_ := Aside0.mk (hbox); have n2_ := Aside0.mk ((by rw [hg]; exact (below_size (bw HB.out)) : w.heap.size ≤ gb433)); have n3_ := Aside0.mk ((by rw [hg]; exact (below_size (bw HB.out)) : w.heap.size ≤ gb433)); clear HB; have HB := n0_; have BK433 := n1_; have GW433 := n2_; have GE433 := n3_; clear n0_ n1_ n2_ n3_; clear hb hbox hg) | ((with_reducible refine gate_callee (f := 36) rfl ?_); refine goesL_ (some 4) rfl rfl Try.func36 (by kernel_rfl) rfl #[.slice A0 l0.length c0] rfl mxp ?_; (with_reducible refine (impl_RecOk.calls k _ _ l0 false _ ?side1 ?side2 A2.out).mono ?_); (case side1 => exact cx (Kd.C_below HR0.out HB.out)); (case side2 => exact HC0.out); rintro e w14 ⟨rfl, hb⟩; refine ⟨_, rfl, ?_⟩; replace BK433 := up BK433 hb; replace HB := bs HB hb; (try clear hb); (try clear hb2); (try clear hk); (try clear hi); have hcz15_0 := b0 BK433; have hcz15_1 := b1 BK433; have hcz15_2 := b2 BK433; have hfz15_0 := fz BK433 0; have hfz15_1 := fz BK433 1; have hfz15_2 := fz BK433 2))
    refine bodyPost_ret (results_cell_row rfl _ _ gb433 31 #[.string (⟨#[]⟩ : ByteArray), .int .i64 0, .int .i64 0] (0, 0) _ rfl (by refine bx ?_; refine blk_put (cs := #[.string (⟨#[]⟩ : ByteArray), .int .i64 0, .int .i64 0]) ?_ 2 _ rfl; refine bx ?_; refine blk_put (cs := #[.string (⟨#[]⟩ : ByteArray), .int .i64 0, .int .i64 0]) ?_ 1 _ rfl; refine bx ?_; refine blk_put (cs := #[.string (⟨#[]⟩ : ByteArray), .int .i64 0, .int .i64 0]) ?_ 0 _ rfl; refine bx ?_; exact BK433.out) Try.underlying31 rfl (by kernel_rfl)) rfl ?_
    exact ⟨exq, bw HB.out⟩

end Go.Proofs.Ytdkologncoofdaa.P
-- Px58
namespace Go.Proofs.Ytdkologncoofdaa.P
open Go.RowKit Go.Proofs.YtdkologncoofdaaW.PrintWords Go.Proofs.YtdkologncoofdaaW.PrintLast Go.Proofs.YtdkologncoofdaaW.PrintMore
attribute [local go_sem] max2_int min2_int max_two min_two max_three min_three max_four min_four   -- for this text's walks alone
set_option linter.unusedVariables false
set_option linter.unusedSimpArgs false

/-! ### impl_RecGo: function 28 -/
mutual
def impl_RecGo.j0 : Nat → List (S39) → Bool → ByteArray → Int → Int → Int → Bool → Option (ByteArray × Int × Int × Bool)
  | 0, _, _, _, _, _, _, _ => none
  | k + 1, x0, x27, x629000, x629001, x629002, x630000, x630001 => if x27 = true then (some (x629000, x629001, x629002, false)) else ((impl_at.f x0 x629000).bind fun t634 => (if 0 ≤ t634 then (if t634 < (x0.length : Int) then (if (mx x630000 0) > ((rd_T39 x0 t634).f5) then (impl_RecGo.j1 k x0 ((rd_T39 x0 t634).f5) false x629000 x629001 x629002 ((rd_T39 x0 t634).f0) ((rd_T39 x0 t634).f1) ((rd_T39 x0 t634).f2) ((rd_T39 x0 t634).f3) ((rd_T39 x0 t634).f4) ((rd_T39 x0 t634).f5) ((rd_T39 x0 t634).f6) ((rd_T39 x0 t634).f7)) else (impl_RecGo.j1 k x0 (mx x630000 0) x630001 x629000 x629001 x629002 ((rd_T39 x0 t634).f0) ((rd_T39 x0 t634).f1) ((rd_T39 x0 t634).f2) ((rd_T39 x0 t634).f3) ((rd_T39 x0 t634).f4) ((rd_T39 x0 t634).f5) ((rd_T39 x0 t634).f6) ((rd_T39 x0 t634).f7))) else (none)) else (none)))
def impl_RecGo.j1 : Nat → List (S39) → Int → Bool → ByteArray → Int → Int → ByteArray → Int → ByteArray → ByteArray → Int → Int → ByteArray → ByteArray → Option (ByteArray × Int × Int × Bool)
  | 0, _, _, _, _, _, _, _, _, _, _, _, _, _, _ => none
  | k + 1, x0, x9, x10, x629000, x629001, x629002, x637000, x637001, x637002, x637003, x637004, x637005, x637006, x637007 => if x10 = true then (if x637001 = 3 then ((impl_bound.f k x0 x637006).bind fun t637 => (some (x637006, wrap64 (x629001 + (mx x9 x637004)), t637, true))) else ((impl_bound.f k x0 x637006).bind fun t638 => (some (x637006, wrap64 (x629001 + x9), t638, true)))) else ((impl_bound.f k x0 x637007).bind fun t639 => (some (x637007, wrap64 (x629001 + x9), t639, true)))
end
def impl_RecGo.f (k : Nat) (l0 : List (S39)) (a1_0 : ByteArray) (a1_1 : Int) (a1_2 : Int) (a2_0 : Int) (a2_1 : Bool) : Option (ByteArray × Int × Int × Bool) := (impl_RecOk.f k l0).bind fun t631 => (if t631 = true then ((impl_at.f l0 a1_0).bind fun t632 => (if t632 < 0 then (impl_RecGo.j0 k l0 true a1_0 a1_1 a1_2 a2_0 a2_1) else ((impl_in.f a1_1 0 12000).bind fun t633 => (impl_RecGo.j0 k l0 (!t633) a1_0 a1_1 a1_2 a2_0 a2_1)))) else (impl_RecGo.j0 k l0 true a1_0 a1_1 a1_2 a2_0 a2_1))
theorem impl_RecGo.mono_l : ∀ k, (∀ y0 y1 y2 y3 y4 y5 y6, LeO (impl_RecGo.j0 k y0 y1 y2 y3 y4 y5 y6) (impl_RecGo.j0 (k + 1) y0 y1 y2 y3 y4 y5 y6)) ∧ (∀ y0 y1 y2 y3 y4 y5 y6 y7 y8 y9 y10 y11 y12 y13, LeO (impl_RecGo.j1 k y0 y1 y2 y3 y4 y5 y6 y7 y8 y9 y10 y11 y12 y13) (impl_RecGo.j1 (k + 1) y0 y1 y2 y3 y4 y5 y6 y7 y8 y9 y10 y11 y12 y13))
  | 0 => ⟨fun _ _ _ _ _ _ _ r h => by simp [impl_RecGo.j0] at h, fun _ _ _ _ _ _ _ _ _ _ _ _ _ _ r h => by simp [impl_RecGo.j1] at h⟩
  | k + 1 => by
    obtain ⟨ih0, ih1⟩ := impl_RecGo.mono_l k
    refine ⟨?_, ?_⟩
    · intro y0 y1 y2 y3 y4 y5 y6
      unfold impl_RecGo.j0
      repeat' first
      | (with_reducible exact ih0 _ _ _ _ _ _ _)
      | (with_reducible exact ih1 _ _ _ _ _ _ _ _ _ _ _ _ _ _)
      | (with_reducible exact impl_RecOk.mono _ _)
      | (with_reducible exact impl_bound.mono _ _ _)
      | (with_reducible exact LeO.refl _)
      | (with_reducible exact LeO.none _)
      | (with_reducible refine LeO.ite ?_ ?_)
      | (with_reducible refine LeO.bind ?_ (fun _ => ?_))
      | exact ih0 _ _ _ _ _ _ _
      | exact ih1 _ _ _ _ _ _ _ _ _ _ _ _ _ _
      | exact impl_RecOk.mono _ _
      | exact impl_bound.mono _ _ _
      | exact LeO.none _
      | refine LeO.ite ?_ ?_
      | refine LeO.bind ?_ (fun _ => ?_)
    · intro y0 y1 y2 y3 y4 y5 y6 y7 y8 y9 y10 y11 y12 y13
      unfold impl_RecGo.j1
      repeat' first
      | (with_reducible exact ih0 _ _ _ _ _ _ _)
      | (with_reducible exact ih1 _ _ _ _ _ _ _ _ _ _ _ _ _ _)
      | (with_reducible exact impl_RecOk.mono _ _)
      | (with_reducible exact impl_bound.mono _ _ _)
      | (with_reducible exact LeO.refl _)
      | (with_reducible exact LeO.none _)
      | (with_reducible refine LeO.ite ?_ ?_)
      | (with_reducible refine LeO.bind ?_ (fun _ => ?_))
      | exact ih0 _ _ _ _ _ _ _
      | exact ih1 _ _ _ _ _ _ _ _ _ _ _ _ _ _
      | exact impl_RecOk.mono _ _
      | exact impl_bound.mono _ _ _
      | exact LeO.none _
      | refine LeO.ite ?_ ?_
      | refine LeO.bind ?_ (fun _ => ?_)
theorem impl_RecGo.mono : ∀ a0 a1 a2 a3 a4 a5 k, LeO (impl_RecGo.f k a0 a1 a2 a3 a4 a5) (impl_RecGo.f (k + 1) a0 a1 a2 a3 a4 a5) := by
  intro a0 a1 a2 a3 a4 a5 k
  obtain ⟨ih0, ih1⟩ := impl_RecGo.mono_l k
  unfold impl_RecGo.f
  repeat' first
      | (with_reducible exact ih0 _ _ _ _ _ _ _)
      | (with_reducible exact ih1 _ _ _ _ _ _ _ _ _ _ _ _ _ _)
      | (with_reducible exact impl_RecOk.mono _ _)
      | (with_reducible exact impl_bound.mono _ _ _)
      | (with_reducible exact LeO.refl _)
      | (with_reducible exact LeO.none _)
      | (with_reducible refine LeO.ite ?_ ?_)
      | (with_reducible refine LeO.bind ?_ (fun _ => ?_))
      | exact ih0 _ _ _ _ _ _ _
      | exact ih1 _ _ _ _ _ _ _ _ _ _ _ _ _ _
      | exact impl_RecOk.mono _ _
      | exact impl_bound.mono _ _ _
      | exact LeO.none _
      | refine LeO.ite ?_ ?_
      | refine LeO.bind ?_ (fun _ => ?_)
def impl_RecGo.T12 : Bool × List (List Nat × List Nat) := (true, [([], []), ([], []), ([1], [1]), ([], []), ([2, 3], [2, 3]), ([], []), ([], []), ([5, 6], [5, 6]), ([0, 4, 7], [0, 4, 7]), ([8, 7, 0, 1, 2, 3, 4, 5, 6, 7, 8], [8]), ([9, 0, 1, 2, 3, 4, 5, 6, 7, 8, 9], [])])
def impl_RecGo.B12 : List Nat := [0, 0, 2, 0, 14, 0, 0, 96, 255, 511, 1023]
theorem impl_RecGo.tab12 : rtab .any (opsOf Try.f28 12) = impl_RecGo.T12 := by kernel_rfl
theorem impl_RecGo.bits12 : waitsOk impl_RecGo.T12.2 impl_RecGo.B12 = true := by kernel_rfl
set_option maxHeartbeats 8000000 in
set_option maxRecDepth 100000 in
theorem impl_RecGo.calls (k : Nat) (A0 : Option Addr) (c0 : Nat) (l0 : List (S39)) (a1_0 : ByteArray) (a1_1 : Int) (a1_2 : Int) (a2_0 : Int) (a2_1 : Bool) (r1 : ByteArray) (r2 : Int) (r3 : Int) (r4 : Bool) (w : World) (hr0 : Kd.C k39 w A0 l0.length l0) (hc0 : l0.length ≤ c0) (h : impl_RecGo.f k l0 a1_0 a1_1 a1_2 a2_0 a2_1 = some (r1, r2, r3, r4)) :
    Calls Try.prog 28 #[.slice A0 l0.length c0, .agg #[.string a1_0, .int .i64 a1_1, .int .i64 a1_2], .agg #[.int .i64 a2_0, .bool a2_1]] w fun e w' => e = .returned (.tuple #[.agg #[.string r1, .int .i64 r2, .int .i64 r3], .bool r4]) ∧ Below w.heap.size w w' := by
  have hu31 := Try.underlying31
  have hu43 := Try.underlying43
  have hu39 := Try.underlying39
  have HR0 := Aside0.mk hr0
  have HC0 := Aside0.mk hc0
  clear hr0 hc0
  have HB := Aside0.mk (Below.refl w.heap.size w)
  have H : ((impl_RecOk.f k l0).bind fun t631 => (if t631 = true then ((impl_at.f l0 a1_0).bind fun t632 => (if t632 < 0 then (impl_RecGo.j0 k l0 true a1_0 a1_1 a1_2 a2_0 a2_1) else ((impl_in.f a1_1 0 12000).bind fun t633 => (impl_RecGo.j0 k l0 (!t633) a1_0 a1_1 a1_2 a2_0 a2_1)))) else (impl_RecGo.j0 k l0 true a1_0 a1_1 a1_2 a2_0 a2_1))) = some (r1, r2, r3, r4) := h
  clear h
  have HC4 := Aside0.mk H
  clear H
  go_enter Try.func28, Try.ntmps28
  go_upto_region 1 with (first | ((with_reducible refine gate_dst (N := 4) rfl ?_); refine box_event ?hg (N := 4) ?hd (cs := #[.string a1_0, .int .i64 a1_1, .int .i64 a1_2]) (t := 31) ?hr ?_; (case hd => rfl); (case hg => rfl); (case hr => first | (go_simp; done) | (go_simp; rfl)); intro gb628 hg w5 hbox hb; have n0_ := bs HB hb; have n1_ := Aside0.mk (hbox); have n2_ := Aside0.mk ((by rw [hg]; exact (below_size (bw HB.out)) : w.heap.size ≤ gb628)); have n3_ := Aside0.mk ((by rw [hg]; exact (below_size (bw HB.out)) : w.heap.size ≤ gb628)); clear HB; have HB := n0_; have BK628 := n1_; have GW628 := n2_; have GE628 := n3_; clear n0_ n1_ n2_ n3_; clear hb hbox hg) | ((with_reducible refine gate_dst (N := 5) rfl ?_); refine box_event ?hg (N := 5) ?hd (cs := #[.int .i64 a2_0, .bool a2_1]) (t := 43) ?hr ?_; (case hd => rfl); (case hg => rfl); (case hr => first | (go_simp; done) | (go_simp; rfl)); intro gb629 hg w6 hbox hb; have n0_ := up BK628 hb; have n1_ := bs HB hb; have n2_ := Aside0.mk (hbox); have n3_ := Aside0.mk ((by rw [hg]; exact (below_size (bw HB.out)) : w.heap.size ≤ gb629)); have n4_ := Aside0.mk ((by rw [hg]; exact (below_size (bw HB.out)) : w.heap.size ≤ gb629)); have n5_ := Aside0.mk ((by rw [hg]; exact Nat.ne_of_lt (blk_lt (g := gb628) (o := .cells #[.string a1_0, .int .i64 a1_1, .int .i64 a1_2] 31 (0, 0)) (bx BK628.out)) : gb628 ≠ gb629)); have n6_ := Aside0.mk ((by rw [hg]; exact Nat.ne_of_gt (blk_lt (g := gb628) (o := .cells #[.string a1_0, .int .i64 a1_1, .int .i64 a1_2] 31 (0, 0)) (bx BK628.out)) : gb629 ≠ gb628)); clear BK628; clear HB; have BK628 := n0_; have HB := n1_; have BK629 := n2_; have GW629 := n3_; have GE629 := n4_; have NB628_629 := n5_; have NB629_628 := n6_; clear n0_ n1_ n2_ n3_ n4_ n5_ n6_; clear hb hbox hg) | ((with_reducible refine gate_dst (N := 6) rfl ?_); refine box_event ?hg (N := 6) ?hd (cs := #[.string (⟨#[]⟩ : ByteArray), .int .i64 0, .int .i64 0]) (t := 31) ?hr ?_; (case hd => rfl); (case hg => rfl); (case hr => first | (go_simp; done) | (go_simp; rfl)); intro gb630 hg w7 hbox hb; have n0_ := up BK628 hb; have n1_ := up BK629 hb; have n2_ := bs HB hb; have n3_ := Aside0.mk (hbox); have n4_ := Aside0.mk ((by rw [hg]; exact (below_size (bw HB.out)) : w.heap.size ≤ gb630)); have n5_ := Aside0.mk ((by rw [hg]; exact (below_size (bw HB.out)) : w.heap.size ≤ gb630)); have n6_ := Aside0.mk ((by rw [hg]; exact Nat.ne_of_lt (blk_lt (g := gb628) (o := .cells #[.string a1_0, .int .i64 a1_1, .int .i64 a1_2] 31 (0, 0)) (bx BK628.out)) : gb628 ≠ gb630)); have n7_ := Aside0.mk ((by rw [hg]; exact Nat.ne_of_gt (blk_lt (g := gb628) (o := .cells #[.string a1_0, .int .i64 a1_1, .int .i64 a1_2] 31 (0, 0)) (bx BK628.out)) : gb630 ≠ gb628)); have n8_ := Aside0.mk ((by rw [hg]; exact Nat.ne_of_lt (blk_lt (g := gb629) (o := .cells #[.int .i64 a2_0, .bool a2_1] 43 (0, 0)) (bx BK629.out)) : gb629 ≠ gb630)); have n9_ := Aside0.mk ((by rw [hg]; exact Nat.ne_of_gt (blk_lt (g := gb629) (o := .cells #[.int .i64 a2_0, .bool a2_1] 43 (0, 0)) (bx BK629.out)) : gb630 ≠ gb629)); clear BK628; clear BK629; clear HB; have BK628 := n0_; have BK629 := n1_; have HB := n2_; have BK630 := n3_; have GW630 := n4_; have GE630 := n5_; have NB628_630 := n6_; have NB630_628 := n7_; have NB629_630 := n8_; have NB630_629 := n9_; clear n0_ n1_ n2_ n3_ n4_ n5_ n6_ n7_ n8_ n9_; clear hb hbox hg))
  (try simp only [Act.put, List.setIfInBounds_toArray, List.set_cons_zero, List.set_cons_succ])
  go_cut [27] (fun v27 wc => ∃ (kq : Nat) (x27_3 : Bool), v27 = .bool x27_3 ∧ Aside0 (impl_RecGo.j0 kq l0 x27_3 a1_0 a1_1 a1_2 a2_0 a2_1 = some (r1, r2, r3, r4)) ∧ Aside0 (kq ≤ k) ∧ Aside0 (wc.heap[gb628]? = some (.cells #[.string a1_0, .int .i64 a1_1, .int .i64 a1_2] 31 (0, 0))) ∧ Aside0 (wc.heap[gb629]? = some (.cells #[.int .i64 a2_0, .bool a2_1] 43 (0, 0))) ∧ Aside0 (wc.heap[gb630]? = some (.cells #[.string (⟨#[]⟩ : ByteArray), .int .i64 0, .int .i64 0] 31 (0, 0))) ∧ Aside0 (Below w.heap.size w wc))
  case first =>
    have H := HC4.out
    clear HC4
    replace H := Option.bind_eq_some_iff.mp H
    obtain ⟨t631, A80, H⟩ := H
    replace H : (if t631 = true then ((impl_at.f l0 a1_0).bind fun t632 => (if t632 < 0 then (impl_RecGo.j0 k l0 true a1_0 a1_1 a1_2 a2_0 a2_1) else ((impl_in.f a1_1 0 12000).bind fun t633 => (impl_RecGo.j0 k l0 (!t633) a1_0 a1_1 a1_2 a2_0 a2_1)))) else (impl_RecGo.j0 k l0 true a1_0 a1_1 a1_2 a2_0 a2_1)) = some (r1, r2, r3, r4) := H
    have A8 := Aside0.mk A80
    clear A80
    by_cases c9 : t631 = true
    · subst c9
      have H1 : ((impl_at.f l0 a1_0).bind fun t632 => (if t632 < 0 then (impl_RecGo.j0 k l0 true a1_0 a1_1 a1_2 a2_0 a2_1) else ((impl_in.f a1_1 0 12000).bind fun t633 => (impl_RecGo.j0 k l0 (!t633) a1_0 a1_1 a1_2 a2_0 a2_1)))) = some (r1, r2, r3, r4) := by rw [if_pos rfl] at H; exact H
      clear H
      have H := H1
      clear H1
      replace H := Option.bind_eq_some_iff.mp H
      obtain ⟨t632, A100, H⟩ := H
      replace H : (if t632 < 0 then (impl_RecGo.j0 k l0 true a1_0 a1_1 a1_2 a2_0 a2_1) else ((impl_in.f a1_1 0 12000).bind fun t633 => (impl_RecGo.j0 k l0 (!t633) a1_0 a1_1 a1_2 a2_0 a2_1))) = some (r1, r2, r3, r4) := H
      have A10 := Aside0.mk A100
      clear A100
      by_cases c11 : t632 < 0
      · rw [if_pos c11] at H
        have c11b0 : decide (t632 < 0) = true := decide_eq_true c11
        clear c11
        (first | rw [c11b0] | (simp only [i64_w, i32_w]; rw [c11b0]) | skip)
        have H' := Aside0.mk H
        clear H
        go_wp2_with (first | ((with_reducible refine gate_callee (f := 36) rfl ?_); refine goesL_ (some 13) rfl rfl Try.func36 (by kernel_rfl) rfl #[.slice A0 l0.length c0] rfl mxp ?_; (with_reducible refine (impl_RecOk.calls k _ _ l0 true _ ?side1 ?side2 A8.out).mono ?_); (case side1 => exact cx (Kd.C_below HR0.out HB.out)); (case side2 => exact HC0.out); rintro e w12 ⟨rfl, hb⟩; refine ⟨_, rfl, ?_⟩; replace BK628 := up BK628 hb; replace BK629 := up BK629 hb; replace BK630 := up BK630 hb; replace HB := bs HB hb; (try clear hb); (try clear hb2); (try clear hk); (try clear hi); have hnb13 := NB628_629.out; have hnc13 := NB629_628.out; have hnb14 := NB628_630.out; have hnc14 := NB630_628.out; have hcz15_0 := b0 BK628; have hcz15_1 := b1 BK628; have hcz15_2 := b2 BK628; have hfz15_0 := fz BK628 0; have hfz15_1 := fz BK628 1; have hfz15_2 := fz BK628 2) | (go_at_call 69; (with_reducible refine (impl_at.calls _ _ l0 a1_0 t632 _ ?side1 ?side2 A10.out).mono ?_); (case side1 => exact cx (Kd.C_below HR0.out HB.out)); (case side2 => exact HC0.out); rintro e w16 ⟨rfl, hb⟩; replace BK628 := up BK628 hb; replace BK629 := up BK629 hb; replace BK630 := up BK630 hb; replace HB := bs HB hb; (try clear hb); (try clear hb2); (try clear hk); (try clear hi)))
        go_meet
        case rel => exact ⟨_, (true), (by first | rfl | (simp; done) | (simp [*]; done)), H', ⟨by first | omega | exact Nat.le_refl _⟩, (bk BK628), (bk BK629), (bk BK630), (hbw HB)⟩
      · rw [if_neg c11] at H
        have c11b0 : decide (t632 < 0) = false := decide_eq_false c11
        clear c11
        (first | rw [c11b0] | (simp only [i64_w, i32_w]; rw [c11b0]) | skip)
        replace H := Option.bind_eq_some_iff.mp H
        obtain ⟨t633, A170, H⟩ := H
        replace H : (impl_RecGo.j0 k l0 (!t633) a1_0 a1_1 a1_2 a2_0 a2_1) = some (r1, r2, r3, r4) := H
        have A17 := Aside0.mk A170
        clear A170
        have H' := Aside0.mk H
        clear H
        go_wp2_with (first | ((with_reducible refine gate_callee (f := 36) rfl ?_); refine goesL_ (some 13) rfl rfl Try.func36 (by kernel_rfl) rfl #[.slice A0 l0.length c0] rfl mxp ?_; (with_reducible refine (impl_RecOk.calls k _ _ l0 true _ ?side1 ?side2 A8.out).mono ?_); (case side1 => exact cx (Kd.C_below HR0.out HB.out)); (case side2 => exact HC0.out); rintro e w18 ⟨rfl, hb⟩; refine ⟨_, rfl, ?_⟩; replace BK628 := up BK628 hb; replace BK629 := up BK629 hb; replace BK630 := up BK630 hb; replace HB := bs HB hb; (try clear hb); (try clear hb2); (try clear hk); (try clear hi); have hnb19 := NB628_629.out; have hnc19 := NB629_628.out; have hnb20 := NB628_630.out; have hnc20 := NB630_628.out; have hcz21_0 := b0 BK628; have hcz21_1 := b1 BK628; have hcz21_2 := b2 BK628; have hfz21_0 := fz BK628 0; have hfz21_1 := fz BK628 1; have hfz21_2 := fz BK628 2) | (go_at_call 69; (with_reducible refine (impl_at.calls _ _ l0 a1_0 t632 _ ?side1 ?side2 A10.out).mono ?_); (case side1 => exact cx (Kd.C_below HR0.out HB.out)); (case side2 => exact HC0.out); rintro e w22 ⟨rfl, hb⟩; replace BK628 := up BK628 hb; replace BK629 := up BK629 hb; replace BK630 := up BK630 hb; replace HB := bs HB hb; (try clear hb); (try clear hb2); (try clear hk); (try clear hi); have hcz23_0 := b0 BK628; have hcz23_1 := b1 BK628; have hcz23_2 := b2 BK628; have hfz23_0 := fz BK628 0; have hfz23_1 := fz BK628 1; have hfz23_2 := fz BK628 2) | (go_at_call 68; (with_reducible refine (impl_in.calls a1_1 0 12000 t633 _ A17.out).mono ?_); rintro e w' ⟨rfl, ⟨nd, rfl⟩⟩))
        go_meet
        case rel => exact ⟨_, (!t633), (by first | rfl | (simp; done) | (simp [*]; done)), H', ⟨by first | omega | exact Nat.le_refl _⟩, (bk BK628), (bk BK629), (bk BK630), (hbw HB)⟩
    · replace c9 := Bool.eq_false_iff.mpr c9
      subst c9
      have H1 : (impl_RecGo.j0 k l0 true a1_0 a1_1 a1_2 a2_0 a2_1) = some (r1, r2, r3, r4) := by rw [if_neg (show ¬ (false = true) by decide)] at H; exact H
      clear H
      have H := H1
      clear H1
      have H' := Aside0.mk H
      clear H
      go_wp2_with (first | ((with_reducible refine gate_callee (f := 36) rfl ?_); refine goesL_ (some 13) rfl rfl Try.func36 (by kernel_rfl) rfl #[.slice A0 l0.length c0] rfl mxp ?_; (with_reducible refine (impl_RecOk.calls k _ _ l0 false _ ?side1 ?side2 A8.out).mono ?_); (case side1 => exact cx (Kd.C_below HR0.out HB.out)); (case side2 => exact HC0.out); rintro e w24 ⟨rfl, hb⟩; refine ⟨_, rfl, ?_⟩; replace BK628 := up BK628 hb; replace BK629 := up BK629 hb; replace BK630 := up BK630 hb; replace HB := bs HB hb; (try clear hb); (try clear hb2); (try clear hk); (try clear hi)))
      go_meet
      case rel => exact ⟨_, (true), (by first | rfl | (simp; done) | (simp [*]; done)), H', ⟨by first | omega | exact Nat.le_refl _⟩, (bk BK628), (bk BK629), (bk BK630), (hbw HB)⟩
  case rest =>
    clear HC4
    try clear c1
    try clear c2
    try clear p2
    try clear c3
    try clear c9
    try clear c11
    try clear c11b0
    try clear c13
    try clear c14
    try clear c19
    try clear c20
    try clear hcz15_0
    try clear hcz15_1
    try clear hcz15_2
    try clear hcz21_0
    try clear hcz21_1
    try clear hcz21_2
    try clear hcz23_0
    try clear hcz23_1
    try clear hcz23_2
    try clear hfz15_0
    try clear hfz15_1
    try clear hfz15_2
    try clear hfz21_0
    try clear hfz21_1
    try clear hfz21_2
    try clear hfz23_0
    try clear hfz23_1
    try clear hfz23_2
    obtain ⟨kq, x27_3, rfl, HA, HJ3, BK628, BK629, BK630, HB⟩ := hcut
    cases kq with
    | zero => exact absurd HA.out (by simp [impl_RecGo.j0])
    | succ kj3 =>
      have H := HA.out
      clear HA
      simp only [impl_RecGo.j0] at H
      by_cases c25 : x27_3 = true
      · subst c25
        have H1 : (some (a1_0, a1_1, a1_2, false)) = some (r1, r2, r3, r4) := by rw [if_pos rfl] at H; exact H
        clear H
        have H := H1
        clear H1
        simp only [Option.some.injEq, Prod.mk.injEq] at H
        obtain ⟨rfl, rfl, rfl, rfl⟩ := H
        have hnb26 := NB628_629.out
        have hnc26 := NB629_628.out
        have hnb27 := NB628_630.out
        have hnc27 := NB630_628.out
        have hcz28_0 := b0 BK628
        have hcz28_1 := b1 BK628
        have hcz28_2 := b2 BK628
        have hfz28_0 := fz BK628 0
        have hfz28_1 := fz BK628 1
        have hfz28_2 := fz BK628 2
        have hnb29 := NB630_629.out
        have hnc29 := NB629_630.out
        have hcz30_0 := b0 BK630
        have hcz30_1 := b1 BK630
        have hcz30_2 := b2 BK630
        have hfz30_0 := fz BK630 0
        have hfz30_1 := fz BK630 1
        have hfz30_2 := fz BK630 2
        go_wp2
        refine bodyPost_ret (results_ct rfl _ _ gb630 31 #[.string a1_0, .int .i64 a1_1, .int .i64 a1_2] (0, 0) _ rfl (by refine bx ?_; refine blk_put (cs := #[.string a1_0, .int .i64 a1_1, .int .i64 0]) ?_ 2 _ rfl; refine bx ?_; refine blk_put (cs := #[.string a1_0, .int .i64 0, .int .i64 0]) ?_ 1 _ rfl; refine bx ?_; refine blk_put (cs := #[.string (⟨#[]⟩ : ByteArray), .int .i64 0, .int .i64 0]) ?_ 0 _ rfl; refine bx ?_; exact BK630.out) Try.underlying31 rfl (by kernel_rfl)) rfl ?_
        exact ⟨exq, bw HB.out⟩
      · replace c25 := Bool.eq_false_iff.mpr c25
        subst c25
        have H1 : ((impl_at.f l0 a1_0).bind fun t634 => (if 0 ≤ t634 then (if t634 < (l0.length : Int) then (if (mx a2_0 0) > ((rd_T39 l0 t634).f5) then (impl_RecGo.j1 kj3 l0 ((rd_T39 l0 t634).f5) false a1_0 a1_1 a1_2 ((rd_T39 l0 t634).f0) ((rd_T39 l0 t634).f1) ((rd_T39 l0 t634).f2) ((rd_T39 l0 t634).f3) ((rd_T39 l0 t634).f4) ((rd_T39 l0 t634).f5) ((rd_T39 l0 t634).f6) ((rd_T39 l0 t634).f7)) else (impl_RecGo.j1 kj3 l0 (mx a2_0 0) a2_1 a1_0 a1_1 a1_2 ((rd_T39 l0 t634).f0) ((rd_T39 l0 t634).f1) ((rd_T39 l0 t634).f2) ((rd_T39 l0 t634).f3) ((rd_T39 l0 t634).f4) ((rd_T39 l0 t634).f5) ((rd_T39 l0 t634).f6) ((rd_T39 l0 t634).f7))) else (none)) else (none))) = some (r1, r2, r3, r4) := by rw [if_neg (show ¬ (false = true) by decide)] at H; exact H
        clear H
        have H := H1
        clear H1
        replace H := Option.bind_eq_some_iff.mp H
        obtain ⟨t634, A310, H⟩ := H
        replace H : (if 0 ≤ t634 then (if t634 < (l0.length : Int) then (if (mx a2_0 0) > ((rd_T39 l0 t634).f5) then (impl_RecGo.j1 kj3 l0 ((rd_T39 l0 t634).f5) false a1_0 a1_1 a1_2 ((rd_T39 l0 t634).f0) ((rd_T39 l0 t634).f1) ((rd_T39 l0 t634).f2) ((rd_T39 l0 t634).f3) ((rd_T39 l0 t634).f4) ((rd_T39 l0 t634).f5) ((rd_T39 l0 t634).f6) ((rd_T39 l0 t634).f7)) else (impl_RecGo.j1 kj3 l0 (mx a2_0 0) a2_1 a1_0 a1_1 a1_2 ((rd_T39 l0 t634).f0) ((rd_T39 l0 t634).f1) ((rd_T39 l0 t634).f2) ((rd_T39 l0 t634).f3) ((rd_T39 l0 t634).f4) ((rd_T39 l0 t634).f5) ((rd_T39 l0 t634).f6) ((rd_T39 l0 t634).f7))) else (none)) else (none)) = some (r1, r2, r3, r4) := H
        have A31 := Aside0.mk A310
        clear A310
        by_cases c32 : 0 ≤ t634
        · rw [if_pos c32] at H
          have c32b0 : decide (0 ≤ t634) = true := decide_eq_true c32
          clear c32
          by_cases c33 : t634 < (l0.length : Int)
          · rw [if_pos c33] at H
            have c33b0 : decide (t634 < (l0.length : Int)) = true := decide_eq_true c33
            clear c33
            obtain ⟨ji34, hji34⟩ : ∃ j_ : Int, (mx a2_0 0) = j_ := ⟨_, rfl⟩
            replace H : (if (ji34) > ((rd_T39 l0 t634).f5) then (impl_RecGo.j1 kj3 l0 ((rd_T39 l0 t634).f5) false a1_0 a1_1 a1_2 ((rd_T39 l0 t634).f0) ((rd_T39 l0 t634).f1) ((rd_T39 l0 t634).f2) ((rd_T39 l0 t634).f3) ((rd_T39 l0 t634).f4) ((rd_T39 l0 t634).f5) ((rd_T39 l0 t634).f6) ((rd_T39 l0 t634).f7)) else (impl_RecGo.j1 kj3 l0 ji34 a2_1 a1_0 a1_1 a1_2 ((rd_T39 l0 t634).f0) ((rd_T39 l0 t634).f1) ((rd_T39 l0 t634).f2) ((rd_T39 l0 t634).f3) ((rd_T39 l0 t634).f4) ((rd_T39 l0 t634).f5) ((rd_T39 l0 t634).f6) ((rd_T39 l0 t634).f7))) = some (r1, r2, r3, r4) := by first | (rw [hji34] at H; exact H) | (simp only [hji34] at H ⊢; exact H)
            (try rw [hji34] at A31)
            have hji34_ : (if a2_0 < 0 then 0 else a2_0) = ji34 := hji34
            have HC35 := Aside0.mk H
            clear H
            have hnb36 := NB628_629.out
            have hnc36 := NB629_628.out
            have hnb37 := NB628_630.out
            have hnc37 := NB630_628.out
            have hcz38_0 := b0 BK628
            have hcz38_1 := b1 BK628
            have hcz38_2 := b2 BK628
            have hfz38_0 := fz BK628 0
            have hfz38_1 := fz BK628 1
            have hfz38_2 := fz BK628 2
            try go_wp2_with (first | ((with_reducible refine gate_callee (f := 69) rfl ?_); refine goesL_ (some 33) rfl rfl Try.func69 (by kernel_rfl) rfl #[.slice A0 l0.length c0, .string a1_0] rfl mxp ?_; (with_reducible refine (impl_at.calls _ _ l0 a1_0 t634 _ ?side1 ?side2 A31.out).mono ?_); (case side1 => exact cx (Kd.C_below HR0.out HB.out)); (case side2 => exact HC0.out); rintro e w39 ⟨rfl, hb⟩; refine ⟨_, rfl, ?_⟩; replace BK628 := up BK628 hb; replace BK629 := up BK629 hb; replace BK630 := up BK630 hb; replace HB := bs HB hb; (try clear hb); (try clear hb2); (try clear hk); (try clear hi); have p635 : 0 ≤ (t634 : Int) := of_decide_eq_true (by first | (with_reducible assumption) | assumption); have q635 : t634 < (l0.length : Int) := of_decide_eq_true (by first | (with_reducible assumption) | assumption); obtain ⟨ad635, e635, hx635_0, hx635_1, hx635_2, hx635_3, hx635_4, hx635_5, hx635_6, hx635_7⟩ := at_T39 HR0.out t634 p635 q635; cases e635; replace hx635_0 := bcl HB hx635_0; replace hx635_1 := bcl HB hx635_1; replace hx635_2 := bcl HB hx635_2; replace hx635_3 := bcl HB hx635_3; replace hx635_4 := bcl HB hx635_4; replace hx635_5 := bcl HB hx635_5; replace hx635_6 := bcl HB hx635_6; replace hx635_7 := bcl HB hx635_7; replace p635 := eq_true p635; replace q635 := eq_true q635) | ((with_reducible refine gate_dst (N := 8) rfl ?_); refine box_event ?hg (N := 8) ?hd (cs := #[.string (⟨#[]⟩ : ByteArray), .int .i64 0, .string (⟨#[]⟩ : ByteArray), .string (⟨#[]⟩ : ByteArray), .int .i64 0, .int .i64 0, .string (⟨#[]⟩ : ByteArray), .string (⟨#[]⟩ : ByteArray)]) (t := 39) ?hr ?_; (case hd => rfl); (case hg => rfl); (case hr => first | (go_simp; done) | (go_simp; rfl)); intro gb636 hg w40 hbox hb; have n0_ := up BK628 hb; have n1_ := up BK629 hb; have n2_ := up BK630 hb; have n3_ := bs HB hb; have n4_ := Aside0.mk (hbox); have n5_ := Aside0.mk ((by rw [hg]; exact (below_size (bw HB.out)) : w.heap.size ≤ gb636)); have n6_ := Aside0.mk ((by rw [hg]; exact (below_size (bw HB.out)) : w.heap.size ≤ gb636)); have n7_ := Aside0.mk ((by rw [hg]; exact Nat.ne_of_lt (blk_lt (g := gb628) (o := .cells #[.string a1_0, .int .i64 a1_1, .int .i64 a1_2] 31 (0, 0)) (bx BK628.out)) : gb628 ≠ gb636)); have n8_ := Aside0.mk ((by rw [hg]; exact Nat.ne_of_gt (blk_lt (g := gb628) (o := .cells #[.string a1_0, .int .i64 a1_1, .int .i64 a1_2] 31 (0, 0)) (bx BK628.out)) : gb636 ≠ gb628)); have n9_ := Aside0.mk ((by rw [hg]; exact Nat.ne_of_lt (blk_lt (g := gb629) (o := .cells #[.int .i64 a2_0, .bool a2_1] 43 (0, 0)) (bx BK629.out)) : gb629 ≠ gb636)); have n10_ := Aside0.mk ((by rw [hg]; exact Nat.ne_of_gt (blk_lt (g := gb629) (o := .cells #[.int .i64 a2_0, .bool a2_1] 43 (0, 0)) (bx BK629.out)) : gb636 ≠ gb629)); have n11_ := Aside0.mk ((by rw [hg]; exact Nat.ne_of_lt (blk_lt (g := gb630) (o := .cells #[.string (⟨#[]⟩ : ByteArray), .int .i64 0, .int .i64 0] 31 (0, 0)) (bx BK630.out)) : gb630 ≠ gb636)); have n12_ := Aside0.mk ((by rw [hg]; exact Nat.ne_of_gt (blk_lt (g := gb630) (o := .cells #[.string (⟨#[]⟩ : ByteArray), .int .i64 0, .int .i64 0] 31 (0, 0)) (bx BK630.out)) : gb636 ≠ gb630)); clear BK628; clear BK629; clear BK630; clear HB; have BK628 := n0_; have BK629 := n1_; have BK630 := n2_; have HB := n3_; have BK636 := n4_; have GW636 := n5_; have GE636 := n6_; have NB628_636 := n7_; have NB636_628 := n8_; have NB629_636 := n9_; have NB636_629 := n10_; have NB630_636 := n11_; have NB636_630 := n12_; clear n0_ n1_ n2_ n3_ n4_ n5_ n6_ n7_ n8_ n9_ n10_ n11_ n12_; clear hb hbox hg; have hnb41 := NB636_628.out; have hnc41 := NB628_636.out; have hnb42 := NB636_629.out; have hnc42 := NB629_636.out; have hnb43 := NB636_630.out; have hnc43 := NB630_636.out; have hcz44_0 := b0 BK636; have hcz44_1 := b1 BK636; have hcz44_2 := b2 BK636; have hcz44_3 := b3 BK636; have hcz44_4 := b4 BK636; have hcz44_5 := b5 BK636; have hcz44_6 := b6 BK636; have hcz44_7 := b7 BK636; have hfz44_0 := fz BK636 0; have hfz44_1 := fz BK636 1; have hfz44_2 := fz BK636 2; have hfz44_3 := fz BK636 3; have hfz44_4 := fz BK636 4; have hfz44_5 := fz BK636 5; have hfz44_6 := fz BK636 6; have hfz44_7 := fz BK636 7))
            have n0_ : Aside0 (((((((((w40.setCell ⟨gb636, 0, none⟩ (.string ((rd_T39 l0 t634).f0))).setCell ⟨gb636, 1, none⟩ (.int .i64 ((rd_T39 l0 t634).f1))).setCell ⟨gb636, 2, none⟩ (.string ((rd_T39 l0 t634).f2))).setCell ⟨gb636, 3, none⟩ (.string ((rd_T39 l0 t634).f3))).setCell ⟨gb636, 4, none⟩ (.int .i64 ((rd_T39 l0 t634).f4))).setCell ⟨gb636, 5, none⟩ (.int .i64 ((rd_T39 l0 t634).f5))).setCell ⟨gb636, 6, none⟩ (.string ((rd_T39 l0 t634).f6))).setCell ⟨gb636, 7, none⟩ (.string ((rd_T39 l0 t634).f7))).heap[gb628]? = some (.cells #[.string a1_0, .int .i64 a1_1, .int .i64 a1_2] 31 (0, 0))) := ⟨by refine bx ?_; refine blk_far ?_ NB628_636.out _; refine bx ?_; refine blk_far ?_ NB628_636.out _; refine bx ?_; refine blk_far ?_ NB628_636.out _; refine bx ?_; refine blk_far ?_ NB628_636.out _; refine bx ?_; refine blk_far ?_ NB628_636.out _; refine bx ?_; refine blk_far ?_ NB628_636.out _; refine bx ?_; refine blk_far ?_ NB628_636.out _; refine bx ?_; refine blk_far ?_ NB628_636.out _; refine bx ?_; exact BK628.out⟩
            have n1_ : Aside0 (((((((((w40.setCell ⟨gb636, 0, none⟩ (.string ((rd_T39 l0 t634).f0))).setCell ⟨gb636, 1, none⟩ (.int .i64 ((rd_T39 l0 t634).f1))).setCell ⟨gb636, 2, none⟩ (.string ((rd_T39 l0 t634).f2))).setCell ⟨gb636, 3, none⟩ (.string ((rd_T39 l0 t634).f3))).setCell ⟨gb636, 4, none⟩ (.int .i64 ((rd_T39 l0 t634).f4))).setCell ⟨gb636, 5, none⟩ (.int .i64 ((rd_T39 l0 t634).f5))).setCell ⟨gb636, 6, none⟩ (.string ((rd_T39 l0 t634).f6))).setCell ⟨gb636, 7, none⟩ (.string ((rd_T39 l0 t634).f7))).heap[gb629]? = some (.cells #[.int .i64 a2_0, .bool a2_1] 43 (0, 0))) := ⟨by refine bx ?_; refine blk_far ?_ NB629_636.out _; refine bx ?_; refine blk_far ?_ NB629_636.out _; refine bx ?_; refine blk_far ?_ NB629_636.out _; refine bx ?_; refine blk_far ?_ NB629_636.out _; refine bx ?_; refine blk_far ?_ NB629_636.out _; refine bx ?_; refine blk_far ?_ NB629_636.out _; refine bx ?_; refine blk_far ?_ NB629_636.out _; refine bx ?_; refine blk_far ?_ NB629_636.out _; refine bx ?_; exact BK629.out⟩
            have n2_ : Aside0 (((((((((w40.setCell ⟨gb636, 0, none⟩ (.string ((rd_T39 l0 t634).f0))).setCell ⟨gb636, 1, none⟩ (.int .i64 ((rd_T39 l0 t634).f1))).setCell ⟨gb636, 2, none⟩ (.string ((rd_T39 l0 t634).f2))).setCell ⟨gb636, 3, none⟩ (.string ((rd_T39 l0 t634).f3))).setCell ⟨gb636, 4, none⟩ (.int .i64 ((rd_T39 l0 t634).f4))).setCell ⟨gb636, 5, none⟩ (.int .i64 ((rd_T39 l0 t634).f5))).setCell ⟨gb636, 6, none⟩ (.string ((rd_T39 l0 t634).f6))).setCell ⟨gb636, 7, none⟩ (.string ((rd_T39 l0 t634).f7))).heap[gb630]? = some (.cells #[.string (⟨#[]⟩ : ByteArray), .int .i64 0, .int .i64 0] 31 (0, 0))) := ⟨by refine bx ?_; refine blk_far ?_ NB630_636.out _; refine bx ?_; refine blk_far ?_ NB630_636.out _; refine bx ?_; refine blk_far ?_ NB630_636.out _; refine bx ?_; refine blk_far ?_ NB630_636.out _; refine bx ?_; refine blk_far ?_ NB630_636.out _; refine bx ?_; refine blk_far ?_ NB630_636.out _; refine bx ?_; refine blk_far ?_ NB630_636.out _; refine bx ?_; refine blk_far ?_ NB630_636.out _; refine bx ?_; exact BK630.out⟩
            have n3_ : Aside0 (((((((((w40.setCell ⟨gb636, 0, none⟩ (.string ((rd_T39 l0 t634).f0))).setCell ⟨gb636, 1, none⟩ (.int .i64 ((rd_T39 l0 t634).f1))).setCell ⟨gb636, 2, none⟩ (.string ((rd_T39 l0 t634).f2))).setCell ⟨gb636, 3, none⟩ (.string ((rd_T39 l0 t634).f3))).setCell ⟨gb636, 4, none⟩ (.int .i64 ((rd_T39 l0 t634).f4))).setCell ⟨gb636, 5, none⟩ (.int .i64 ((rd_T39 l0 t634).f5))).setCell ⟨gb636, 6, none⟩ (.string ((rd_T39 l0 t634).f6))).setCell ⟨gb636, 7, none⟩ (.string ((rd_T39 l0 t634).f7))).heap[gb636]? = some (.cells #[.string ((rd_T39 l0 t634).f0), .int .i64 ((rd_T39 l0 t634).f1), .string ((rd_T39 l0 t634).f2), .string ((rd_T39 l0 t634).f3), .int .i64 ((rd_T39 l0 t634).f4), .int .i64 ((rd_T39 l0 t634).f5), .string ((rd_T39 l0 t634).f6), .string ((rd_T39 l0 t634).f7)] 39 (0, 0))) := ⟨by refine bx ?_; refine blk_put (cs := #[.string ((rd_T39 l0 t634).f0), .int .i64 ((rd_T39 l0 t634).f1), .string ((rd_T39 l0 t634).f2), .string ((rd_T39 l0 t634).f3), .int .i64 ((rd_T39 l0 t634).f4), .int .i64 ((rd_T39 l0 t634).f5), .string ((rd_T39 l0 t634).f6), .string (⟨#[]⟩ : ByteArray)]) ?_ 7 _ rfl; refine bx ?_; refine blk_put (cs := #[.string ((rd_T39 l0 t634).f0), .int .i64 ((rd_T39 l0 t634).f1), .string ((rd_T39 l0 t634).f2), .string ((rd_T39 l0 t634).f3), .int .i64 ((rd_T39 l0 t634).f4), .int .i64 ((rd_T39 l0 t634).f5), .string (⟨#[]⟩ : ByteArray), .string (⟨#[]⟩ : ByteArray)]) ?_ 6 _ rfl; refine bx ?_; refine blk_put (cs := #[.string ((rd_T39 l0 t634).f0), .int .i64 ((rd_T39 l0 t634).f1), .string ((rd_T39 l0 t634).f2), .string ((rd_T39 l0 t634).f3), .int .i64 ((rd_T39 l0 t634).f4), .int .i64 0, .string (⟨#[]⟩ : ByteArray), .string (⟨#[]⟩ : ByteArray)]) ?_ 5 _ rfl; refine bx ?_; refine blk_put (cs := #[.string ((rd_T39 l0 t634).f0), .int .i64 ((rd_T39 l0 t634).f1), .string ((rd_T39 l0 t634).f2), .string ((rd_T39 l0 t634).f3), .int .i64 0, .int .i64 0, .string (⟨#[]⟩ : ByteArray), .string (⟨#[]⟩ : ByteArray)]) ?_ 4 _ rfl; refine bx ?_; refine blk_put (cs := #[.string ((rd_T39 l0 t634).f0), .int .i64 ((rd_T39 l0 t634).f1), .string ((rd_T39 l0 t634).f2), .string (⟨#[]⟩ : ByteArray), .int .i64 0, .int .i64 0, .string (⟨#[]⟩ : ByteArray), .string (⟨#[]⟩ : ByteArray)]) ?_ 3 _ rfl; refine bx ?_; refine blk_put (cs := #[.string ((rd_T39 l0 t634).f0), .int .i64 ((rd_T39 l0 t634).f1), .string (⟨#[]⟩ : ByteArray), .string (⟨#[]⟩ : ByteArray), .int .i64 0, .int .i64 0, .string (⟨#[]⟩ : ByteArray), .string (⟨#[]⟩ : ByteArray)]) ?_ 2 _ rfl; refine bx ?_; refine blk_put (cs := #[.string ((rd_T39 l0 t634).f0), .int .i64 0, .string (⟨#[]⟩ : ByteArray), .string (⟨#[]⟩ : ByteArray), .int .i64 0, .int .i64 0, .string (⟨#[]⟩ : ByteArray), .string (⟨#[]⟩ : ByteArray)]) ?_ 1 _ rfl; refine bx ?_; refine blk_put (cs := #[.string (⟨#[]⟩ : ByteArray), .int .i64 0, .string (⟨#[]⟩ : ByteArray), .string (⟨#[]⟩ : ByteArray), .int .i64 0, .int .i64 0, .string (⟨#[]⟩ : ByteArray), .string (⟨#[]⟩ : ByteArray)]) ?_ 0 _ rfl; refine bx ?_; exact BK636.out⟩
            have n4_ : Aside0 (Below w.heap.size w ((((((((w40.setCell ⟨gb636, 0, none⟩ (.string ((rd_T39 l0 t634).f0))).setCell ⟨gb636, 1, none⟩ (.int .i64 ((rd_T39 l0 t634).f1))).setCell ⟨gb636, 2, none⟩ (.string ((rd_T39 l0 t634).f2))).setCell ⟨gb636, 3, none⟩ (.string ((rd_T39 l0 t634).f3))).setCell ⟨gb636, 4, none⟩ (.int .i64 ((rd_T39 l0 t634).f4))).setCell ⟨gb636, 5, none⟩ (.int .i64 ((rd_T39 l0 t634).f5))).setCell ⟨gb636, 6, none⟩ (.string ((rd_T39 l0 t634).f6))).setCell ⟨gb636, 7, none⟩ (.string ((rd_T39 l0 t634).f7)))) := (hbw HB)
            (try clear BK628)
            (try clear BK629)
            (try clear BK630)
            (try clear BK636)
            (try clear HB)
            generalize ((((((((w40.setCell ⟨gb636, 0, none⟩ (.string ((rd_T39 l0 t634).f0))).setCell ⟨gb636, 1, none⟩ (.int .i64 ((rd_T39 l0 t634).f1))).setCell ⟨gb636, 2, none⟩ (.string ((rd_T39 l0 t634).f2))).setCell ⟨gb636, 3, none⟩ (.string ((rd_T39 l0 t634).f3))).setCell ⟨gb636, 4, none⟩ (.int .i64 ((rd_T39 l0 t634).f4))).setCell ⟨gb636, 5, none⟩ (.int .i64 ((rd_T39 l0 t634).f5))).setCell ⟨gb636, 6, none⟩ (.string ((rd_T39 l0 t634).f6))).setCell ⟨gb636, 7, none⟩ (.string ((rd_T39 l0 t634).f7))) = w45 at n0_ n1_ n2_ n3_ n4_ ⊢
            have BK628 := n0_
            have BK629 := n1_
            have BK630 := n2_
            have BK636 := n3_
            have HB := n4_
            clear n0_ n1_ n2_ n3_ n4_
            have n0_ := Aside0.mk (blk_drew BK628.out)
            have n1_ := Aside0.mk (blk_drew BK629.out)
            have n2_ := Aside0.mk (blk_drew BK630.out)
            have n3_ := Aside0.mk (blk_drew BK636.out)
            have n4_ := Aside0.mk (below_drew1 HB.out)
            clear BK628
            clear BK629
            clear BK630
            clear BK636
            clear HB
            have BK628 := n0_
            have BK629 := n1_
            have BK630 := n2_
            have BK636 := n3_
            have HB := n4_
            clear n0_ n1_ n2_ n3_ n4_
            refine start_ (n := 7) (S := fun w' => w'.cell? ⟨gb629, 0, none⟩ = some (.int .i64 a2_0) ∧ w'.cell? ⟨gb629, 1, none⟩ = some (.bool a2_1)) (ds := []) #[false, false, false, false, false, false, false] (by kernel_rfl) rfl rfl ⟨(blk_cell BK629.out 0).trans rfl, (blk_cell BK629.out 1).trans rfl⟩ (fun hHeld => ?_)
            generalize w45.drew = w46 at BK628 BK629 BK630 BK636 HB hHeld ⊢
            refine pure_ (i := 0) (N := some 36) (v := ?_) (a' := ?_) #[true, false, false, false, false, false, false] rfl rfl (by kernel_rfl) (fun _ _ _ h => h) (Or.inl ⟨by rfl, ?_⟩) ?_ ?_
            rotate_left
            · intro w'
              go_simp
              with_reducible rfl
            rotate_left
            · simp only [Act.put, List.setIfInBounds_toArray, List.set_cons_zero, List.set_cons_succ, i64_w, i32_w]
              rfl
            refine pure_ (i := 3) (N := some 39) (v := ?_) (a' := ?_) #[true, false, false, true, false, false, false] rfl rfl (by kernel_rfl) (fun _ _ _ h => h) (Or.inl ⟨by rfl, ?_⟩) ?_ ?_
            rotate_left
            · intro w'
              go_simp
              with_reducible rfl
            rotate_left
            · simp only [Act.put, List.setIfInBounds_toArray, List.set_cons_zero, List.set_cons_succ, i64_w, i32_w]
              rfl
            refine take_ (i := 1) (N := some 37) (v := ?_) (a' := ?_) #[true, true, false, true, false, false, false] rfl rfl (by kernel_rfl) (fun _ _ _ h => h) (Or.inl ⟨by rfl, ?_⟩) hHeld ?_ ?_
            rotate_left
            · rintro w' ⟨s0, s1⟩
              go_simp
              with_reducible rfl
            rotate_left
            · simp only [Act.put, List.setIfInBounds_toArray, List.set_cons_zero, List.set_cons_succ, i64_w, i32_w]
              rfl
            refine pure_ (i := 2) (N := some 38) (v := ?_) (a' := ?_) #[true, true, true, true, false, false, false] rfl rfl (by kernel_rfl) (fun _ _ _ h => h) (Or.inl ⟨by rfl, ?_⟩) ?_ ?_
            rotate_left
            · intro w'
              go_simp
              with_reducible rfl
            rotate_left
            · simp only [Act.put, List.setIfInBounds_toArray, List.set_cons_zero, List.set_cons_succ, i64_w, i32_w]
              rfl
            refine pure_ (i := 5) (N := some 9) (v := ?_) (a' := ?_) #[true, true, true, true, false, true, false] rfl rfl (by kernel_rfl) (fun _ _ _ h => h) (Or.inl ⟨by rfl, ?_⟩) ?_ ?_
            rotate_left
            · intro w'
              go_simp
              with_reducible rfl
            rotate_left
            · simp only [Act.put, List.setIfInBounds_toArray, List.set_cons_zero, List.set_cons_succ, i64_w, i32_w]
              rfl
            refine take_ (i := 4) (N := some 40) (v := ?_) (a' := ?_) #[true, true, true, true, true, true, false] rfl rfl (by kernel_rfl) (fun _ _ _ h => h) (Or.inl ⟨by rfl, ?_⟩) hHeld ?_ ?_
            rotate_left
            · rintro w' ⟨s0, s1⟩
              go_simp
              with_reducible rfl
            rotate_left
            · simp only [Act.put, List.setIfInBounds_toArray, List.set_cons_zero, List.set_cons_succ, i64_w, i32_w]
              rfl
            refine pure_ (i := 6) (N := some 10) (v := ?_) (a' := ?_) #[true, true, true, true, true, true, true] rfl rfl (by kernel_rfl) (fun _ _ _ h => h) (Or.inl ⟨by rfl, ?_⟩) ?_ ?_
            rotate_left
            · intro w'
              go_simp
              with_reducible rfl
            rotate_left
            · simp only [Act.put, List.setIfInBounds_toArray, List.set_cons_zero, List.set_cons_succ, i64_w, i32_w]
              rfl
            refine done_ (by kernel_rfl) ?_
            have hcz47_0 := b0 BK636
            have hcz47_1 := b1 BK636
            have hcz47_2 := b2 BK636
            have hcz47_3 := b3 BK636
            have hcz47_4 := b4 BK636
            have hcz47_5 := b5 BK636
            have hcz47_6 := b6 BK636
            have hcz47_7 := b7 BK636
            have hfz47_0 := fz BK636 0
            have hfz47_1 := fz BK636 1
            have hfz47_2 := fz BK636 2
            have hfz47_3 := fz BK636 3
            have hfz47_4 := fz BK636 4
            have hfz47_5 := fz BK636 5
            have hfz47_6 := fz BK636 6
            have hfz47_7 := fz BK636 7
            go_upto_if 44 with (fail)
            go_cut [9, 10] (fun v9 v10 wc => ∃ (kq : Nat) (x9_34 : Int) (x10_34 : Bool), v9 = .int .i64 x9_34 ∧ v10 = .bool x10_34 ∧ Aside0 (impl_RecGo.j1 kq l0 x9_34 x10_34 a1_0 a1_1 a1_2 ((rd_T39 l0 t634).f0) ((rd_T39 l0 t634).f1) ((rd_T39 l0 t634).f2) ((rd_T39 l0 t634).f3) ((rd_T39 l0 t634).f4) ((rd_T39 l0 t634).f5) ((rd_T39 l0 t634).f6) ((rd_T39 l0 t634).f7) = some (r1, r2, r3, r4)) ∧ Aside0 (kq ≤ kj3) ∧ Aside0 (wc.heap[gb628]? = some (.cells #[.string a1_0, .int .i64 a1_1, .int .i64 a1_2] 31 (0, 0))) ∧ Aside0 (wc.heap[gb629]? = some (.cells #[.int .i64 a2_0, .bool a2_1] 43 (0, 0))) ∧ Aside0 (wc.heap[gb630]? = some (.cells #[.string (⟨#[]⟩ : ByteArray), .int .i64 0, .int .i64 0] 31 (0, 0))) ∧ Aside0 (wc.heap[gb636]? = some (.cells #[.string ((rd_T39 l0 t634).f0), .int .i64 ((rd_T39 l0 t634).f1), .string ((rd_T39 l0 t634).f2), .string ((rd_T39 l0 t634).f3), .int .i64 ((rd_T39 l0 t634).f4), .int .i64 ((rd_T39 l0 t634).f5), .string ((rd_T39 l0 t634).f6), .string ((rd_T39 l0 t634).f7)] 39 (0, 0))) ∧ Aside0 (Below w.heap.size w wc))
            case first =>
              have H := HC35.out
              clear HC35
              by_cases c48 : (ji34) > ((rd_T39 l0 t634).f5)
              · rw [if_pos c48] at H
                have c48b0 : decide (((rd_T39 l0 t634).f5) < (ji34)) = true := decide_eq_true c48
                clear c48
                (first | rw [c48b0] | (simp only [i64_w, i32_w]; rw [c48b0]) | skip)
                have H' := Aside0.mk H
                clear H
                have hnb49 := NB636_628.out
                have hnc49 := NB628_636.out
                have hnb50 := NB636_629.out
                have hnc50 := NB629_636.out
                have hnb51 := NB636_630.out
                have hnc51 := NB630_636.out
                have hcz52_0 := b0 BK636
                have hcz52_1 := b1 BK636
                have hcz52_2 := b2 BK636
                have hcz52_3 := b3 BK636
                have hcz52_4 := b4 BK636
                have hcz52_5 := b5 BK636
                have hcz52_6 := b6 BK636
                have hcz52_7 := b7 BK636
                have hfz52_0 := fz BK636 0
                have hfz52_1 := fz BK636 1
                have hfz52_2 := fz BK636 2
                have hfz52_3 := fz BK636 3
                have hfz52_4 := fz BK636 4
                have hfz52_5 := fz BK636 5
                have hfz52_6 := fz BK636 6
                have hfz52_7 := fz BK636 7
                go_wp2
                go_meet
                case rel => exact ⟨_, ((rd_T39 l0 t634).f5), (false), (by first | rfl | (simp; done) | (simp [*]; done)), (by first | rfl | (simp; done) | (simp [*]; done)), H', ⟨by have := HJ3.out; first | omega | exact Nat.le_refl _⟩, (bk BK628), (bk BK629), (bk BK630), (bk BK636), (hbw HB)⟩
              · rw [if_neg c48] at H
                have c48b0 : decide (((rd_T39 l0 t634).f5) < (ji34)) = false := decide_eq_false c48
                clear c48
                (first | rw [c48b0] | (simp only [i64_w, i32_w]; rw [c48b0]) | skip)
                have H' := Aside0.mk H
                clear H
                go_wp2
                go_meet
                case rel => exact ⟨_, (ji34), (a2_1), (by first | rfl | (simp; done) | (simp only [← hji34] <;> (first | rfl | simp)) | (simp [*]; done)), (by first | rfl | (simp; done) | (simp [*]; done)), H', ⟨by have := HJ3.out; first | omega | exact Nat.le_refl _⟩, (bk BK628), (bk BK629), (bk BK630), (bk BK636), (hbw HB)⟩
            case rest =>
              clear HC35
              try clear c1
              try clear c2
              try clear p2
              try clear c3
              try clear c4
              try clear c5
              try clear c6
              try clear p6
              try clear q6
              try clear hx6
              try clear c9
              try clear c11
              try clear c11b0
              try clear c13
              try clear c14
              try clear c19
              try clear c20
              try clear c25
              try clear c26
              try clear c27
              try clear c28
              try clear c29
              try clear c32
              try clear c32b0
              try clear c33
              try clear c33b0
              try clear c36
              try clear c37
              try clear c41
              try clear c42
              try clear c43
              try clear c48
              try clear c48b0
              try clear c49
              try clear c50
              try clear c51
              try clear hcz15_0
              try clear hcz15_1
              try clear hcz15_2
              try clear hcz21_0
              try clear hcz21_1
              try clear hcz21_2
              try clear hcz23_0
              try clear hcz23_1
              try clear hcz23_2
              try clear hcz28_0
              try clear hcz28_1
              try clear hcz28_2
              try clear hcz30_0
              try clear hcz30_1
              try clear hcz30_2
              try clear hcz38_0
              try clear hcz38_1
              try clear hcz38_2
              try clear hcz44_0
              try clear hcz44_1
              try clear hcz44_2
              try clear hcz44_3
              try clear hcz44_4
              try clear hcz44_5
              try clear hcz44_6
              try clear hcz44_7
              try clear hcz47_0
              try clear hcz47_1
              try clear hcz47_2
              try clear hcz47_3
              try clear hcz47_4
              try clear hcz47_5
              try clear hcz47_6
              try clear hcz47_7
              try clear hcz52_0
              try clear hcz52_1
              try clear hcz52_2
              try clear hcz52_3
              try clear hcz52_4
              try clear hcz52_5
              try clear hcz52_6
              try clear hcz52_7
              try clear hfz15_0
              try clear hfz15_1
              try clear hfz15_2
              try clear hfz21_0
              try clear hfz21_1
              try clear hfz21_2
              try clear hfz23_0
              try clear hfz23_1
              try clear hfz23_2
              try clear hfz28_0
              try clear hfz28_1
              try clear hfz28_2
              try clear hfz30_0
              try clear hfz30_1
              try clear hfz30_2
              try clear hfz38_0
              try clear hfz38_1
              try clear hfz38_2
              try clear hfz44_0
              try clear hfz44_1
              try clear hfz44_2
              try clear hfz44_3
              try clear hfz44_4
              try clear hfz44_5
              try clear hfz44_6
              try clear hfz44_7
              try clear hfz47_0
              try clear hfz47_1
              try clear hfz47_2
              try clear hfz47_3
              try clear hfz47_4
              try clear hfz47_5
              try clear hfz47_6
              try clear hfz47_7
              try clear hfz52_0
              try clear hfz52_1
              try clear hfz52_2
              try clear hfz52_3
              try clear hfz52_4
              try clear hfz52_5
              try clear hfz52_6
              try clear hfz52_7
              try clear hx635_0
              try clear hx635_1
              try clear hx635_2
              try clear hx635_3
              try clear hx635_4
              try clear hx635_5
              try clear hx635_6
              try clear hx635_7
              try clear p2
              try clear p635
              try clear q635
              obtain ⟨kq, x9_34, x10_34, rfl, rfl, HA, HJ34, BK628, BK629, BK630, BK636, HB⟩ := hcut
              cases kq with
              | zero => exact absurd HA.out (by simp [impl_RecGo.j1])
              | succ kj34 =>
                have H := HA.out
                clear HA
                simp only [impl_RecGo.j1] at H
                by_cases c53 : x10_34 = true
                · subst c53
                  have H1 : (if ((rd_T39 l0 t634).f1) = 3 then ((impl_bound.f kj34 l0 ((rd_T39 l0 t634).f6)).bind fun t637 => (some (((rd_T39 l0 t634).f6), wrap64 (a1_1 + (mx x9_34 ((rd_T39 l0 t634).f4))), t637, true))) else ((impl_bound.f kj34 l0 ((rd_T39 l0 t634).f6)).bind fun t638 => (some (((rd_T39 l0 t634).f6), wrap64 (a1_1 + x9_34), t638, true)))) = some (r1, r2, r3, r4) := by rw [if_pos rfl] at H; exact H
                  clear H
                  have H := H1
                  clear H1
                  by_cases c54 : ((rd_T39 l0 t634).f1) = 3
                  · rw [if_pos c54] at H
                    have c54b0 : (((rd_T39 l0 t634).f1) == 3) = true := beq_iff_eq.mpr c54
                    have c54b1 : (((rd_T39 l0 t634).f1) != 3) = false := bne_eq_false_iff_eq.mpr c54
                    clear c54
                    obtain ⟨ji55, hji55⟩ : ∃ j_ : Int, (mx x9_34 ((rd_T39 l0 t634).f4)) = j_ := ⟨_, rfl⟩
                    replace H : ((impl_bound.f kj34 l0 ((rd_T39 l0 t634).f6)).bind fun t637 => (some (((rd_T39 l0 t634).f6), wrap64 (a1_1 + (ji55)), t637, true))) = some (r1, r2, r3, r4) := by first | (rw [hji55] at H; exact H) | (simp only [hji55] at H ⊢; exact H)
                    have hji55_ : (if x9_34 < ((rd_T39 l0 t634).f4) then ((rd_T39 l0 t634).f4) else x9_34) = ji55 := hji55
                    replace H := Option.bind_eq_some_iff.mp H
                    obtain ⟨t637, A560, H⟩ := H
                    replace H : (some (((rd_T39 l0 t634).f6), wrap64 (a1_1 + (ji55)), t637, true)) = some (r1, r2, r3, r4) := H
                    have A56 := Aside0.mk A560
                    clear A560
                    simp only [Option.some.injEq, Prod.mk.injEq] at H
                    obtain ⟨rfl, rfl, rfl, rfl⟩ := H
                    have hnb57 := NB636_628.out
                    have hnc57 := NB628_636.out
                    have hnb58 := NB636_629.out
                    have hnc58 := NB629_636.out
                    have hnb59 := NB636_630.out
                    have hnc59 := NB630_636.out
                    have hcz60_0 := b0 BK636
                    have hcz60_1 := b1 BK636
                    have hcz60_2 := b2 BK636
                    have hcz60_3 := b3 BK636
                    have hcz60_4 := b4 BK636
                    have hcz60_5 := b5 BK636
                    have hcz60_6 := b6 BK636
                    have hcz60_7 := b7 BK636
                    have hfz60_0 := fz BK636 0
                    have hfz60_1 := fz BK636 1
                    have hfz60_2 := fz BK636 2
                    have hfz60_3 := fz BK636 3
                    have hfz60_4 := fz BK636 4
                    have hfz60_5 := fz BK636 5
                    have hfz60_6 := fz BK636 6
                    have hfz60_7 := fz BK636 7
                    try go_wp2
                    have n0_ := Aside0.mk (blk_drew BK628.out)
                    have n1_ := Aside0.mk (blk_drew BK629.out)
                    have n2_ := Aside0.mk (blk_drew BK630.out)
                    have n3_ := Aside0.mk (blk_drew BK636.out)
                    have n4_ := Aside0.mk (below_drew1 HB.out)
                    clear BK628
                    clear BK629
                    clear BK630
                    clear BK636
                    clear HB
                    have BK628 := n0_
                    have BK629 := n1_
                    have BK630 := n2_
                    have BK636 := n3_
                    have HB := n4_
                    clear n0_ n1_ n2_ n3_ n4_
                    refine start_ (n := 11) (S := fun w' => w'.cell? ⟨gb628, 0, none⟩ = some (.string a1_0) ∧ w'.cell? ⟨gb628, 1, none⟩ = some (.int .i64 a1_1) ∧ w'.cell? ⟨gb628, 2, none⟩ = some (.int .i64 a1_2)) (ds := []) #[false, false, false, false, false, false, false, false, false, false, false] (by kernel_rfl) rfl rfl ⟨(blk_cell BK628.out 0).trans rfl, (blk_cell BK628.out 1).trans rfl, (blk_cell BK628.out 2).trans rfl⟩ (fun hHeld => ?_); refine with_tabW impl_RecGo.tab12 impl_RecGo.bits12 (fun HT_ HW_ => ?_)
                    generalize wc.drew = w61 at BK628 BK629 BK630 BK636 HB hHeld ⊢
                    refine pure_ (i := 0) (N := some 59) (v := ?_) (a' := ?_) #[true, false, false, false, false, false, false, false, false, false, false] rfl rfl (any_of HT_.out (by kernel_rfl)) (fun _ _ _ h => h) (Or.inl ⟨by rfl, ?_⟩) ?_ ?_
                    rotate_left
                    · intro w'
                      go_simp
                      with_reducible rfl
                    rotate_left
                    · simp only [Act.put, List.setIfInBounds_toArray, List.set_cons_zero, List.set_cons_succ, i64_w, i32_w]
                      rfl
                    refine pure_ (i := 1) (N := some 60) (v := ?_) (a' := ?_) #[true, true, false, false, false, false, false, false, false, false, false] rfl rfl (any_of HT_.out (by kernel_rfl)) (fun _ _ _ h => h) (Or.inl ⟨by rfl, ?_⟩) ?_ ?_
                    rotate_left
                    · intro w'
                      go_simp
                      with_reducible rfl
                    rotate_left
                    · simp only [Act.put, List.setIfInBounds_toArray, List.set_cons_zero, List.set_cons_succ, i64_w, i32_w]
                      rfl
                    refine pure_ (i := 3) (N := some 62) (v := ?_) (a' := ?_) #[true, true, false, true, false, false, false, false, false, false, false] rfl rfl (any_of HT_.out (by kernel_rfl)) (fun _ _ _ h => h) (Or.inl ⟨by rfl, ?_⟩) ?_ ?_
                    rotate_left
                    · intro w'
                      go_simp
                      with_reducible rfl
                    rotate_left
                    · simp only [Act.put, List.setIfInBounds_toArray, List.set_cons_zero, List.set_cons_succ, i64_w, i32_w]
                      rfl
                    refine pure_ (i := 5) (N := some 64) (v := ?_) (a' := ?_) #[true, true, false, true, false, true, false, false, false, false, false] rfl rfl (any_of HT_.out (by kernel_rfl)) (fun _ _ _ h => h) (Or.inl ⟨by rfl, ?_⟩) ?_ ?_
                    rotate_left
                    · intro w'
                      go_simp
                      with_reducible rfl
                    rotate_left
                    · simp only [Act.put, List.setIfInBounds_toArray, List.set_cons_zero, List.set_cons_succ, i64_w, i32_w]
                      rfl
                    refine pure_ (i := 6) (N := some 65) (v := ?_) (a' := ?_) #[true, true, false, true, false, true, true, false, false, false, false] rfl rfl (any_of HT_.out (by kernel_rfl)) (fun _ _ _ h => h) (Or.inl ⟨by rfl, ?_⟩) ?_ ?_
                    rotate_left
                    · intro w'
                      go_simp
                      with_reducible rfl
                    rotate_left
                    · simp only [Act.put, List.setIfInBounds_toArray, List.set_cons_zero, List.set_cons_succ, i64_w, i32_w]
                      rfl
                    refine take_ (i := 2) (N := some 61) (v := ?_) (a' := ?_) #[true, true, true, true, false, true, true, false, false, false, false] rfl rfl (take_ofW HT_.out HW_.out (by kernel_rfl)) (fun _ _ _ h => h) (Or.inl ⟨by rfl, ?_⟩) hHeld ?_ ?_
                    rotate_left
                    · rintro w' ⟨s0, s1, s2⟩
                      go_simp
                      with_reducible rfl
                    rotate_left
                    · simp only [Act.put, List.setIfInBounds_toArray, List.set_cons_zero, List.set_cons_succ, i64_w, i32_w]
                      rfl
                    refine pure_ (i := 4) (N := some 63) (v := ?_) (a' := ?_) #[true, true, true, true, true, true, true, false, false, false, false] rfl rfl (any_of HT_.out (by kernel_rfl)) (fun _ _ _ h => h) (Or.inl ⟨by rfl, ?_⟩) ?_ ?_
                    rotate_left
                    · intro w'
                      go_simp
                      with_reducible rfl
                    rotate_left
                    · simp only [Act.put, List.setIfInBounds_toArray, List.set_cons_zero, List.set_cons_succ, i64_w, i32_w]
                      rfl
                    refine one_ (i := 7) (N := some 66) #[true, true, true, true, true, true, true, true, false, false, false] rfl rfl (one_of HT_.out (by kernel_rfl)) (by decide) (fun K hK => ?_)
                    refine goes_ Try.func71 (by kernel_rfl) rfl #[.slice (some ad635) l0.length c0, .string ((rd_T39 l0 t634).f6)] (by rfl) rfl rfl mxp ?_
                    with_reducible refine (impl_bound.calls kj34 _ _ l0 ((rd_T39 l0 t634).f6) t637 _ ?side1 ?side2 A56.out).mono ?_
                    (case side1 => exact cx (Kd.C_below HR0.out HB.out))
                    (case side2 => exact HC0.out)
                    rintro e w62 ⟨rfl, hb⟩
                    refine ⟨_, rfl, ?_⟩
                    have n0_ := up BK628 hb
                    have n1_ := up BK629 hb
                    have n2_ := up BK630 hb
                    have n3_ := up BK636 hb
                    have n4_ := bs HB hb
                    clear BK628
                    clear BK629
                    clear BK630
                    clear BK636
                    clear HB
                    have BK628 := n0_
                    have BK629 := n1_
                    have BK630 := n2_
                    have BK636 := n3_
                    have HB := n4_
                    clear n0_ n1_ n2_ n3_ n4_
                    (try clear hb)
                    (try clear hb2)
                    (try clear hk)
                    (try clear hi)
                    refine hK.out _ _ ⟨(blk_cell BK628.out 0).trans rfl, (blk_cell BK628.out 1).trans rfl, (blk_cell BK628.out 2).trans rfl⟩ (fun hHeld => ?_)
                    clear hK K
                    refine norm_ (a' := ?_) ?_ ?_
                    rotate_left
                    · show Act.put _ (some 66) _ = _
                      simp only [Act.put, List.setIfInBounds_toArray, List.set_cons_zero, List.set_cons_succ, i64_w, i32_w]
                      rfl
                    refine pure_ (i := 8) (N := some 67) (v := ?_) (a' := ?_) #[true, true, true, true, true, true, true, true, true, false, false] rfl rfl (any_of HT_.out (by kernel_rfl)) (fun _ _ _ h => h) (Or.inl ⟨by rfl, ?_⟩) ?_ ?_
                    rotate_left
                    · intro w'
                      go_simp
                      with_reducible rfl
                    rotate_left
                    · simp only [Act.put, List.setIfInBounds_toArray, List.set_cons_zero, List.set_cons_succ, i64_w, i32_w]
                      rfl
                    refine one_ (i := 9) (N := none) #[true, true, true, true, true, true, true, true, true, true, false] rfl rfl (one_of HT_.out (by kernel_rfl)) (by decide) (fun K hK => ?_)
                    have hs63 : w62.cell? ⟨gb630, 0, none⟩ = some (.string (⟨#[]⟩ : ByteArray)) := (blk_cell BK630.out 0).trans rfl
                    have hfs63 := blk_frozen BK630.out 0
                    have hns63_0 := NB628_630.out
                    have hns63_1 := NB629_630.out
                    have hns63_3 := NB636_630.out
                    have hms63_0 := NB630_628.out
                    have hms63_1 := NB630_629.out
                    have hms63_3 := NB630_636.out
                    have hs64 : w62.cell? ⟨gb630, 1, none⟩ = some (.int .i64 0) := (blk_cell BK630.out 1).trans rfl
                    have hfs64 := blk_frozen BK630.out 1
                    have hns64_0 := NB628_630.out
                    have hns64_1 := NB629_630.out
                    have hns64_3 := NB636_630.out
                    have hms64_0 := NB630_628.out
                    have hms64_1 := NB630_629.out
                    have hms64_3 := NB630_636.out
                    have hs65 : w62.cell? ⟨gb630, 2, none⟩ = some (.int .i64 0) := (blk_cell BK630.out 2).trans rfl
                    have hfs65 := blk_frozen BK630.out 2
                    have hns65_0 := NB628_630.out
                    have hns65_1 := NB629_630.out
                    have hns65_3 := NB636_630.out
                    have hms65_0 := NB630_628.out
                    have hms65_1 := NB630_629.out
                    have hms65_3 := NB630_636.out
                    refine skip_ (w1 := ?_) (by rfl) rfl ?_ ?_
                    rotate_left
                    · go_simp
                      rfl
                    refine hK.out _ _ ⟨((cell_far (p := ⟨gb630, _, none⟩) NB628_630.out _).trans (((cell_far (p := ⟨gb630, _, none⟩) NB628_630.out _).trans (((cell_far (p := ⟨gb630, _, none⟩) NB628_630.out _).trans (hHeld.1)))))), ((cell_far (p := ⟨gb630, _, none⟩) NB628_630.out _).trans (((cell_far (p := ⟨gb630, _, none⟩) NB628_630.out _).trans (((cell_far (p := ⟨gb630, _, none⟩) NB628_630.out _).trans (hHeld.2.1)))))), ((cell_far (p := ⟨gb630, _, none⟩) NB628_630.out _).trans (((cell_far (p := ⟨gb630, _, none⟩) NB628_630.out _).trans (((cell_far (p := ⟨gb630, _, none⟩) NB628_630.out _).trans (hHeld.2.2))))))⟩ (fun hHeld => ?_)
                    clear hK K
                    refine pure_ (i := 10) (N := some 7) (v := ?_) (a' := ?_) #[true, true, true, true, true, true, true, true, true, true, true] rfl rfl (any_of HT_.out (by kernel_rfl)) (fun _ _ _ h => h) (Or.inl ⟨by rfl, ?_⟩) ?_ ?_
                    rotate_left
                    · intro w'
                      go_simp
                      with_reducible rfl
                    rotate_left
                    · simp only [Act.put, List.setIfInBounds_toArray, List.set_cons_zero, List.set_cons_succ, i64_w, i32_w]
                      rfl
                    refine done_ (done_of HT_.out (by kernel_rfl)) ?_
                    try go_wp2
                    refine bodyPost_ret (results_ct rfl _ _ gb630 31 #[.string ((rd_T39 l0 t634).f6), .int .i64 (wrap64 (a1_1 + (ji55))), .int .i64 t637] (0, 0) _ rfl (by refine bx ?_; refine blk_put (cs := #[.string ((rd_T39 l0 t634).f6), .int .i64 (wrap64 (a1_1 + (ji55))), .int .i64 0]) ?_ 2 _ rfl; refine bx ?_; refine blk_put (cs := #[.string ((rd_T39 l0 t634).f6), .int .i64 0, .int .i64 0]) ?_ 1 _ rfl; refine bx ?_; refine blk_put (cs := #[.string (⟨#[]⟩ : ByteArray), .int .i64 0, .int .i64 0]) ?_ 0 _ rfl; refine bx ?_; exact BK630.out) Try.underlying31 rfl (by kernel_rfl)) rfl ?_
                    exact ⟨by first | rfl | (simp [errW_none, errW_some] <;> rfl) | (simp only [← hji34, ← hji55]; first | rfl | (simp [errW_none, errW_some] <;> rfl)) | (simp [*, errW_none, errW_some] <;> rfl), bw HB.out⟩
                  · rw [if_neg c54] at H
                    have c54b0 : (((rd_T39 l0 t634).f1) == 3) = false := beq_eq_false_iff_ne.mpr c54
                    have c54b1 : (((rd_T39 l0 t634).f1) != 3) = true := bne_iff_ne.mpr c54
                    replace H := Option.bind_eq_some_iff.mp H
                    obtain ⟨t638, A660, H⟩ := H
                    replace H : (some (((rd_T39 l0 t634).f6), wrap64 (a1_1 + x9_34), t638, true)) = some (r1, r2, r3, r4) := H
                    have A66 := Aside0.mk A660
                    clear A660
                    simp only [Option.some.injEq, Prod.mk.injEq] at H
                    obtain ⟨rfl, rfl, rfl, rfl⟩ := H
                    have hnb67 := NB636_628.out
                    have hnc67 := NB628_636.out
                    have hnb68 := NB636_629.out
                    have hnc68 := NB629_636.out
                    have hnb69 := NB636_630.out
                    have hnc69 := NB630_636.out
                    have hcz70_0 := b0 BK636
                    have hcz70_1 := b1 BK636
                    have hcz70_2 := b2 BK636
                    have hcz70_3 := b3 BK636
                    have hcz70_4 := b4 BK636
                    have hcz70_5 := b5 BK636
                    have hcz70_6 := b6 BK636
                    have hcz70_7 := b7 BK636
                    have hfz70_0 := fz BK636 0
                    have hfz70_1 := fz BK636 1
                    have hfz70_2 := fz BK636 2
                    have hfz70_3 := fz BK636 3
                    have hfz70_4 := fz BK636 4
                    have hfz70_5 := fz BK636 5
                    have hfz70_6 := fz BK636 6
                    have hfz70_7 := fz BK636 7
                    try go_wp2
                    have n0_ := Aside0.mk (blk_drew BK628.out)
                    have n1_ := Aside0.mk (blk_drew BK629.out)
                    have n2_ := Aside0.mk (blk_drew BK630.out)
                    have n3_ := Aside0.mk (blk_drew BK636.out)
                    have n4_ := Aside0.mk (below_drew1 HB.out)
                    clear BK628
                    clear BK629
                    clear BK630
                    clear BK636
                    clear HB
                    have BK628 := n0_
                    have BK629 := n1_
                    have BK630 := n2_
                    have BK636 := n3_
                    have HB := n4_
                    clear n0_ n1_ n2_ n3_ n4_
                    refine start_ (n := 11) (S := fun w' => w'.cell? ⟨gb628, 0, none⟩ = some (.string a1_0) ∧ w'.cell? ⟨gb628, 1, none⟩ = some (.int .i64 a1_1) ∧ w'.cell? ⟨gb628, 2, none⟩ = some (.int .i64 a1_2)) (ds := []) #[false, false, false, false, false, false, false, false, false, false, false] (by kernel_rfl) rfl rfl ⟨(blk_cell BK628.out 0).trans rfl, (blk_cell BK628.out 1).trans rfl, (blk_cell BK628.out 2).trans rfl⟩ (fun hHeld => ?_); refine with_tabW impl_RecGo.tab12 impl_RecGo.bits12 (fun HT_ HW_ => ?_)
                    generalize wc.drew = w71 at BK628 BK629 BK630 BK636 HB hHeld ⊢
                    refine pure_ (i := 0) (N := some 59) (v := ?_) (a' := ?_) #[true, false, false, false, false, false, false, false, false, false, false] rfl rfl (any_of HT_.out (by kernel_rfl)) (fun _ _ _ h => h) (Or.inl ⟨by rfl, ?_⟩) ?_ ?_
                    rotate_left
                    · intro w'
                      go_simp
                      with_reducible rfl
                    rotate_left
                    · simp only [Act.put, List.setIfInBounds_toArray, List.set_cons_zero, List.set_cons_succ, i64_w, i32_w]
                      rfl
                    refine pure_ (i := 1) (N := some 60) (v := ?_) (a' := ?_) #[true, true, false, false, false, false, false, false, false, false, false] rfl rfl (any_of HT_.out (by kernel_rfl)) (fun _ _ _ h => h) (Or.inl ⟨by rfl, ?_⟩) ?_ ?_
                    rotate_left
                    · intro w'
                      go_simp
                      with_reducible rfl
                    rotate_left
                    · simp only [Act.put, List.setIfInBounds_toArray, List.set_cons_zero, List.set_cons_succ, i64_w, i32_w]
                      rfl
                    refine pure_ (i := 3) (N := some 62) (v := ?_) (a' := ?_) #[true, true, false, true, false, false, false, false, false, false, false] rfl rfl (any_of HT_.out (by kernel_rfl)) (fun _ _ _ h => h) (Or.inl ⟨by rfl, ?_⟩) ?_ ?_
                    rotate_left
                    · intro w'
                      go_simp
                      with_reducible rfl
                    rotate_left
                    · simp only [Act.put, List.setIfInBounds_toArray, List.set_cons_zero, List.set_cons_succ, i64_w, i32_w]
                      rfl
                    refine pure_ (i := 5) (N := some 64) (v := ?_) (a' := ?_) #[true, true, false, true, false, true, false, false, false, false, false] rfl rfl (any_of HT_.out (by kernel_rfl)) (fun _ _ _ h => h) (Or.inl ⟨by rfl, ?_⟩) ?_ ?_
                    rotate_left
                    · intro w'
                      go_simp
                      with_reducible rfl
                    rotate_left
                    · simp only [Act.put, List.setIfInBounds_toArray, List.set_cons_zero, List.set_cons_succ, i64_w, i32_w]
                      rfl
                    refine pure_ (i := 6) (N := some 65) (v := ?_) (a' := ?_) #[true, true, false, true, false, true, true, false, false, false, false] rfl rfl (any_of HT_.out (by kernel_rfl)) (fun _ _ _ h => h) (Or.inl ⟨by rfl, ?_⟩) ?_ ?_
                    rotate_left
                    · intro w'
                      go_simp
                      with_reducible rfl
                    rotate_left
                    · simp only [Act.put, List.setIfInBounds_toArray, List.set_cons_zero, List.set_cons_succ, i64_w, i32_w]
                      rfl
                    refine take_ (i := 2) (N := some 61) (v := ?_) (a' := ?_) #[true, true, true, true, false, true, true, false, false, false, false] rfl rfl (take_ofW HT_.out HW_.out (by kernel_rfl)) (fun _ _ _ h => h) (Or.inl ⟨by rfl, ?_⟩) hHeld ?_ ?_
                    rotate_left
                    · rintro w' ⟨s0, s1, s2⟩
                      go_simp
                      with_reducible rfl
                    rotate_left
                    · simp only [Act.put, List.setIfInBounds_toArray, List.set_cons_zero, List.set_cons_succ, i64_w, i32_w]
                      rfl
                    refine pure_ (i := 4) (N := some 63) (v := ?_) (a' := ?_) #[true, true, true, true, true, true, true, false, false, false, false] rfl rfl (any_of HT_.out (by kernel_rfl)) (fun _ _ _ h => h) (Or.inl ⟨by rfl, ?_⟩) ?_ ?_
                    rotate_left
                    · intro w'
                      go_simp
                      with_reducible rfl
                    rotate_left
                    · simp only [Act.put, List.setIfInBounds_toArray, List.set_cons_zero, List.set_cons_succ, i64_w, i32_w]
                      rfl
                    refine one_ (i := 7) (N := some 66) #[true, true, true, true, true, true, true, true, false, false, false] rfl rfl (one_of HT_.out (by kernel_rfl)) (by decide) (fun K hK => ?_)
                    refine goes_ Try.func71 (by kernel_rfl) rfl #[.slice (some ad635) l0.length c0, .string ((rd_T39 l0 t634).f6)] (by rfl) rfl rfl mxp ?_
                    with_reducible refine (impl_bound.calls kj34 _ _ l0 ((rd_T39 l0 t634).f6) t638 _ ?side1 ?side2 A66.out).mono ?_
                    (case side1 => exact cx (Kd.C_below HR0.out HB.out))
                    (case side2 => exact HC0.out)
                    rintro e w72 ⟨rfl, hb⟩
                    refine ⟨_, rfl, ?_⟩
                    have n0_ := up BK628 hb
                    have n1_ := up BK629 hb
                    have n2_ := up BK630 hb
                    have n3_ := up BK636 hb
                    have n4_ := bs HB hb
                    clear BK628
                    clear BK629
                    clear BK630
                    clear BK636
                    clear HB
                    have BK628 := n0_
                    have BK629 := n1_
                    have BK630 := n2_
                    have BK636 := n3_
                    have HB := n4_
                    clear n0_ n1_ n2_ n3_ n4_
                    (try clear hb)
                    (try clear hb2)
                    (try clear hk)
                    (try clear hi)
                    refine hK.out _ _ ⟨(blk_cell BK628.out 0).trans rfl, (blk_cell BK628.out 1).trans rfl, (blk_cell BK628.out 2).trans rfl⟩ (fun hHeld => ?_)
                    clear hK K
                    refine norm_ (a' := ?_) ?_ ?_
                    rotate_left
                    · show Act.put _ (some 66) _ = _
                      simp only [Act.put, List.setIfInBounds_toArray, List.set_cons_zero, List.set_cons_succ, i64_w, i32_w]
                      rfl
                    refine pure_ (i := 8) (N := some 67) (v := ?_) (a' := ?_) #[true, true, true, true, true, true, true, true, true, false, false] rfl rfl (any_of HT_.out (by kernel_rfl)) (fun _ _ _ h => h) (Or.inl ⟨by rfl, ?_⟩) ?_ ?_
                    rotate_left
                    · intro w'
                      go_simp
                      with_reducible rfl
                    rotate_left
                    · simp only [Act.put, List.setIfInBounds_toArray, List.set_cons_zero, List.set_cons_succ, i64_w, i32_w]
                      rfl
                    refine one_ (i := 9) (N := none) #[true, true, true, true, true, true, true, true, true, true, false] rfl rfl (one_of HT_.out (by kernel_rfl)) (by decide) (fun K hK => ?_)
                    have hs73 : w72.cell? ⟨gb630, 0, none⟩ = some (.string (⟨#[]⟩ : ByteArray)) := (blk_cell BK630.out 0).trans rfl
                    have hfs73 := blk_frozen BK630.out 0
                    have hns73_0 := NB628_630.out
                    have hns73_1 := NB629_630.out
                    have hns73_3 := NB636_630.out
                    have hms73_0 := NB630_628.out
                    have hms73_1 := NB630_629.out
                    have hms73_3 := NB630_636.out
                    have hs74 : w72.cell? ⟨gb630, 1, none⟩ = some (.int .i64 0) := (blk_cell BK630.out 1).trans rfl
                    have hfs74 := blk_frozen BK630.out 1
                    have hns74_0 := NB628_630.out
                    have hns74_1 := NB629_630.out
                    have hns74_3 := NB636_630.out
                    have hms74_0 := NB630_628.out
                    have hms74_1 := NB630_629.out
                    have hms74_3 := NB630_636.out
                    have hs75 : w72.cell? ⟨gb630, 2, none⟩ = some (.int .i64 0) := (blk_cell BK630.out 2).trans rfl
                    have hfs75 := blk_frozen BK630.out 2
                    have hns75_0 := NB628_630.out
                    have hns75_1 := NB629_630.out
                    have hns75_3 := NB636_630.out
                    have hms75_0 := NB630_628.out
                    have hms75_1 := NB630_629.out
                    have hms75_3 := NB630_636.out
                    refine skip_ (w1 := ?_) (by rfl) rfl ?_ ?_
                    rotate_left
                    · go_simp
                      rfl
                    refine hK.out _ _ ⟨((cell_far (p := ⟨gb630, _, none⟩) NB628_630.out _).trans (((cell_far (p := ⟨gb630, _, none⟩) NB628_630.out _).trans (((cell_far (p := ⟨gb630, _, none⟩) NB628_630.out _).trans (hHeld.1)))))), ((cell_far (p := ⟨gb630, _, none⟩) NB628_630.out _).trans (((cell_far (p := ⟨gb630, _, none⟩) NB628_630.out _).trans (((cell_far (p := ⟨gb630, _, none⟩) NB628_630.out _).trans (hHeld.2.1)))))), ((cell_far (p := ⟨gb630, _, none⟩) NB628_630.out _).trans (((cell_far (p := ⟨gb630, _, none⟩) NB628_630.out _).trans (((cell_far (p := ⟨gb630, _, none⟩) NB628_630.out _).trans (hHeld.2.2))))))⟩ (fun hHeld => ?_)
                    clear hK K
                    refine pure_ (i := 10) (N := some 7) (v := ?_) (a' := ?_) #[true, true, true, true, true, true, true, true, true, true, true] rfl rfl (any_of HT_.out (by kernel_rfl)) (fun _ _ _ h => h) (Or.inl ⟨by rfl, ?_⟩) ?_ ?_
                    rotate_left
                    · intro w'
                      go_simp
                      with_reducible rfl
                    rotate_left
                    · simp only [Act.put, List.setIfInBounds_toArray, List.set_cons_zero, List.set_cons_succ, i64_w, i32_w]
                      rfl
                    refine done_ (done_of HT_.out (by kernel_rfl)) ?_
                    try go_wp2
                    refine bodyPost_ret (results_ct rfl _ _ gb630 31 #[.string ((rd_T39 l0 t634).f6), .int .i64 (wrap64 (a1_1 + x9_34)), .int .i64 t638] (0, 0) _ rfl (by refine bx ?_; refine blk_put (cs := #[.string ((rd_T39 l0 t634).f6), .int .i64 (wrap64 (a1_1 + x9_34)), .int .i64 0]) ?_ 2 _ rfl; refine bx ?_; refine blk_put (cs := #[.string ((rd_T39 l0 t634).f6), .int .i64 0, .int .i64 0]) ?_ 1 _ rfl; refine bx ?_; refine blk_put (cs := #[.string (⟨#[]⟩ : ByteArray), .int .i64 0, .int .i64 0]) ?_ 0 _ rfl; refine bx ?_; exact BK630.out) Try.underlying31 rfl (by kernel_rfl)) rfl ?_
                    exact ⟨by first | rfl | (simp [errW_none, errW_some] <;> rfl) | (simp only [← hji34]; first | rfl | (simp [errW_none, errW_some] <;> rfl)) | (simp [*, errW_none, errW_some] <;> rfl), bw HB.out⟩
                · replace c53 := Bool.eq_false_iff.mpr c53
                  subst c53
                  have H1 : ((impl_bound.f kj34 l0 ((rd_T39 l0 t634).f7)).bind fun t639 => (some (((rd_T39 l0 t634).f7), wrap64 (a1_1 + x9_34), t639, true))) = some (r1, r2, r3, r4) := by rw [if_neg (show ¬ (false = true) by decide)] at H; exact H
                  clear H
                  have H := H1
                  clear H1
                  replace H := Option.bind_eq_some_iff.mp H
                  obtain ⟨t639, A760, H⟩ := H
                  replace H : (some (((rd_T39 l0 t634).f7), wrap64 (a1_1 + x9_34), t639, true)) = some (r1, r2, r3, r4) := H
                  have A76 := Aside0.mk A760
                  clear A760
                  simp only [Option.some.injEq, Prod.mk.injEq] at H
                  obtain ⟨rfl, rfl, rfl, rfl⟩ := H
                  have hnb77 := NB636_628.out
                  have hnc77 := NB628_636.out
                  have hnb78 := NB636_629.out
                  have hnc78 := NB629_636.out
                  have hnb79 := NB636_630.out
                  have hnc79 := NB630_636.out
                  have hcz80_0 := b0 BK636
                  have hcz80_1 := b1 BK636
                  have hcz80_2 := b2 BK636
                  have hcz80_3 := b3 BK636
                  have hcz80_4 := b4 BK636
                  have hcz80_5 := b5 BK636
                  have hcz80_6 := b6 BK636
                  have hcz80_7 := b7 BK636
                  have hfz80_0 := fz BK636 0
                  have hfz80_1 := fz BK636 1
                  have hfz80_2 := fz BK636 2
                  have hfz80_3 := fz BK636 3
                  have hfz80_4 := fz BK636 4
                  have hfz80_5 := fz BK636 5
                  have hfz80_6 := fz BK636 6
                  have hfz80_7 := fz BK636 7
                  try go_wp2
                  have n0_ := Aside0.mk (blk_drew BK628.out)
                  have n1_ := Aside0.mk (blk_drew BK629.out)
                  have n2_ := Aside0.mk (blk_drew BK630.out)
                  have n3_ := Aside0.mk (blk_drew BK636.out)
                  have n4_ := Aside0.mk (below_drew1 HB.out)
                  clear BK628
                  clear BK629
                  clear BK630
                  clear BK636
                  clear HB
                  have BK628 := n0_
                  have BK629 := n1_
                  have BK630 := n2_
                  have BK636 := n3_
                  have HB := n4_
                  clear n0_ n1_ n2_ n3_ n4_
                  refine start_ (n := 11) (S := fun w' => w'.cell? ⟨gb628, 0, none⟩ = some (.string a1_0) ∧ w'.cell? ⟨gb628, 1, none⟩ = some (.int .i64 a1_1) ∧ w'.cell? ⟨gb628, 2, none⟩ = some (.int .i64 a1_2)) (ds := []) #[false, false, false, false, false, false, false, false, false, false, false] (by kernel_rfl) rfl rfl ⟨(blk_cell BK628.out 0).trans rfl, (blk_cell BK628.out 1).trans rfl, (blk_cell BK628.out 2).trans rfl⟩ (fun hHeld => ?_); refine with_tabW impl_RecGo.tab12 impl_RecGo.bits12 (fun HT_ HW_ => ?_)
                  generalize wc.drew = w81 at BK628 BK629 BK630 BK636 HB hHeld ⊢
                  refine pure_ (i := 0) (N := some 59) (v := ?_) (a' := ?_) #[true, false, false, false, false, false, false, false, false, false, false] rfl rfl (any_of HT_.out (by kernel_rfl)) (fun _ _ _ h => h) (Or.inl ⟨by rfl, ?_⟩) ?_ ?_
                  rotate_left
                  · intro w'
                    go_simp
                    with_reducible rfl
                  rotate_left
                  · simp only [Act.put, List.setIfInBounds_toArray, List.set_cons_zero, List.set_cons_succ, i64_w, i32_w]
                    rfl
                  refine pure_ (i := 1) (N := some 60) (v := ?_) (a' := ?_) #[true, true, false, false, false, false, false, false, false, false, false] rfl rfl (any_of HT_.out (by kernel_rfl)) (fun _ _ _ h => h) (Or.inl ⟨by rfl, ?_⟩) ?_ ?_
                  rotate_left
                  · intro w'
                    go_simp
                    with_reducible rfl
                  rotate_left
                  · simp only [Act.put, List.setIfInBounds_toArray, List.set_cons_zero, List.set_cons_succ, i64_w, i32_w]
                    rfl
                  refine pure_ (i := 3) (N := some 62) (v := ?_) (a' := ?_) #[true, true, false, true, false, false, false, false, false, false, false] rfl rfl (any_of HT_.out (by kernel_rfl)) (fun _ _ _ h => h) (Or.inl ⟨by rfl, ?_⟩) ?_ ?_
                  rotate_left
                  · intro w'
                    go_simp
                    with_reducible rfl
                  rotate_left
                  · simp only [Act.put, List.setIfInBounds_toArray, List.set_cons_zero, List.set_cons_succ, i64_w, i32_w]
                    rfl
                  refine pure_ (i := 5) (N := some 64) (v := ?_) (a' := ?_) #[true, true, false, true, false, true, false, false, false, false, false] rfl rfl (any_of HT_.out (by kernel_rfl)) (fun _ _ _ h => h) (Or.inl ⟨by rfl, ?_⟩) ?_ ?_
                  rotate_left
                  · intro w'
                    go_simp
                    with_reducible rfl
                  rotate_left
                  · simp only [Act.put, List.setIfInBounds_toArray, List.set_cons_zero, List.set_cons_succ, i64_w, i32_w]
                    rfl
                  refine pure_ (i := 6) (N := some 65) (v := ?_) (a' := ?_) #[true, true, false, true, false, true, true, false, false, false, false] rfl rfl (any_of HT_.out (by kernel_rfl)) (fun _ _ _ h => h) (Or.inl ⟨by rfl, ?_⟩) ?_ ?_
                  rotate_left
                  · intro w'
                    go_simp
                    with_reducible rfl
                  rotate_left
                  · simp only [Act.put, List.setIfInBounds_toArray, List.set_cons_zero, List.set_cons_succ, i64_w, i32_w]
                    rfl
                  refine take_ (i := 2) (N := some 61) (v := ?_) (a' := ?_) #[true, true, true, true, false, true, true, false, false, false, false] rfl rfl (take_ofW HT_.out HW_.out (by kernel_rfl)) (fun _ _ _ h => h) (Or.inl ⟨by rfl, ?_⟩) hHeld ?_ ?_
                  rotate_left
                  · rintro w' ⟨s0, s1, s2⟩
                    go_simp
                    with_reducible rfl
                  rotate_left
                  · simp only [Act.put, List.setIfInBounds_toArray, List.set_cons_zero, List.set_cons_succ, i64_w, i32_w]
                    rfl
                  refine pure_ (i := 4) (N := some 63) (v := ?_) (a' := ?_) #[true, true, true, true, true, true, true, false, false, false, false] rfl rfl (any_of HT_.out (by kernel_rfl)) (fun _ _ _ h => h) (Or.inl ⟨by rfl, ?_⟩) ?_ ?_
                  rotate_left
                  · intro w'
                    go_simp
                    with_reducible rfl
                  rotate_left
                  · simp only [Act.put, List.setIfInBounds_toArray, List.set_cons_zero, List.set_cons_succ, i64_w, i32_w]
                    rfl
                  refine one_ (i := 7) (N := some 66) #[true, true, true, true, true, true, true, true, false, false, false] rfl rfl (one_of HT_.out (by kernel_rfl)) (by decide) (fun K hK => ?_)
                  refine goes_ Try.func71 (by kernel_rfl) rfl #[.slice (some ad635) l0.length c0, .string ((rd_T39 l0 t634).f7)] (by rfl) rfl rfl mxp ?_
                  with_reducible refine (impl_bound.calls kj34 _ _ l0 ((rd_T39 l0 t634).f7) t639 _ ?side1 ?side2 A76.out).mono ?_
                  (case side1 => exact cx (Kd.C_below HR0.out HB.out))
                  (case side2 => exact HC0.out)
                  rintro e w82 ⟨rfl, hb⟩
                  refine ⟨_, rfl, ?_⟩
                  have n0_ := up BK628 hb
                  have n1_ := up BK629 hb
                  have n2_ := up BK630 hb
                  have n3_ := up BK636 hb
                  have n4_ := bs HB hb
                  clear BK628
                  clear BK629
                  clear BK630
                  clear BK636
                  clear HB
                  have BK628 := n0_
                  have BK629 := n1_
                  have BK630 := n2_
                  have BK636 := n3_
                  have HB := n4_
                  clear n0_ n1_ n2_ n3_ n4_
                  (try clear hb)
                  (try clear hb2)
                  (try clear hk)
                  (try clear hi)
                  refine hK.out _ _ ⟨(blk_cell BK628.out 0).trans rfl, (blk_cell BK628.out 1).trans rfl, (blk_cell BK628.out 2).trans rfl⟩ (fun hHeld => ?_)
                  clear hK K
                  refine norm_ (a' := ?_) ?_ ?_
                  rotate_left
                  · show Act.put _ (some 66) _ = _
                    simp only [Act.put, List.setIfInBounds_toArray, List.set_cons_zero, List.set_cons_succ, i64_w, i32_w]
                    rfl
                  refine pure_ (i := 8) (N := some 67) (v := ?_) (a' := ?_) #[true, true, true, true, true, true, true, true, true, false, false] rfl rfl (any_of HT_.out (by kernel_rfl)) (fun _ _ _ h => h) (Or.inl ⟨by rfl, ?_⟩) ?_ ?_
                  rotate_left
                  · intro w'
                    go_simp
                    with_reducible rfl
                  rotate_left
                  · simp only [Act.put, List.setIfInBounds_toArray, List.set_cons_zero, List.set_cons_succ, i64_w, i32_w]
                    rfl
                  refine one_ (i := 9) (N := none) #[true, true, true, true, true, true, true, true, true, true, false] rfl rfl (one_of HT_.out (by kernel_rfl)) (by decide) (fun K hK => ?_)
                  have hs83 : w82.cell? ⟨gb630, 0, none⟩ = some (.string (⟨#[]⟩ : ByteArray)) := (blk_cell BK630.out 0).trans rfl
                  have hfs83 := blk_frozen BK630.out 0
                  have hns83_0 := NB628_630.out
                  have hns83_1 := NB629_630.out
                  have hns83_3 := NB636_630.out
                  have hms83_0 := NB630_628.out
                  have hms83_1 := NB630_629.out
                  have hms83_3 := NB630_636.out
                  have hs84 : w82.cell? ⟨gb630, 1, none⟩ = some (.int .i64 0) := (blk_cell BK630.out 1).trans rfl
                  have hfs84 := blk_frozen BK630.out 1
                  have hns84_0 := NB628_630.out
                  have hns84_1 := NB629_630.out
                  have hns84_3 := NB636_630.out
                  have hms84_0 := NB630_628.out
                  have hms84_1 := NB630_629.out
                  have hms84_3 := NB630_636.out
                  have hs85 : w82.cell? ⟨gb630, 2, none⟩ = some (.int .i64 0) := (blk_cell BK630.out 2).trans rfl
                  have hfs85 := blk_frozen BK630.out 2
                  have hns85_0 := NB628_630.out
                  have hns85_1 := NB629_630.out
                  have hns85_3 := NB636_630.out
                  have hms85_0 := NB630_628.out
                  have hms85_1 := NB630_629.out
                  have hms85_3 := NB630_636.out
                  refine skip_ (w1 := ?_) (by rfl) rfl ?_ ?_
                  rotate_left
                  · go_simp
                    rfl
                  refine hK.out _ _ ⟨((cell_far (p := ⟨gb630, _, none⟩) NB628_630.out _).trans (((cell_far (p := ⟨gb630, _, none⟩) NB628_630.out _).trans (((cell_far (p := ⟨gb630, _, none⟩) NB628_630.out _).trans (hHeld.1)))))), ((cell_far (p := ⟨gb630, _, none⟩) NB628_630.out _).trans (((cell_far (p := ⟨gb630, _, none⟩) NB628_630.out _).trans (((cell_far (p := ⟨gb630, _, none⟩) NB628_630.out _).trans (hHeld.2.1)))))), ((cell_far (p := ⟨gb630, _, none⟩) NB628_630.out _).trans (((cell_far (p := ⟨gb630, _, none⟩) NB628_630.out _).trans (((cell_far (p := ⟨gb630, _, none⟩) NB628_630.out _).trans (hHeld.2.2))))))⟩ (fun hHeld => ?_)
                  clear hK K
                  refine pure_ (i := 10) (N := some 7) (v := ?_) (a' := ?_) #[true, true, true, true, true, true, true, true, true, true, true] rfl rfl (any_of HT_.out (by kernel_rfl)) (fun _ _ _ h => h) (Or.inl ⟨by rfl, ?_⟩) ?_ ?_
                  rotate_left
                  · intro w'
                    go_simp
                    with_reducible rfl
                  rotate_left
                  · simp only [Act.put, List.setIfInBounds_toArray, List.set_cons_zero, List.set_cons_succ, i64_w, i32_w]
                    rfl
                  refine done_ (done_of HT_.out (by kernel_rfl)) ?_
                  try go_wp2
                  refine bodyPost_ret (results_ct rfl _ _ gb630 31 #[.string ((rd_T39 l0 t634).f7), .int .i64 (wrap64 (a1_1 + x9_34)), .int .i64 t639] (0, 0) _ rfl (by refine bx ?_; refine blk_put (cs := #[.string ((rd_T39 l0 t634).f7), .int .i64 (wrap64 (a1_1 + x9_34)), .int .i64 0]) ?_ 2 _ rfl; refine bx ?_; refine blk_put (cs := #[.string ((rd_T39 l0 t634).f7), .int .i64 0, .int .i64 0]) ?_ 1 _ rfl; refine bx ?_; refine blk_put (cs := #[.string (⟨#[]⟩ : ByteArray), .int .i64 0, .int .i64 0]) ?_ 0 _ rfl; refine bx ?_; exact BK630.out) Try.underlying31 rfl (by kernel_rfl)) rfl ?_
                  exact ⟨by first | rfl | (simp [errW_none, errW_some] <;> rfl) | (simp only [← hji34]; first | rfl | (simp [errW_none, errW_some] <;> rfl)) | (simp [*, errW_none, errW_some] <;> rfl), bw HB.out⟩
          · rw [if_neg c33] at H
            exact absurd H (by simp)
        · rw [if_neg c32] at H
          exact absurd H (by simp)

end Go.Proofs.Ytdkologncoofdaa.P
-- Px68
namespace Go.Proofs.Ytdkologncoofdaa.P
open Go.RowKit Go.Proofs.YtdkologncoofdaaW.PrintWords Go.Proofs.YtdkologncoofdaaW.PrintLast Go.Proofs.YtdkologncoofdaaW.PrintMore
attribute [local go_sem] max2_int min2_int max_two min_two max_three min_three max_four min_four   -- for this text's walks alone
set_option linter.unusedVariables false
set_option linter.unusedSimpArgs false

/-! ### impl_RecRun: function 21 -/
def impl_RecRun.l0 : Nat → List (S39) → List (S43) → List ByteArray → Int → ByteArray → Int → Int → Option (ByteArray × Int × Int × List ByteArray)
  | 0, _, _, _, _, _, _, _ => none
  | k + 1, x0, x1, x7, x8, x789000, x789001, x789002 => (impl_RecEnd.f k x789000).bind fun t792 => (if t792 = 0 then (if x7.length < 8796093022208 then ((some (x7 ++ [x789000] : List ByteArray)).bind fun y793 => (if x8 < (x1.length : Int) then (if 0 ≤ x8 then ((impl_RecGo.f k x0 x789000 x789001 x789002 ((rd_T43 x1 x8).f0) ((rd_T43 x1 x8).f1)).bind fun bt798 => (impl_RecRun.l0 k x0 x1 y793 (wrap64 (x8 + 1)) bt798.1 bt798.2.1 bt798.2.2.1)) else (none)) else ((impl_RecGo.f k x0 x789000 x789001 x789002 1001 false).bind fun bt802 => (impl_RecRun.l0 k x0 x1 y793 (wrap64 (x8 + 1)) bt802.1 bt802.2.1 bt802.2.2.1)))) else (none)) else (some (x789000, x789001, x789002, x7)))
def impl_RecRun.f (k : Nat) (l0 : List (S39)) (l1 : List (S43)) : Option (ByteArray × Int × Int × List ByteArray) := (impl_RecOk.f k l0).bind fun t784 => (if t784 = true then ((impl_RecBegin.f k l0).bind fun bt785 => (impl_RecRun.l0 k l0 l1 (([] : List ByteArray)) 0 bt785.1 bt785.2.1 bt785.2.2)) else (some ((⟨#[]⟩ : ByteArray), 0, 0, ([] : List ByteArray))))
theorem impl_RecRun.mono_l : ∀ k, (∀ y0 y1 y2 y3 y4 y5 y6, LeO (impl_RecRun.l0 k y0 y1 y2 y3 y4 y5 y6) (impl_RecRun.l0 (k + 1) y0 y1 y2 y3 y4 y5 y6))
  | 0 => fun _ _ _ _ _ _ _ r h => by simp [impl_RecRun.l0] at h
  | k + 1 => by
    have ih0 := impl_RecRun.mono_l k
    · intro y0 y1 y2 y3 y4 y5 y6
      unfold impl_RecRun.l0
      repeat' first
      | (with_reducible exact ih0 _ _ _ _ _ _ _)
      | (with_reducible exact impl_RecBegin.mono _ _)
      | (with_reducible exact impl_RecEnd.mono _ _)
      | (with_reducible exact impl_RecGo.mono _ _ _ _ _ _ _)
      | (with_reducible exact impl_RecOk.mono _ _)
      | (with_reducible exact LeO.refl _)
      | (with_reducible exact LeO.none _)
      | (with_reducible refine LeO.ite ?_ ?_)
      | (with_reducible refine LeO.bind ?_ (fun _ => ?_))
      | exact ih0 _ _ _ _ _ _ _
      | exact impl_RecBegin.mono _ _
      | exact impl_RecEnd.mono _ _
      | exact impl_RecGo.mono _ _ _ _ _ _ _
      | exact impl_RecOk.mono _ _
      | exact LeO.none _
      | refine LeO.ite ?_ ?_
      | refine LeO.bind ?_ (fun _ => ?_)
theorem impl_RecRun.mono : ∀ a0 a1 k, LeO (impl_RecRun.f k a0 a1) (impl_RecRun.f (k + 1) a0 a1) := by
  intro a0 a1 k
  have ih0 := impl_RecRun.mono_l k
  unfold impl_RecRun.f
  repeat' first
      | (with_reducible exact ih0 _ _ _ _ _ _ _)
      | (with_reducible exact impl_RecBegin.mono _ _)
      | (with_reducible exact impl_RecEnd.mono _ _)
      | (with_reducible exact impl_RecGo.mono _ _ _ _ _ _ _)
      | (with_reducible exact impl_RecOk.mono _ _)
      | (with_reducible exact LeO.refl _)
      | (with_reducible exact LeO.none _)
      | (with_reducible refine LeO.ite ?_ ?_)
      | (with_reducible refine LeO.bind ?_ (fun _ => ?_))
      | exact ih0 _ _ _ _ _ _ _
      | exact impl_RecBegin.mono _ _
      | exact impl_RecEnd.mono _ _
      | exact impl_RecGo.mono _ _ _ _ _ _ _
      | exact impl_RecOk.mono _ _
      | exact LeO.none _
      | refine LeO.ite ?_ ?_
      | refine LeO.bind ?_ (fun _ => ?_)
set_option maxHeartbeats 8000000 in
set_option maxRecDepth 100000 in
theorem impl_RecRun.calls (k : Nat) (A0 : Option Addr) (c0 : Nat) (l0 : List (S39)) (A1 : Option Addr) (c1 : Nat) (l1 : List (S43)) (r1 : ByteArray) (r2 : Int) (r3 : Int) (r4 : List ByteArray) (w : World) (hr0 : Kd.C k39 w A0 l0.length l0) (hc0 : l0.length ≤ c0) (hr1 : Kd.C k43 w A1 l1.length l1) (hc1 : l1.length ≤ c1) (h : impl_RecRun.f k l0 l1 = some (r1, r2, r3, r4)) :
    Calls Try.prog 21 #[.slice A0 l0.length c0, .slice A1 l1.length c1] w fun e w' => ∃ v3_ : Value, e = .returned (.tuple #[.agg #[.string r1, .int .i64 r2, .int .i64 r3], v3_]) ∧ Kd.R Kd.string 9 w' w.heap.size (fun _ => True) v3_ r4 ∧ Below w.heap.size w w' := by
  have hu31 := Try.underlying31
  have hu43 := Try.underlying43
  have HR0 := Aside0.mk hr0
  have HC0 := Aside0.mk hc0
  clear hr0 hc0
  have HR1 := Aside0.mk hr1
  have HC1 := Aside0.mk hc1
  clear hr1 hc1
  have HB := Aside0.mk (Below.refl w.heap.size w)
  have H : ((impl_RecOk.f k l0).bind fun t784 => (if t784 = true then ((impl_RecBegin.f k l0).bind fun bt785 => (impl_RecRun.l0 k l0 l1 (([] : List ByteArray)) 0 bt785.1 bt785.2.1 bt785.2.2)) else (some ((⟨#[]⟩ : ByteArray), 0, 0, ([] : List ByteArray))))) = some (r1, r2, r3, r4) := h
  clear h
  replace H := Option.bind_eq_some_iff.mp H
  obtain ⟨t784, A30, H⟩ := H
  replace H : (if t784 = true then ((impl_RecBegin.f k l0).bind fun bt785 => (impl_RecRun.l0 k l0 l1 (([] : List ByteArray)) 0 bt785.1 bt785.2.1 bt785.2.2)) else (some ((⟨#[]⟩ : ByteArray), 0, 0, ([] : List ByteArray)))) = some (r1, r2, r3, r4) := H
  have A3 := Aside0.mk A30
  clear A30
  by_cases c4 : t784 = true
  · subst c4
    have H1 : ((impl_RecBegin.f k l0).bind fun bt785 => (impl_RecRun.l0 k l0 l1 (([] : List ByteArray)) 0 bt785.1 bt785.2.1 bt785.2.2)) = some (r1, r2, r3, r4) := by rw [if_pos rfl] at H; exact H
    clear H
    have H := H1
    clear H1
    replace H := Option.bind_eq_some_iff.mp H
    obtain ⟨⟨t785, t786, t787⟩, A50, H⟩ := H
    replace H : (impl_RecRun.l0 k l0 l1 (([] : List ByteArray)) 0 t785 t786 t787) = some (r1, r2, r3, r4) := H
    have A5 := Aside0.mk A50
    clear A50
    obtain ⟨y789, hy789⟩ : ∃ y_ : List ByteArray, y_ = (([] : List ByteArray)) := ⟨_, rfl⟩
    replace H : (impl_RecRun.l0 k l0 l1 y789 0 t785 t786 t787) = some (r1, r2, r3, r4) := by first | (rw [hy789]; with_reducible exact H) | (have H2_ := (Option.bind_some _ _).symm.trans H; rw [hy789]; with_reducible exact H2_) | (have H2_ := (Option.bind_some _ _).symm.trans H; with_reducible exact H2_) | with_reducible exact H | (rw [hy789]; exact H) | exact H
    have Ny789 := Aside0.mk hy789
    clear hy789
    have H' := Aside0.mk H
    clear H
    go_enter Try.func21, Try.ntmps21
    go_wp2_with (first | ((with_reducible refine gate_dst (N := 4) rfl ?_); refine box_event ?hg (N := 4) ?hd (cs := #[.string (⟨#[]⟩ : ByteArray), .int .i64 0, .int .i64 0]) (t := 31) ?hr ?_; (case hd => rfl); (case hg => rfl); (case hr => first | (go_simp; done) | (go_simp; rfl)); intro gb783 hg w6 hbox hb; have n0_ := bs HB hb; have n1_ := Aside0.mk (hbox); have n2_ := Aside0.mk ((by rw [hg]; exact (below_size (bw HB.out)) : w.heap.size ≤ gb783)); have n3_ := Aside0.mk ((by rw [hg]; exact (below_size (bw HB.out)) : w.heap.size ≤ gb783)); clear HB; have HB := n0_; have BK783 := n1_; have GW783 := n2_; have GE783 := n3_; clear n0_ n1_ n2_ n3_; clear hb hbox hg) | ((with_reducible refine gate_callee (f := 36) rfl ?_); refine goesL_ (some 11) rfl rfl Try.func36 (by kernel_rfl) rfl #[.slice A0 l0.length c0] rfl mxp ?_; (with_reducible refine (impl_RecOk.calls k _ _ l0 true _ ?side1 ?side2 A3.out).mono ?_); (case side1 => exact cx (Kd.C_below HR0.out HB.out)); (case side2 => exact HC0.out); rintro e w7 ⟨rfl, hb⟩; refine ⟨_, rfl, ?_⟩; replace BK783 := up BK783 hb; replace HB := bs HB hb; (try clear hb); (try clear hb2); (try clear hk); (try clear hi)) | ((with_reducible refine gate_callee (f := 27) rfl ?_); refine goesL_ (some 15) rfl rfl Try.func27 (by kernel_rfl) rfl #[.slice A0 l0.length c0] rfl mxp ?_; (with_reducible refine (impl_RecBegin.calls k _ _ l0 t785 t786 t787 _ ?side1 ?side2 A5.out).mono ?_); (case side1 => exact cx (Kd.C_below HR0.out HB.out)); (case side2 => exact HC0.out); rintro e w8 ⟨rfl, hb⟩; refine ⟨_, rfl, ?_⟩; replace BK783 := up BK783 hb; replace HB := bs HB hb; (try clear hb); (try clear hb2); (try clear hk); (try clear hi)) | ((with_reducible refine gate_dst (N := 6) rfl ?_); refine box_event ?hg (N := 6) ?hd (cs := #[.string (⟨#[]⟩ : ByteArray), .int .i64 0, .int .i64 0]) (t := 31) ?hr ?_; (case hd => rfl); (case hg => rfl); (case hr => first | (go_simp; done) | (go_simp; rfl)); intro gb788 hg w9 hbox hb; have n0_ := up BK783 hb; have n1_ := bs HB hb; have n2_ := Aside0.mk (hbox); have n3_ := Aside0.mk ((by rw [hg]; exact (below_size (bw HB.out)) : w.heap.size ≤ gb788)); have n4_ := Aside0.mk ((by rw [hg]; exact (below_size (bw HB.out)) : w.heap.size ≤ gb788)); have n5_ := Aside0.mk ((by rw [hg]; exact Nat.ne_of_lt (blk_lt (g := gb783) (o := .cells #[.string (⟨#[]⟩ : ByteArray), .int .i64 0, .int .i64 0] 31 (0, 0)) (bx BK783.out)) : gb783 ≠ gb788)); have n6_ := Aside0.mk ((by rw [hg]; exact Nat.ne_of_gt (blk_lt (g := gb783) (o := .cells #[.string (⟨#[]⟩ : ByteArray), .int .i64 0, .int .i64 0] 31 (0, 0)) (bx BK783.out)) : gb788 ≠ gb783)); clear BK783; clear HB; have BK783 := n0_; have HB := n1_; have BK788 := n2_; have GW788 := n3_; have GE788 := n4_; have NB783_788 := n5_; have NB788_783 := n6_; clear n0_ n1_ n2_ n3_ n4_ n5_ n6_; clear hb hbox hg; have hnb10 := NB788_783.out; have hnc10 := NB783_788.out; have hcz11_0 := b0 BK788; have hcz11_1 := b1 BK788; have hcz11_2 := b2 BK788; have hfz11_0 := fz BK788 0; have hfz11_1 := fz BK788 1; have hfz11_2 := fz BK788 2) | ((with_reducible refine gate_dst (N := 16) rfl ?_); refine Kd.R_lit Kd.string _ 9 ?hg (N := 16) ?hd (xs := ([] : List ByteArray)) (inner := []) (ok := fun _ => True) (okp := fun _ => True) ?hr ?hp (fun _ hk => hk) trivial (Below.refl _ _) (Nat.le_refl _) (by simp) ?_; (case hd => rfl); (case hg => rfl); (case hr => first | (go_simp; done) | (go_simp; rfl)); (case hp => exact (Reps.none _ _)); intro v790 w12 ho13 hb hg_ hnew_; clear hg_ hnew_; (first | rw [← Ny789.out] at ho13 | (simp only [Int.reduceToNat] at ho13; rw [← Ny789.out] at ho13)); have n0_ := Aside0.mk (Kd.R_lower ho13 (below_size (bw HB.out))); have n1_ := Aside0.mk (blk_below (g := gb783) (o := .cells #[.string (⟨#[]⟩ : ByteArray), .int .i64 0, .int .i64 0] 31 (0, 0)) (by refine bx ?_; refine blk_far ?_ NB783_788.out _; refine bx ?_; refine blk_far ?_ NB783_788.out _; refine bx ?_; refine blk_far ?_ NB783_788.out _; refine bx ?_; exact BK783.out) hb); have n2_ := Aside0.mk (blk_below (g := gb788) (o := .cells #[.string t785, .int .i64 t786, .int .i64 t787] 31 (0, 0)) (by refine bx ?_; refine blk_put (cs := #[.string t785, .int .i64 t786, .int .i64 0]) ?_ 2 _ rfl; refine bx ?_; refine blk_put (cs := #[.string t785, .int .i64 0, .int .i64 0]) ?_ 1 _ rfl; refine bx ?_; refine blk_put (cs := #[.string (⟨#[]⟩ : ByteArray), .int .i64 0, .int .i64 0]) ?_ 0 _ rfl; refine bx ?_; exact BK788.out) hb); have n3_ := bs HB hb; clear BK783; clear BK788; clear HB; have HO791 := n0_; have BK783 := n1_; have BK788 := n2_; have HB := n3_; clear n0_ n1_ n2_ n3_; clear hb ho13))
    go_loopg [7, 8] k (fun kq v7 v8 w' => ∃ (x7_1 : List ByteArray) (x8_1 : Int) (x789000_1 : ByteArray) (x789001_1 : Int) (x789002_1 : Int), v8 = .int .i64 x8_1 ∧ Aside0 (impl_RecRun.l0 kq l0 l1 x7_1 x8_1 x789000_1 x789001_1 x789002_1 = some (r1, r2, r3, r4)) ∧ Aside0 (kq ≤ k) ∧ Aside0 (Kd.R Kd.string 9 w' w.heap.size (fun _ => True) v7 x7_1) ∧ Aside0 (w'.heap[gb783]? = some (.cells #[.string (⟨#[]⟩ : ByteArray), .int .i64 0, .int .i64 0] 31 (0, 0))) ∧ Aside0 (w'.heap[gb788]? = some (.cells #[.string x789000_1, .int .i64 x789001_1, .int .i64 x789002_1] 31 (0, 0))) ∧ Aside0 (Below w.heap.size w w'))
    case atStart => exact ⟨(y789), (0), (t785), (t786), (t787), (by first | rfl | (simp; done) | (simp [*]; done)), H', ⟨Nat.le_refl _⟩, ⟨by refine rx ?_; exact HO791.out⟩, (bk BK783), (bk BK788), (hbw HB)⟩
    case round =>
      clear H'
      try clear c1
      try clear c2
      try clear p2
      try clear c3
      try clear c4
      try clear c10
      try clear hcz11_0
      try clear hcz11_1
      try clear hcz11_2
      try clear hfz11_0
      try clear hfz11_1
      try clear hfz11_2
      obtain ⟨x7_1, x8_1, x789000_1, x789001_1, x789002_1, rfl, HA, HK1, HO_7, BK783, BK788, HB⟩ := hrel
      cases gk with
      | zero => exact absurd HA.out (by simp [impl_RecRun.l0])
      | succ k1 =>
        have H := HA.out
        clear HA
        simp only [impl_RecRun.l0] at H
        replace H := Option.bind_eq_some_iff.mp H
        obtain ⟨t792, A140, H⟩ := H
        replace H : (if t792 = 0 then (if x7_1.length < 8796093022208 then ((some (x7_1 ++ [x789000_1] : List ByteArray)).bind fun y793 => (if x8_1 < (l1.length : Int) then (if 0 ≤ x8_1 then ((impl_RecGo.f k1 l0 x789000_1 x789001_1 x789002_1 ((rd_T43 l1 x8_1).f0) ((rd_T43 l1 x8_1).f1)).bind fun bt798 => (impl_RecRun.l0 k1 l0 l1 y793 (wrap64 (x8_1 + 1)) bt798.1 bt798.2.1 bt798.2.2.1)) else (none)) else ((impl_RecGo.f k1 l0 x789000_1 x789001_1 x789002_1 1001 false).bind fun bt802 => (impl_RecRun.l0 k1 l0 l1 y793 (wrap64 (x8_1 + 1)) bt802.1 bt802.2.1 bt802.2.2.1)))) else (none)) else (some (x789000_1, x789001_1, x789002_1, x7_1))) = some (r1, r2, r3, r4) := H
        have A14 := Aside0.mk A140
        clear A140
        by_cases c15 : t792 = 0
        · rw [if_pos c15] at H
          have c15b0 : (t792 == 0) = true := beq_iff_eq.mpr c15
          have c15b1 : (t792 != 0) = false := bne_eq_false_iff_eq.mpr c15
          clear c15
          by_cases c16 : x7_1.length < 8796093022208
          · rw [if_pos c16] at H
            have LMc16 := Aside0.mk c16
            clear c16
            obtain ⟨y793, hy793⟩ : ∃ y_ : List ByteArray, y_ = (x7_1 ++ [x789000_1]) := ⟨_, rfl⟩
            replace H : (if x8_1 < (l1.length : Int) then (if 0 ≤ x8_1 then ((impl_RecGo.f k1 l0 x789000_1 x789001_1 x789002_1 ((rd_T43 l1 x8_1).f0) ((rd_T43 l1 x8_1).f1)).bind fun bt798 => (impl_RecRun.l0 k1 l0 l1 y793 (wrap64 (x8_1 + 1)) bt798.1 bt798.2.1 bt798.2.2.1)) else (none)) else ((impl_RecGo.f k1 l0 x789000_1 x789001_1 x789002_1 1001 false).bind fun bt802 => (impl_RecRun.l0 k1 l0 l1 y793 (wrap64 (x8_1 + 1)) bt802.1 bt802.2.1 bt802.2.2.1))) = some (r1, r2, r3, r4) := by first | (rw [hy793]; with_reducible exact H) | (have H2_ := (Option.bind_some _ _).symm.trans H; rw [hy793]; with_reducible exact H2_) | (have H2_ := (Option.bind_some _ _).symm.trans H; with_reducible exact H2_) | with_reducible exact H | (rw [hy793]; exact H) | exact H
            have Ny793 := Aside0.mk hy793
            clear hy793
            by_cases c17 : x8_1 < (l1.length : Int)
            · rw [if_pos c17] at H
              have c17b0 : decide (x8_1 < (l1.length : Int)) = true := decide_eq_true c17
              clear c17
              by_cases c18 : 0 ≤ x8_1
              · rw [if_pos c18] at H
                have c18b0 : decide (0 ≤ x8_1) = true := decide_eq_true c18
                clear c18
                replace H := Option.bind_eq_some_iff.mp H
                obtain ⟨⟨t798, t799, t800, t801⟩, A190, H⟩ := H
                replace H : (impl_RecRun.l0 k1 l0 l1 y793 (wrap64 (x8_1 + 1)) t798 t799 t800) = some (r1, r2, r3, r4) := H
                have A19 := Aside0.mk A190
                clear A190
                have H' := Aside0.mk H
                clear H
                have hnb20 := NB788_783.out
                have hnc20 := NB783_788.out
                have hcz21_0 := b0 BK788
                have hcz21_1 := b1 BK788
                have hcz21_2 := b2 BK788
                have hfz21_0 := fz BK788 0
                have hfz21_1 := fz BK788 1
                have hfz21_2 := fz BK788 2
                go_wp2_with (first | ((with_reducible refine gate_callee (f := 19) rfl ?_); refine goesL_ (some 19) rfl rfl Try.func19 (by kernel_rfl) rfl #[.string x789000_1] rfl mxp ?_; (with_reducible refine (impl_RecEnd.calls k1 x789000_1 t792 _ A14.out).mono ?_); rintro e w22 ⟨rfl, hb⟩; refine ⟨_, rfl, ?_⟩; have n0_ := Aside0.mk (Kd.R_below (rx HO_7.out) hb); have n1_ := up BK783 hb; have n2_ := up BK788 hb; have n3_ := bs HB hb; clear HO_7; clear BK783; clear BK788; clear HB; have HO_7 := n0_; have BK783 := n1_; have BK788 := n2_; have HB := n3_; clear n0_ n1_ n2_ n3_; (try clear hb); (try clear hb2); (try clear hk); (try clear hi); have hcz23_0 := b0 BK788; have hcz23_1 := b1 BK788; have hcz23_2 := b2 BK788; have hfz23_0 := fz BK788 0; have hfz23_1 := fz BK788 1; have hfz23_2 := fz BK788 2) | ((with_reducible refine gate_builtin (b := .append) (xs := #[.tmp 23, .tmp 26]) rfl ?_); at_builtin; refine Kd.R_append Kd.string (w0 := w) w.heap.size rfl (.tmp 23) (.tmp 26) 32 9 (.string ⟨#[]⟩) 16 rfl Try.underlying32 info9 rfl (by decide) (by omega) u7 x7_1 x789000_1 [.string x789000_1] (fun _ => True) (fun _ => False) rfl rfl ?aP (fun _ hk => hk.elim) ?aF ?aO ?aB ?aS ?aL ?_; (case aP => exact rfl); (case aB => exact (bw HB.out)); (case aF => exact (fun _ _ => trivial)); (case aO => exact (rx HO_7.out)); (case aS => exact (below_size (bw HB.out))); (case aL => have := LMc16.out; omega); intro v794 w24 ho hb hg hat; rw [← Ny793.out] at ho; have n0_ := Aside0.mk (blk_grown (g := gb783) (o := .cells #[.string (⟨#[]⟩ : ByteArray), .int .i64 0, .int .i64 0] 31 (0, 0)) (bx BK783.out) hg (Kd.R_ne HO_7.out BK783.out (by decide))); have n1_ := Aside0.mk (blk_grown (g := gb788) (o := .cells #[.string x789000_1, .int .i64 x789001_1, .int .i64 x789002_1] 31 (0, 0)) (bx BK788.out) hg (Kd.R_ne HO_7.out BK788.out (by decide))); have n2_ := Aside0.mk (hb); have n3_ := Aside0.mk (ho); clear BK783; clear BK788; clear HB; clear HO_7; have BK783 := n0_; have BK788 := n1_; have HB := n2_; have HO795 := n3_; clear n0_ n1_ n2_ n3_; clear ho hb hg hat) | ((with_reducible refine gate_dst (N := 9) rfl ?_); refine box_event ?hg (N := 9) ?hd (cs := #[.int .i64 0, .bool false]) (t := 43) ?hr ?_; (case hd => rfl); (case hg => rfl); (case hr => first | (go_simp; done) | (go_simp; rfl)); intro gb796 hg w25 hbox hb; have n0_ := Aside0.mk (Kd.R_below (rx HO795.out) hb); have n1_ := up BK783 hb; have n2_ := up BK788 hb; have n3_ := bs HB hb; have n4_ := Aside0.mk (hbox); have n5_ := Aside0.mk ((by rw [hg]; exact (below_size (bw HB.out)) : w.heap.size ≤ gb796)); have n6_ := Aside0.mk ((by rw [hg]; exact (below_size (bw HB.out)) : w.heap.size ≤ gb796)); have n7_ := Aside0.mk ((by rw [hg]; exact Nat.ne_of_lt (blk_lt (g := gb783) (o := .cells #[.string (⟨#[]⟩ : ByteArray), .int .i64 0, .int .i64 0] 31 (0, 0)) (bx BK783.out)) : gb783 ≠ gb796)); have n8_ := Aside0.mk ((by rw [hg]; exact Nat.ne_of_gt (blk_lt (g := gb783) (o := .cells #[.string (⟨#[]⟩ : ByteArray), .int .i64 0, .int .i64 0] 31 (0, 0)) (bx BK783.out)) : gb796 ≠ gb783)); have n9_ := Aside0.mk ((by rw [hg]; exact Nat.ne_of_lt (blk_lt (g := gb788) (o := .cells #[.string x789000_1, .int .i64 x789001_1, .int .i64 x789002_1] 31 (0, 0)) (bx BK788.out)) : gb788 ≠ gb796)); have n10_ := Aside0.mk ((by rw [hg]; exact Nat.ne_of_gt (blk_lt (g := gb788) (o := .cells #[.string x789000_1, .int .i64 x789001_1, .int .i64 x789002_1] 31 (0, 0)) (bx BK788.out)) : gb796 ≠ gb788)); clear HO795; clear BK783; clear BK788; clear HB; have HO795 := n0_; have BK783 := n1_; have BK788 := n2_; have HB := n3_; have BK796 := n4_; have GW796 := n5_; have GE796 := n6_; have NB783_796 := n7_; have NB796_783 := n8_; have NB788_796 := n9_; have NB796_788 := n10_; clear n0_ n1_ n2_ n3_ n4_ n5_ n6_ n7_ n8_ n9_ n10_; clear hb hbox hg; have hnb26 := NB796_783.out; have hnc26 := NB783_796.out; have hnb27 := NB796_788.out; have hnc27 := NB788_796.out; have hcz28_0 := b0 BK796; have hcz28_1 := b1 BK796; have hfz28_0 := fz BK796 0; have hfz28_1 := fz BK796 1; have hq796 : ((((w25.setCell ⟨gb796, 0, none⟩ (.int .i64 1001)).setCell ⟨gb796, 1, none⟩ (.bool false)).setCell ⟨gb796, 0, none⟩ (.int .i64 ((rd_T43 l1 x8_1).f0))).setCell ⟨gb796, 1, none⟩ (.bool ((rd_T43 l1 x8_1).f1))).cell? ⟨gb796, 1, none⟩ = some (.bool ((rd_T43 l1 x8_1).f1)) := (blk_cell (cs := #[.int .i64 ((rd_T43 l1 x8_1).f0), .bool ((rd_T43 l1 x8_1).f1)]) (t := 43) (by refine blk_put (cs := #[.int .i64 ((rd_T43 l1 x8_1).f0), .bool false]) ?_ 1 _ rfl; refine blk_put (cs := #[.int .i64 1001, .bool false]) ?_ 0 _ rfl; refine blk_put (cs := #[.int .i64 1001, .bool false]) ?_ 1 _ rfl; refine blk_put (cs := #[.int .i64 0, .bool false]) ?_ 0 _ rfl; exact BK796.out) 1).trans rfl; have p797 : 0 ≤ (x8_1 : Int) := of_decide_eq_true (by first | (with_reducible assumption) | assumption); have q797 : x8_1 < (l1.length : Int) := of_decide_eq_true (by first | (with_reducible assumption) | assumption); obtain ⟨ad797, e797, hx797_0, hx797_1⟩ := at_T43 HR1.out x8_1 p797 q797; cases e797; have hn797_0 : ad797.block ≠ gb796 := Nat.ne_of_lt (Nat.lt_of_lt_of_le (by have := World.block_lt_of_cell? _ _ hx797_0; first | rwa [add_block] at this | exact this) GW796.out); have hn797_1 : ad797.block ≠ gb796 := Nat.ne_of_lt (Nat.lt_of_lt_of_le (by have := World.block_lt_of_cell? _ _ hx797_0; first | rwa [add_block] at this | exact this) GW796.out); replace hx797_0 := bcl HB hx797_0; replace hx797_1 := bcl HB hx797_1; replace hx797_0 := (cell_far (p := ⟨gb796, 0, none⟩) (by first | (rw [add_block]; exact hn797_0) | (show (Addr.add _ _).block ≠ _; rw [add_block]; exact hn797_0) | exact hn797_0) (.int .i64 1001)).trans hx797_0; replace hx797_1 := (cell_far (p := ⟨gb796, 0, none⟩) (by first | (rw [add_block]; exact hn797_0) | (show (Addr.add _ _).block ≠ _; rw [add_block]; exact hn797_0) | exact hn797_0) (.int .i64 1001)).trans hx797_1; replace hx797_0 := (cell_far (p := ⟨gb796, 1, none⟩) (by first | (rw [add_block]; exact hn797_1) | (show (Addr.add _ _).block ≠ _; rw [add_block]; exact hn797_1) | exact hn797_1) (.bool false)).trans hx797_0; replace hx797_1 := (cell_far (p := ⟨gb796, 1, none⟩) (by first | (rw [add_block]; exact hn797_1) | (show (Addr.add _ _).block ≠ _; rw [add_block]; exact hn797_1) | exact hn797_1) (.bool false)).trans hx797_1; clear hn797_0; clear hn797_1; replace p797 := eq_true p797; replace q797 := eq_true q797; have hcz29_0 := b0 BK788; have hcz29_1 := b1 BK788; have hcz29_2 := b2 BK788; have hfz29_0 := fz BK788 0; have hfz29_1 := fz BK788 1; have hfz29_2 := fz BK788 2) | ((with_reducible refine gate_callee (f := 28) rfl ?_); refine goesL_ (some 41) rfl rfl Try.func28 (by kernel_rfl) rfl #[.slice A0 l0.length c0, .agg #[.string x789000_1, .int .i64 x789001_1, .int .i64 x789002_1], .agg #[.int .i64 ((rd_T43 l1 x8_1).f0), .bool ((rd_T43 l1 x8_1).f1)]] rfl mxp ?_; (with_reducible refine (impl_RecGo.calls k1 _ _ l0 x789000_1 x789001_1 x789002_1 ((rd_T43 l1 x8_1).f0) ((rd_T43 l1 x8_1).f1) t798 t799 t800 t801 _ ?side1 ?side2 A19.out).mono ?_); (case side1 => exact Kd.C_below HR0.out (bw HB.out)); (case side2 => exact HC0.out); rintro e w30 ⟨rfl, hb⟩; refine ⟨_, rfl, ?_⟩; have n0_ := Aside0.mk (Kd.R_below (by refine rx ?_; exact (Kd.R_mono (Kd.R_far (p := ⟨gb796, 1, none⟩) (Kd.R_far (p := ⟨gb796, 0, none⟩) (Kd.R_far (p := ⟨gb796, 1, none⟩) (Kd.R_far (p := ⟨gb796, 0, none⟩) (Kd.R_types HO795.out BK796.out (by decide)) (fun _ hk => hk.2) (.int .i64 1001)) (fun _ hk => hk.2) (.bool false)) (fun _ hk => hk.2) (.int .i64 ((rd_T43 l1 x8_1).f0))) (fun _ hk => hk.2) (.bool ((rd_T43 l1 x8_1).f1))) (fun _ h_ => h_.1))) hb); have n1_ := Aside0.mk (blk_below (g := gb783) (o := .cells #[.string (⟨#[]⟩ : ByteArray), .int .i64 0, .int .i64 0] 31 (0, 0)) (by refine bx ?_; refine blk_far ?_ NB783_796.out _; refine bx ?_; refine blk_far ?_ NB783_796.out _; refine bx ?_; refine blk_far ?_ NB783_796.out _; refine bx ?_; refine blk_far ?_ NB783_796.out _; refine bx ?_; exact BK783.out) hb); have n2_ := Aside0.mk (blk_below (g := gb788) (o := .cells #[.string x789000_1, .int .i64 x789001_1, .int .i64 x789002_1] 31 (0, 0)) (by refine bx ?_; refine blk_far ?_ NB788_796.out _; refine bx ?_; refine blk_far ?_ NB788_796.out _; refine bx ?_; refine blk_far ?_ NB788_796.out _; refine bx ?_; refine blk_far ?_ NB788_796.out _; refine bx ?_; exact BK788.out) hb); have n3_ := Aside0.mk (blk_below (g := gb796) (o := .cells #[.int .i64 ((rd_T43 l1 x8_1).f0), .bool ((rd_T43 l1 x8_1).f1)] 43 (0, 0)) (by refine bx ?_; refine blk_put (cs := #[.int .i64 ((rd_T43 l1 x8_1).f0), .bool false]) ?_ 1 _ rfl; refine bx ?_; refine blk_put (cs := #[.int .i64 1001, .bool false]) ?_ 0 _ rfl; refine bx ?_; refine blk_put (cs := #[.int .i64 1001, .bool false]) ?_ 1 _ rfl; refine bx ?_; refine blk_put (cs := #[.int .i64 0, .bool false]) ?_ 0 _ rfl; refine bx ?_; exact BK796.out) hb); have n4_ := bs HB hb; clear HO795; clear BK783; clear BK788; clear BK796; clear HB; have HO795 := n0_; have BK783 := n1_; have BK788 := n2_; have BK796 := n3_; have HB := n4_; clear n0_ n1_ n2_ n3_ n4_; (try clear hb); (try clear hb2); (try clear hk); (try clear hi); have hcz31_0 := b0 BK788; have hcz31_1 := b1 BK788; have hcz31_2 := b2 BK788; have hfz31_0 := fz BK788 0; have hfz31_1 := fz BK788 1; have hfz31_2 := fz BK788 2))
                go_roundg k1
                case measure => have := HK1.out; omega
                case rel => exact ⟨(y793), (wrap64 (x8_1 + 1)), (t798), (t799), (t800), (by first | rfl | (simp; done) | (simp [*]; done)), H', ⟨by have := HK1.out; omega⟩, ⟨by refine rx ?_; exact Kd.R_mono (Kd.R_far (p := ⟨gb788, 2, none⟩) (Kd.R_far (p := ⟨gb788, 1, none⟩) (Kd.R_far (p := ⟨gb788, 0, none⟩) (Kd.R_types HO795.out BK788.out (by decide)) (fun _ hk => hk.2) (.string t798)) (fun _ hk => hk.2) (.int .i64 t799)) (fun _ hk => hk.2) (.int .i64 t800)) (fun _ hk => trivial)⟩, ⟨by refine bx ?_; refine blk_far ?_ NB783_788.out _; refine bx ?_; refine blk_far ?_ NB783_788.out _; refine bx ?_; refine blk_far ?_ NB783_788.out _; refine bx ?_; exact BK783.out⟩, ⟨by refine bx ?_; refine blk_put (cs := #[.string t798, .int .i64 t799, .int .i64 x789002_1]) ?_ 2 _ rfl; refine bx ?_; refine blk_put (cs := #[.string t798, .int .i64 x789001_1, .int .i64 x789002_1]) ?_ 1 _ rfl; refine bx ?_; refine blk_put (cs := #[.string x789000_1, .int .i64 x789001_1, .int .i64 x789002_1]) ?_ 0 _ rfl; refine bx ?_; exact BK788.out⟩, (hbw HB)⟩
              · rw [if_neg c18] at H
                exact absurd H (by simp)
            · rw [if_neg c17] at H
              have c17b0 : decide (x8_1 < (l1.length : Int)) = false := decide_eq_false c17
              clear c17
              replace H := Option.bind_eq_some_iff.mp H
              obtain ⟨⟨t802, t803, t804, t805⟩, A320, H⟩ := H
              replace H : (impl_RecRun.l0 k1 l0 l1 y793 (wrap64 (x8_1 + 1)) t802 t803 t804) = some (r1, r2, r3, r4) := H
              have A32 := Aside0.mk A320
              clear A320
              have H' := Aside0.mk H
              clear H
              have hnb33 := NB788_783.out
              have hnc33 := NB783_788.out
              have hcz34_0 := b0 BK788
              have hcz34_1 := b1 BK788
              have hcz34_2 := b2 BK788
              have hfz34_0 := fz BK788 0
              have hfz34_1 := fz BK788 1
              have hfz34_2 := fz BK788 2
              go_wp2_with (first | ((with_reducible refine gate_callee (f := 19) rfl ?_); refine goesL_ (some 19) rfl rfl Try.func19 (by kernel_rfl) rfl #[.string x789000_1] rfl mxp ?_; (with_reducible refine (impl_RecEnd.calls k1 x789000_1 t792 _ A14.out).mono ?_); rintro e w35 ⟨rfl, hb⟩; refine ⟨_, rfl, ?_⟩; have n0_ := Aside0.mk (Kd.R_below (rx HO_7.out) hb); have n1_ := up BK783 hb; have n2_ := up BK788 hb; have n3_ := bs HB hb; clear HO_7; clear BK783; clear BK788; clear HB; have HO_7 := n0_; have BK783 := n1_; have BK788 := n2_; have HB := n3_; clear n0_ n1_ n2_ n3_; (try clear hb); (try clear hb2); (try clear hk); (try clear hi); have hcz36_0 := b0 BK788; have hcz36_1 := b1 BK788; have hcz36_2 := b2 BK788; have hfz36_0 := fz BK788 0; have hfz36_1 := fz BK788 1; have hfz36_2 := fz BK788 2) | ((with_reducible refine gate_builtin (b := .append) (xs := #[.tmp 23, .tmp 26]) rfl ?_); at_builtin; refine Kd.R_append Kd.string (w0 := w) w.heap.size rfl (.tmp 23) (.tmp 26) 32 9 (.string ⟨#[]⟩) 16 rfl Try.underlying32 info9 rfl (by decide) (by omega) u7 x7_1 x789000_1 [.string x789000_1] (fun _ => True) (fun _ => False) rfl rfl ?aP (fun _ hk => hk.elim) ?aF ?aO ?aB ?aS ?aL ?_; (case aP => exact rfl); (case aB => exact (bw HB.out)); (case aF => exact (fun _ _ => trivial)); (case aO => exact (rx HO_7.out)); (case aS => exact (below_size (bw HB.out))); (case aL => have := LMc16.out; omega); intro v794 w37 ho hb hg hat; rw [← Ny793.out] at ho; have n0_ := Aside0.mk (blk_grown (g := gb783) (o := .cells #[.string (⟨#[]⟩ : ByteArray), .int .i64 0, .int .i64 0] 31 (0, 0)) (bx BK783.out) hg (Kd.R_ne HO_7.out BK783.out (by decide))); have n1_ := Aside0.mk (blk_grown (g := gb788) (o := .cells #[.string x789000_1, .int .i64 x789001_1, .int .i64 x789002_1] 31 (0, 0)) (bx BK788.out) hg (Kd.R_ne HO_7.out BK788.out (by decide))); have n2_ := Aside0.mk (hb); have n3_ := Aside0.mk (ho); clear BK783; clear BK788; clear HB; clear HO_7; have BK783 := n0_; have BK788 := n1_; have HB := n2_; have HO795 := n3_; clear n0_ n1_ n2_ n3_; clear ho hb hg hat) | ((with_reducible refine gate_dst (N := 9) rfl ?_); refine box_event ?hg (N := 9) ?hd (cs := #[.int .i64 0, .bool false]) (t := 43) ?hr ?_; (case hd => rfl); (case hg => rfl); (case hr => first | (go_simp; done) | (go_simp; rfl)); intro gb796 hg w38 hbox hb; have n0_ := Aside0.mk (Kd.R_below (rx HO795.out) hb); have n1_ := up BK783 hb; have n2_ := up BK788 hb; have n3_ := bs HB hb; have n4_ := Aside0.mk (hbox); have n5_ := Aside0.mk ((by rw [hg]; exact (below_size (bw HB.out)) : w.heap.size ≤ gb796)); have n6_ := Aside0.mk ((by rw [hg]; exact (below_size (bw HB.out)) : w.heap.size ≤ gb796)); have n7_ := Aside0.mk ((by rw [hg]; exact Nat.ne_of_lt (blk_lt (g := gb783) (o := .cells #[.string (⟨#[]⟩ : ByteArray), .int .i64 0, .int .i64 0] 31 (0, 0)) (bx BK783.out)) : gb783 ≠ gb796)); have n8_ := Aside0.mk ((by rw [hg]; exact Nat.ne_of_gt (blk_lt (g := gb783) (o := .cells #[.string (⟨#[]⟩ : ByteArray), .int .i64 0, .int .i64 0] 31 (0, 0)) (bx BK783.out)) : gb796 ≠ gb783)); have n9_ := Aside0.mk ((by rw [hg]; exact Nat.ne_of_lt (blk_lt (g := gb788) (o := .cells #[.string x789000_1, .int .i64 x789001_1, .int .i64 x789002_1] 31 (0, 0)) (bx BK788.out)) : gb788 ≠ gb796)); have n10_ := Aside0.mk ((by rw [hg]; exact Nat.ne_of_gt (blk_lt (g := gb788) (o := .cells #[.string x789000_1, .int .i64 x789001_1, .int .i64 x789002_1] 31 (0, 0)) (bx BK788.out)) : gb796 ≠ gb788)); clear HO795; clear BK783; clear BK788; clear HB; have HO795 := n0_; have BK783 := n1_; have BK788 := n2_; have HB := n3_; have BK796 := n4_; have GW796 := n5_; have GE796 := n6_; have NB783_796 := n7_; have NB796_783 := n8_; have NB788_796 := n9_; have NB796_788 := n10_; clear n0_ n1_ n2_ n3_ n4_ n5_ n6_ n7_ n8_ n9_ n10_; clear hb hbox hg; have hnb39 := NB796_783.out; have hnc39 := NB783_796.out; have hnb40 := NB796_788.out; have hnc40 := NB788_796.out; have hcz41_0 := b0 BK796; have hcz41_1 := b1 BK796; have hfz41_0 := fz BK796 0; have hfz41_1 := fz BK796 1; have hcz42_0 := b0 BK788; have hcz42_1 := b1 BK788; have hcz42_2 := b2 BK788; have hfz42_0 := fz BK788 0; have hfz42_1 := fz BK788 1; have hfz42_2 := fz BK788 2) | ((with_reducible refine gate_callee (f := 28) rfl ?_); refine goesL_ (some 41) rfl rfl Try.func28 (by kernel_rfl) rfl #[.slice A0 l0.length c0, .agg #[.string x789000_1, .int .i64 x789001_1, .int .i64 x789002_1], .agg #[.int .i64 1001, .bool false]] rfl mxp ?_; (with_reducible refine (impl_RecGo.calls k1 _ _ l0 x789000_1 x789001_1 x789002_1 1001 false t802 t803 t804 t805 _ ?side1 ?side2 A32.out).mono ?_); (case side1 => exact Kd.C_below HR0.out (bw HB.out)); (case side2 => exact HC0.out); rintro e w43 ⟨rfl, hb⟩; refine ⟨_, rfl, ?_⟩; have n0_ := Aside0.mk (Kd.R_below (by refine rx ?_; exact (Kd.R_mono (Kd.R_far (p := ⟨gb796, 1, none⟩) (Kd.R_far (p := ⟨gb796, 0, none⟩) (Kd.R_types HO795.out BK796.out (by decide)) (fun _ hk => hk.2) (.int .i64 1001)) (fun _ hk => hk.2) (.bool false)) (fun _ h_ => h_.1))) hb); have n1_ := Aside0.mk (blk_below (g := gb783) (o := .cells #[.string (⟨#[]⟩ : ByteArray), .int .i64 0, .int .i64 0] 31 (0, 0)) (by refine bx ?_; refine blk_far ?_ NB783_796.out _; refine bx ?_; refine blk_far ?_ NB783_796.out _; refine bx ?_; exact BK783.out) hb); have n2_ := Aside0.mk (blk_below (g := gb788) (o := .cells #[.string x789000_1, .int .i64 x789001_1, .int .i64 x789002_1] 31 (0, 0)) (by refine bx ?_; refine blk_far ?_ NB788_796.out _; refine bx ?_; refine blk_far ?_ NB788_796.out _; refine bx ?_; exact BK788.out) hb); have n3_ := Aside0.mk (blk_below (g := gb796) (o := .cells #[.int .i64 1001, .bool false] 43 (0, 0)) (by refine bx ?_; refine blk_put (cs := #[.int .i64 1001, .bool false]) ?_ 1 _ rfl; refine bx ?_; refine blk_put (cs := #[.int .i64 0, .bool false]) ?_ 0 _ rfl; refine bx ?_; exact BK796.out) hb); have n4_ := bs HB hb; clear HO795; clear BK783; clear BK788; clear BK796; clear HB; have HO795 := n0_; have BK783 := n1_; have BK788 := n2_; have BK796 := n3_; have HB := n4_; clear n0_ n1_ n2_ n3_ n4_; (try clear hb); (try clear hb2); (try clear hk); (try clear hi); have hcz44_0 := b0 BK788; have hcz44_1 := b1 BK788; have hcz44_2 := b2 BK788; have hfz44_0 := fz BK788 0; have hfz44_1 := fz BK788 1; have hfz44_2 := fz BK788 2))
              go_roundg k1
              case measure => have := HK1.out; omega
              case rel => exact ⟨(y793), (wrap64 (x8_1 + 1)), (t802), (t803), (t804), (by first | rfl | (simp; done) | (simp [*]; done)), H', ⟨by have := HK1.out; omega⟩, ⟨by refine rx ?_; exact Kd.R_mono (Kd.R_far (p := ⟨gb788, 2, none⟩) (Kd.R_far (p := ⟨gb788, 1, none⟩) (Kd.R_far (p := ⟨gb788, 0, none⟩) (Kd.R_types HO795.out BK788.out (by decide)) (fun _ hk => hk.2) (.string t802)) (fun _ hk => hk.2) (.int .i64 t803)) (fun _ hk => hk.2) (.int .i64 t804)) (fun _ hk => trivial)⟩, ⟨by refine bx ?_; refine blk_far ?_ NB783_788.out _; refine bx ?_; refine blk_far ?_ NB783_788.out _; refine bx ?_; refine blk_far ?_ NB783_788.out _; refine bx ?_; exact BK783.out⟩, ⟨by refine bx ?_; refine blk_put (cs := #[.string t802, .int .i64 t803, .int .i64 x789002_1]) ?_ 2 _ rfl; refine bx ?_; refine blk_put (cs := #[.string t802, .int .i64 x789001_1, .int .i64 x789002_1]) ?_ 1 _ rfl; refine bx ?_; refine blk_put (cs := #[.string x789000_1, .int .i64 x789001_1, .int .i64 x789002_1]) ?_ 0 _ rfl; refine bx ?_; exact BK788.out⟩, (hbw HB)⟩
          · rw [if_neg c16] at H
            exact absurd H (by simp)
        · rw [if_neg c15] at H
          have c15b0 : (t792 == 0) = false := beq_eq_false_iff_ne.mpr c15
          have c15b1 : (t792 != 0) = true := bne_iff_ne.mpr c15
          simp only [Option.some.injEq, Prod.mk.injEq] at H
          obtain ⟨rfl, rfl, rfl, rfl⟩ := H
          have hnb45 := NB788_783.out
          have hnc45 := NB783_788.out
          have hcz46_0 := b0 BK788
          have hcz46_1 := b1 BK788
          have hcz46_2 := b2 BK788
          have hfz46_0 := fz BK788 0
          have hfz46_1 := fz BK788 1
          have hfz46_2 := fz BK788 2
          go_wp2_with (first | ((with_reducible refine gate_callee (f := 19) rfl ?_); refine goesL_ (some 19) rfl rfl Try.func19 (by kernel_rfl) rfl #[.string x789000_1] rfl mxp ?_; (with_reducible refine (impl_RecEnd.calls k1 x789000_1 t792 _ A14.out).mono ?_); rintro e w47 ⟨rfl, hb⟩; refine ⟨_, rfl, ?_⟩; have n0_ := Aside0.mk (Kd.R_below (rx HO_7.out) hb); have n1_ := up BK783 hb; have n2_ := up BK788 hb; have n3_ := bs HB hb; clear HO_7; clear BK783; clear BK788; clear HB; have HO_7 := n0_; have BK783 := n1_; have BK788 := n2_; have HB := n3_; clear n0_ n1_ n2_ n3_; (try clear hb); (try clear hb2); (try clear hk); (try clear hi); have hcz48_0 := b0 BK788; have hcz48_1 := b1 BK788; have hcz48_2 := b2 BK788; have hfz48_0 := fz BK788 0; have hfz48_1 := fz BK788 1; have hfz48_2 := fz BK788 2; have hcz49_0 := b0 BK783; have hcz49_1 := b1 BK783; have hcz49_2 := b2 BK783; have hfz49_0 := fz BK783 0; have hfz49_1 := fz BK783 1; have hfz49_2 := fz BK783 2))
          refine bodyPost_ret (results_ct rfl _ _ gb783 31 #[.string x789000_1, .int .i64 x789001_1, .int .i64 x789002_1] (0, 0) _ rfl (by refine bx ?_; refine blk_put (cs := #[.string x789000_1, .int .i64 x789001_1, .int .i64 0]) ?_ 2 _ rfl; refine bx ?_; refine blk_put (cs := #[.string x789000_1, .int .i64 0, .int .i64 0]) ?_ 1 _ rfl; refine bx ?_; refine blk_put (cs := #[.string (⟨#[]⟩ : ByteArray), .int .i64 0, .int .i64 0]) ?_ 0 _ rfl; refine bx ?_; exact BK783.out) Try.underlying31 rfl (by kernel_rfl)) rfl ?_
          exact ⟨_, exq, by refine rx ?_; exact Kd.R_mono (Kd.R_far (p := ⟨gb783, 2, none⟩) (Kd.R_far (p := ⟨gb783, 1, none⟩) (Kd.R_far (p := ⟨gb783, 0, none⟩) (Kd.R_types HO_7.out BK783.out (by decide)) (fun _ hk => hk.2) (.string x789000_1)) (fun _ hk => hk.2) (.int .i64 x789001_1)) (fun _ hk => hk.2) (.int .i64 x789002_1)) (fun _ hk => trivial), bw HB.out⟩
  · replace c4 := Bool.eq_false_iff.mpr c4
    subst c4
    have H1 : (some ((⟨#[]⟩ : ByteArray), 0, 0, ([] : List ByteArray))) = some (r1, r2, r3, r4) := by rw [if_neg (show ¬ (false = true) by decide)] at H; exact H
    clear H
    have H := H1
    clear H1
    simp only [Option.some.injEq, Prod.mk.injEq] at H
    obtain ⟨rfl, rfl, rfl, rfl⟩ := H
    go_enter Try.func21, Try.ntmps21
    go_wp2_with (first | ((with_reducible refine gate_dst (N := 4) rfl ?_); refine box_event ?hg (N := 4) ?hd (cs := #[.string (⟨#[]⟩ : ByteArray), .int .i64 0, .int .i64 0]) (t := 31) ?hr ?_; (case hd => rfl); (case hg => rfl); (case hr => first | (go_simp; done) | (go_simp; rfl)); intro gb783 hg w50 hbox hb; have n0_ := bs HB hb; have n1_ := Aside0.mk (hbox); have n2_ := Aside0.mk ((by rw [hg]; exact (below_size (bw HB.out)) : w.heap.size ≤ gb783)); have n3_ := Aside0.mk ((by rw [hg]; exact (below_size (bw HB.out)) : w.heap.size ≤ gb783)); clear HB; have HB := n0_; have BK783 := n1_; have GW783 := n2_; have GE783 := n3_; clear n0_ n1_ n2_ n3_; clear hb hbox hg) | ((with_reducible refine gate_callee (f := 36) rfl ?_); refine goesL_ (some 11) rfl rfl Try.func36 (by kernel_rfl) rfl #[.slice A0 l0.length c0] rfl mxp ?_; (with_reducible refine (impl_RecOk.calls k _ _ l0 false _ ?side1 ?side2 A3.out).mono ?_); (case side1 => exact cx (Kd.C_below HR0.out HB.out)); (case side2 => exact HC0.out); rintro e w51 ⟨rfl, hb⟩; refine ⟨_, rfl, ?_⟩; replace BK783 := up BK783 hb; replace HB := bs HB hb; (try clear hb); (try clear hb2); (try clear hk); (try clear hi); have hcz52_0 := b0 BK783; have hcz52_1 := b1 BK783; have hcz52_2 := b2 BK783; have hfz52_0 := fz BK783 0; have hfz52_1 := fz BK783 1; have hfz52_2 := fz BK783 2))
    refine bodyPost_ret (results_ct rfl _ _ gb783 31 #[.string (⟨#[]⟩ : ByteArray), .int .i64 0, .int .i64 0] (0, 0) _ rfl (by refine bx ?_; refine blk_put (cs := #[.string (⟨#[]⟩ : ByteArray), .int .i64 0, .int .i64 0]) ?_ 2 _ rfl; refine bx ?_; refine blk_put (cs := #[.string (⟨#[]⟩ : ByteArray), .int .i64 0, .int .i64 0]) ?_ 1 _ rfl; refine bx ?_; refine blk_put (cs := #[.string (⟨#[]⟩ : ByteArray), .int .i64 0, .int .i64 0]) ?_ 0 _ rfl; refine bx ?_; exact BK783.out) Try.underlying31 rfl (by kernel_rfl)) rfl ?_
    exact ⟨_, exq, by first | exact Kd.R_nil _ _ _ _ _ | exact Kd.N_nil _ _ _ _ _ | exact Kd.V_nil _ _ _ _ _ | exact Kd.Q_nil _ _ _ _ _ | exact Kd.S_nil _ _ _ _ _, bw HB.out⟩

end Go.Proofs.Ytdkologncoofdaa.P
-- Px18
namespace Go.Proofs.Ytdkologncoofdaa.P
open Go.RowKit Go.Proofs.YtdkologncoofdaaW.PrintWords Go.Proofs.YtdkologncoofdaaW.PrintLast Go.Proofs.YtdkologncoofdaaW.PrintMore
attribute [local go_sem] max2_int min2_int max_two min_two max_three min_three max_four min_four   -- for this text's walks alone
set_option linter.unusedVariables false
set_option linter.unusedSimpArgs false

/-! ### spec_l2At: function 66 -/
def spec_l2At.l0 : Nat → List (S39) → ByteArray → Int → Option (Int)
  | 0, _, _, _ => none
  | k + 1, x0, x1, x5 => if x5 < (x0.length : Int) then (if 0 ≤ x5 then (if ((rd_T39 x0 x5).f0).toList = x1.toList then (some x5) else (spec_l2At.l0 k x0 x1 (wrap64 (x5 + 1)))) else (none)) else (some (-1))
def spec_l2At.f (k : Nat) (l0 : List (S39)) (a1 : ByteArray) : Option (Int) := spec_l2At.l0 k l0 a1 0
theorem spec_l2At.mono_l : ∀ k, (∀ y0 y1 y2, LeO (spec_l2At.l0 k y0 y1 y2) (spec_l2At.l0 (k + 1) y0 y1 y2))
  | 0 => fun _ _ _ r h => by simp [spec_l2At.l0] at h
  | k + 1 => by
    have ih0 := spec_l2At.mono_l k
    · intro y0 y1 y2
      unfold spec_l2At.l0
      repeat' first
      | (with_reducible exact ih0 _ _ _)
      | (with_reducible exact LeO.refl _)
      | (with_reducible exact LeO.none _)
      | (with_reducible refine LeO.ite ?_ ?_)
      | (with_reducible refine LeO.bind ?_ (fun _ => ?_))
      | exact ih0 _ _ _
      | exact LeO.none _
      | refine LeO.ite ?_ ?_
      | refine LeO.bind ?_ (fun _ => ?_)
theorem spec_l2At.mono : ∀ a0 a1 k, LeO (spec_l2At.f k a0 a1) (spec_l2At.f (k + 1) a0 a1) := by
  intro a0 a1 k
  have ih0 := spec_l2At.mono_l k
  unfold spec_l2At.f
  repeat' first
      | (with_reducible exact ih0 _ _ _)
      | (with_reducible exact LeO.refl _)
      | (with_reducible exact LeO.none _)
      | (with_reducible refine LeO.ite ?_ ?_)
      | (with_reducible refine LeO.bind ?_ (fun _ => ?_))
      | exact ih0 _ _ _
      | exact LeO.none _
      | refine LeO.ite ?_ ?_
      | refine LeO.bind ?_ (fun _ => ?_)
set_option maxHeartbeats 8000000 in
set_option maxRecDepth 100000 in
theorem spec_l2At.calls (k : Nat) (A0 : Option Addr) (c0 : Nat) (l0 : List (S39)) (a1 : ByteArray) (r : Int) (w : World) (hr0 : Kd.C k39 w A0 l0.length l0) (hc0 : l0.length ≤ c0) (h : spec_l2At.f k l0 a1 = some r) :
    Calls Try.prog 66 #[.slice A0 l0.length c0, .string a1] w fun e w' => e = .returned (.int .i64 r) ∧ Drawn0 w w' := by
  have HR0 := Aside0.mk hr0
  have HC0 := Aside0.mk hc0
  clear hr0 hc0
  have H : (spec_l2At.l0 k l0 a1 0) = some r := h
  clear h
  have H' := Aside0.mk H
  clear H
  go_enter Try.func66, Try.ntmps66
  go_wp2
  go_loopg [5] k (fun kq v5 w' => ∃ (x5_1 : Int), v5 = .int .i64 x5_1 ∧ Aside0 (spec_l2At.l0 kq l0 a1 x5_1 = some r) ∧ Aside0 (kq ≤ k) ∧ Drawn0 w w')
  case atStart => exact ⟨(0), (by first | rfl | (simp; done) | (simp [*]; done)), H', ⟨Nat.le_refl _⟩, by repeat (first | exact Drawn0.refl _ | apply Drawn0.step)⟩
  case round =>
    clear H'
    try clear p2
    obtain ⟨x5_1, rfl, HA, HK1, ⟨m1, rfl⟩⟩ := hrel
    cases gk with
    | zero => exact absurd HA.out (by simp [spec_l2At.l0])
    | succ k1 =>
      have H := HA.out
      clear HA
      simp only [spec_l2At.l0] at H
      by_cases c3 : x5_1 < (l0.length : Int)
      · rw [if_pos c3] at H
        have c3b0 : decide (x5_1 < (l0.length : Int)) = true := decide_eq_true c3
        clear c3
        by_cases c4 : 0 ≤ x5_1
        · rw [if_pos c4] at H
          have c4b0 : decide (0 ≤ x5_1) = true := decide_eq_true c4
          clear c4
          by_cases c5 : ((rd_T39 l0 x5_1).f0).toList = a1.toList
          · rw [if_pos c5] at H
            have c5b0 : (((rd_T39 l0 x5_1).f0).toList == a1.toList) = true := beq_iff_eq.mpr c5
            have c5b1 : (((rd_T39 l0 x5_1).f0).toList != a1.toList) = false := bne_eq_false_iff_eq.mpr c5
            clear c5
            obtain rfl := Option.some.inj H
            have p167 : 0 ≤ (x5_1 : Int) := of_decide_eq_true (by first | (with_reducible assumption) | assumption)
            have q167 : x5_1 < (l0.length : Int) := of_decide_eq_true (by first | (with_reducible assumption) | assumption)
            obtain ⟨ad167, e167, hx167_0, hx167_1, hx167_2, hx167_3, hx167_4, hx167_5, hx167_6, hx167_7⟩ := at_T39 HR0.out x5_1 p167 q167
            cases e167
            replace p167 := eq_true p167
            replace q167 := eq_true q167
            go_wp2
            go_ret
            exact ⟨by first | rfl | (simp; done) | (simp [*]; done), by repeat (first | exact Drawn0.refl _ | apply Drawn0.step)⟩
          · rw [if_neg c5] at H
            have c5b0 : (((rd_T39 l0 x5_1).f0).toList == a1.toList) = false := beq_eq_false_iff_ne.mpr c5
            have c5b1 : (((rd_T39 l0 x5_1).f0).toList != a1.toList) = true := bne_iff_ne.mpr c5
            have H' := Aside0.mk H
            clear H
            have p167 : 0 ≤ (x5_1 : Int) := of_decide_eq_true (by first | (with_reducible assumption) | assumption)
            have q167 : x5_1 < (l0.length : Int) := of_decide_eq_true (by first | (with_reducible assumption) | assumption)
            obtain ⟨ad167, e167, hx167_0, hx167_1, hx167_2, hx167_3, hx167_4, hx167_5, hx167_6, hx167_7⟩ := at_T39 HR0.out x5_1 p167 q167
            cases e167
            replace p167 := eq_true p167
            replace q167 := eq_true q167
            go_wp2
            go_roundg k1
            case measure => have := HK1.out; omega
            case rel => exact ⟨(wrap64 (x5_1 + 1)), (by first | rfl | (simp; done) | (simp [*]; done)), H', ⟨by have := HK1.out; omega⟩, by repeat (first | exact Drawn0.refl _ | apply Drawn0.step)⟩
        · rw [if_neg c4] at H
          exact absurd H (by simp)
      · rw [if_neg c3] at H
        have c3b0 : decide (x5_1 < (l0.length : Int)) = false := decide_eq_false c3
        clear c3
        obtain rfl := Option.some.inj H
        go_wp2
        go_ret
        exact ⟨by first | rfl | (simp; done) | (simp [*]; done), by repeat (first | exact Drawn0.refl _ | apply Drawn0.step)⟩

end Go.Proofs.Ytdkologncoofdaa.P
-- Px3
namespace Go.Proofs.Ytdkologncoofdaa.P
open Go.RowKit Go.Proofs.YtdkologncoofdaaW.PrintWords Go.Proofs.YtdkologncoofdaaW.PrintLast Go.Proofs.YtdkologncoofdaaW.PrintMore
attribute [local go_sem] max2_int min2_int max_two min_two max_three min_three max_four min_four   -- for this text's walks alone
set_option linter.unusedVariables false
set_option linter.unusedSimpArgs false

/-! ### spec_RecEnd: function 18 -/
def spec_RecEnd.f (a0 : ByteArray) : Option (Int) := if a0.toList = ([103, 111, 111, 100] : List UInt8) then (some 1) else (if a0.toList = ([115, 97, 118, 101, 100] : List UInt8) then (some 2) else (if a0.toList = ([115, 99, 114, 97, 112, 112, 101, 100] : List UInt8) then (some 3) else (some 0)))
set_option maxHeartbeats 8000000 in
set_option maxRecDepth 100000 in
theorem spec_RecEnd.calls (a0 : ByteArray) (r : Int) (w : World) (h : spec_RecEnd.f a0 = some r) :
    Calls Try.prog 18 #[.string a0] w fun e w' => e = .returned (.int .i64 r) ∧ Drawn0 w w' := by
  have H : (if a0.toList = ([103, 111, 111, 100] : List UInt8) then (some 1) else (if a0.toList = ([115, 97, 118, 101, 100] : List UInt8) then (some 2) else (if a0.toList = ([115, 99, 114, 97, 112, 112, 101, 100] : List UInt8) then (some 3) else (some 0)))) = some r := h
  clear h
  by_cases c2 : a0.toList = ([103, 111, 111, 100] : List UInt8)
  · rw [if_pos c2] at H
    have c2b0 : (a0.toList == ([103, 111, 111, 100] : List UInt8)) = true := beq_iff_eq.mpr c2
    have c2b1 : (a0.toList != ([103, 111, 111, 100] : List UInt8)) = false := bne_eq_false_iff_eq.mpr c2
    clear c2
    obtain rfl := Option.some.inj H
    go_enter Try.func18, Try.ntmps18
    go_wp2
    go_ret
    exact ⟨by first | rfl | (simp; done) | (simp [*]; done), by repeat (first | exact Drawn0.refl _ | apply Drawn0.step)⟩
  · rw [if_neg c2] at H
    have c2b0 : (a0.toList == ([103, 111, 111, 100] : List UInt8)) = false := beq_eq_false_iff_ne.mpr c2
    have c2b1 : (a0.toList != ([103, 111, 111, 100] : List UInt8)) = true := bne_iff_ne.mpr c2
    by_cases c3 : a0.toList = ([115, 97, 118, 101, 100] : List UInt8)
    · rw [if_pos c3] at H
      have c3b0 : (a0.toList == ([115, 97, 118, 101, 100] : List UInt8)) = true := beq_iff_eq.mpr c3
      have c3b1 : (a0.toList != ([115, 97, 118, 101, 100] : List UInt8)) = false := bne_eq_false_iff_eq.mpr c3
      clear c3
      obtain rfl := Option.some.inj H
      go_enter Try.func18, Try.ntmps18
      go_wp2
      go_ret
      exact ⟨by first | rfl | (simp; done) | (simp [*]; done), by repeat (first | exact Drawn0.refl _ | apply Drawn0.step)⟩
    · rw [if_neg c3] at H
      have c3b0 : (a0.toList == ([115, 97, 118, 101, 100] : List UInt8)) = false := beq_eq_false_iff_ne.mpr c3
      have c3b1 : (a0.toList != ([115, 97, 118, 101, 100] : List UInt8)) = true := bne_iff_ne.mpr c3
      by_cases c4 : a0.toList = ([115, 99, 114, 97, 112, 112, 101, 100] : List UInt8)
      · rw [if_pos c4] at H
        have c4b0 : (a0.toList == ([115, 99, 114, 97, 112, 112, 101, 100] : List UInt8)) = true := beq_iff_eq.mpr c4
        have c4b1 : (a0.toList != ([115, 99, 114, 97, 112, 112, 101, 100] : List UInt8)) = false := bne_eq_false_iff_eq.mpr c4
        clear c4
        obtain rfl := Option.some.inj H
        go_enter Try.func18, Try.ntmps18
        go_wp2
        go_ret
        exact ⟨by first | rfl | (simp; done) | (simp [*]; done), by repeat (first | exact Drawn0.refl _ | apply Drawn0.step)⟩
      · rw [if_neg c4] at H
        have c4b0 : (a0.toList == ([115, 99, 114, 97, 112, 112, 101, 100] : List UInt8)) = false := beq_eq_false_iff_ne.mpr c4
        have c4b1 : (a0.toList != ([115, 99, 114, 97, 112, 112, 101, 100] : List UInt8)) = true := bne_iff_ne.mpr c4
        obtain rfl := Option.some.inj H
        go_enter Try.func18, Try.ntmps18
        go_wp2
        go_ret
        exact ⟨by first | rfl | (simp; done) | (simp [*]; done), by repeat (first | exact Drawn0.refl _ | apply Drawn0.step)⟩

end Go.Proofs.Ytdkologncoofdaa.P
-- Px8
namespace Go.Proofs.Ytdkologncoofdaa.P
open Go.RowKit Go.Proofs.YtdkologncoofdaaW.PrintWords Go.Proofs.YtdkologncoofdaaW.PrintLast Go.Proofs.YtdkologncoofdaaW.PrintMore
attribute [local go_sem] max2_int min2_int max_two min_two max_three min_three max_four min_four   -- for this text's walks alone
set_option linter.unusedVariables false
set_option linter.unusedSimpArgs false

/-! ### spec_l1In: function 67 -/
def spec_l1In.f (a0 : Int) (a1 : Int) (a2 : Int) : Option (Bool) := if a0 ≥ a1 then (some (decide (a0 ≤ a2))) else (some false)
set_option maxHeartbeats 8000000 in
set_option maxRecDepth 100000 in
theorem spec_l1In.calls (a0 : Int) (a1 : Int) (a2 : Int) (r : Bool) (w : World) (h : spec_l1In.f a0 a1 a2 = some r) :
    Calls Try.prog 67 #[.int .i64 a0, .int .i64 a1, .int .i64 a2] w fun e w' => e = .returned (.bool r) ∧ Drawn0 w w' := by
  have H : (if a0 ≥ a1 then (some (decide (a0 ≤ a2))) else (some false)) = some r := h
  clear h
  by_cases c4 : a0 ≥ a1
  · rw [if_pos c4] at H
    have c4b0 : decide (a1 ≤ a0) = true := decide_eq_true c4
    clear c4
    obtain rfl := Option.some.inj H
    go_enter Try.func67, Try.ntmps67
    go_wp2
    go_ret
    exact ⟨by first | rfl | (simp; done) | (simp [*]; done), by repeat (first | exact Drawn0.refl _ | apply Drawn0.step)⟩
  · rw [if_neg c4] at H
    have c4b0 : decide (a1 ≤ a0) = false := decide_eq_false c4
    clear c4
    obtain rfl := Option.some.inj H
    go_enter Try.func67, Try.ntmps67
    go_wp2
    go_ret
    exact ⟨by first | rfl | (simp; done) | (simp [*]; done), by repeat (first | exact Drawn0.refl _ | apply Drawn0.step)⟩

end Go.Proofs.Ytdkologncoofdaa.P
-- Px9
namespace Go.Proofs.Ytdkologncoofdaa.P
open Go.RowKit Go.Proofs.YtdkologncoofdaaW.PrintWords Go.Proofs.YtdkologncoofdaaW.PrintLast Go.Proofs.YtdkologncoofdaaW.PrintMore
attribute [local go_sem] max2_int min2_int max_two min_two max_three min_three max_four min_four   -- for this text's walks alone
set_option linter.unusedVariables false
set_option linter.unusedSimpArgs false

/-! ### spec_l1NameOk: function 77 -/
def spec_l1NameOk.l0 : Nat → ByteArray → Int → Option (Bool)
  | 0, _, _ => none
  | k + 1, x0, x3 => if x3 < (x0.size : Int) then (if 0 ≤ x3 then (if (bt x0 x3) ≥ 97 then (if (bt x0 x3) ≤ 122 then (spec_l1NameOk.l0 k x0 (wrap64 (x3 + 1))) else (if (bt x0 x3) ≥ 48 then (if (bt x0 x3) ≤ 57 then (spec_l1NameOk.l0 k x0 (wrap64 (x3 + 1))) else (if ((bt x0 x3) = 45) then (spec_l1NameOk.l0 k x0 (wrap64 (x3 + 1))) else (some false))) else (if ((bt x0 x3) = 45) then (spec_l1NameOk.l0 k x0 (wrap64 (x3 + 1))) else (some false)))) else (if (bt x0 x3) ≥ 48 then (if (bt x0 x3) ≤ 57 then (spec_l1NameOk.l0 k x0 (wrap64 (x3 + 1))) else (if ((bt x0 x3) = 45) then (spec_l1NameOk.l0 k x0 (wrap64 (x3 + 1))) else (some false))) else (if ((bt x0 x3) = 45) then (spec_l1NameOk.l0 k x0 (wrap64 (x3 + 1))) else (some false)))) else (none)) else (some true)
def spec_l1NameOk.f (k : Nat) (a0 : ByteArray) : Option (Bool) := (spec_l1In.f (a0.size : Int) 1 8).bind fun t113 => (if t113 = true then (spec_l1NameOk.l0 k a0 0) else (some false))
theorem spec_l1NameOk.mono_l : ∀ k, (∀ y0 y1, LeO (spec_l1NameOk.l0 k y0 y1) (spec_l1NameOk.l0 (k + 1) y0 y1))
  | 0 => fun _ _ r h => by simp [spec_l1NameOk.l0] at h
  | k + 1 => by
    have ih0 := spec_l1NameOk.mono_l k
    · intro y0 y1
      unfold spec_l1NameOk.l0
      repeat' first
      | (with_reducible exact ih0 _ _)
      | (with_reducible exact LeO.refl _)
      | (with_reducible exact LeO.none _)
      | (with_reducible refine LeO.ite ?_ ?_)
      | (with_reducible refine LeO.bind ?_ (fun _ => ?_))
      | exact ih0 _ _
      | exact LeO.none _
      | refine LeO.ite ?_ ?_
      | refine LeO.bind ?_ (fun _ => ?_)
theorem spec_l1NameOk.mono : ∀ a0 k, LeO (spec_l1NameOk.f k a0) (spec_l1NameOk.f (k + 1) a0) := by
  intro a0 k
  have ih0 := spec_l1NameOk.mono_l k
  unfold spec_l1NameOk.f
  repeat' first
      | (with_reducible exact ih0 _ _)
      | (with_reducible exact LeO.refl _)
      | (with_reducible exact LeO.none _)
      | (with_reducible refine LeO.ite ?_ ?_)
      | (with_reducible refine LeO.bind ?_ (fun _ => ?_))
      | exact ih0 _ _
      | exact LeO.none _
      | refine LeO.ite ?_ ?_
      | refine LeO.bind ?_ (fun _ => ?_)
set_option maxHeartbeats 8000000 in
set_option maxRecDepth 100000 in
theorem spec_l1NameOk.calls (k : Nat) (a0 : ByteArray) (r : Bool) (w : World) (h : spec_l1NameOk.f k a0 = some r) :
    Calls Try.prog 77 #[.string a0] w fun e w' => e = .returned (.bool r) ∧ Drawn0 w w' := by
  have H : ((spec_l1In.f (a0.size : Int) 1 8).bind fun t113 => (if t113 = true then (spec_l1NameOk.l0 k a0 0) else (some false))) = some r := h
  clear h
  replace H := Option.bind_eq_some_iff.mp H
  obtain ⟨t113, A20, H⟩ := H
  replace H : (if t113 = true then (spec_l1NameOk.l0 k a0 0) else (some false)) = some r := H
  have A2 := Aside0.mk A20
  clear A20
  by_cases c3 : t113 = true
  · subst c3
    have H1 : (spec_l1NameOk.l0 k a0 0) = some r := by rw [if_pos rfl] at H; exact H
    clear H
    have H := H1
    clear H1
    have H' := Aside0.mk H
    clear H
    go_enter Try.func77, Try.ntmps77
    go_wp2_with (first | ((with_reducible refine gate_callee (f := 67) rfl ?_); refine goesL_ (some 7) rfl rfl Try.func67 (by kernel_rfl) rfl #[.int .i64 (a0.size : Int), .int .i64 1, .int .i64 8] rfl mxp ?_; (with_reducible refine (spec_l1In.calls (a0.size : Int) 1 8 true _ A2.out).mono ?_); rintro e w' ⟨rfl, ⟨nd, rfl⟩⟩; refine ⟨_, rfl, ?_⟩))
    go_loopg [3] k (fun kq v3 w' => ∃ (x3_1 : Int), v3 = .int .i64 x3_1 ∧ Aside0 (spec_l1NameOk.l0 kq a0 x3_1 = some r) ∧ Aside0 (kq ≤ k) ∧ Drawn0 w w')
    case atStart => exact ⟨(0), (by first | rfl | (simp; done) | (simp [*]; done)), H', ⟨Nat.le_refl _⟩, by repeat (first | exact Drawn0.refl _ | apply Drawn0.step)⟩
    case round =>
      clear H'
      try clear p2
      try clear c3
      obtain ⟨x3_1, rfl, HA, HK1, ⟨m1, rfl⟩⟩ := hrel
      cases gk with
      | zero => exact absurd HA.out (by simp [spec_l1NameOk.l0])
      | succ k1 =>
        have H := HA.out
        clear HA
        simp only [spec_l1NameOk.l0] at H
        by_cases c4 : x3_1 < (a0.size : Int)
        · rw [if_pos c4] at H
          have c4b0 : decide (x3_1 < (a0.size : Int)) = true := decide_eq_true c4
          clear c4
          by_cases c5 : 0 ≤ x3_1
          · rw [if_pos c5] at H
            have c5b0 : decide (0 ≤ x3_1) = true := decide_eq_true c5
            clear c5
            by_cases c7 : (bt a0 x3_1) ≥ 97
            · rw [if_pos c7] at H
              have c7b0 : decide (97 ≤ (bt a0 x3_1)) = true := decide_eq_true c7
              clear c7
              by_cases c8 : (bt a0 x3_1) ≤ 122
              · rw [if_pos c8] at H
                have c8b0 : decide ((bt a0 x3_1) ≤ 122) = true := decide_eq_true c8
                clear c8
                have H' := Aside0.mk H
                clear H
                have p6 : 0 ≤ (x3_1 : Int) := of_decide_eq_true (by first | (with_reducible assumption) | assumption)
                have q6 : x3_1 < (a0.size : Int) := of_decide_eq_true (by first | (with_reducible assumption) | assumption)
                have hx6 := bt_at a0 x3_1
                replace p6 := eq_true p6
                replace q6 := eq_true q6
                go_wp2
                go_roundg k1
                case measure => have := HK1.out; omega
                case rel => exact ⟨(wrap64 (x3_1 + 1)), (by first | rfl | (simp; done) | (simp [*]; done)), H', ⟨by have := HK1.out; omega⟩, by repeat (first | exact Drawn0.refl _ | apply Drawn0.step)⟩
              · rw [if_neg c8] at H
                have c8b0 : decide ((bt a0 x3_1) ≤ 122) = false := decide_eq_false c8
                clear c8
                by_cases c9 : (bt a0 x3_1) ≥ 48
                · rw [if_pos c9] at H
                  have c9b0 : decide (48 ≤ (bt a0 x3_1)) = true := decide_eq_true c9
                  clear c9
                  by_cases c10 : (bt a0 x3_1) ≤ 57
                  · rw [if_pos c10] at H
                    have c10b0 : decide ((bt a0 x3_1) ≤ 57) = true := decide_eq_true c10
                    clear c10
                    have H' := Aside0.mk H
                    clear H
                    have p6 : 0 ≤ (x3_1 : Int) := of_decide_eq_true (by first | (with_reducible assumption) | assumption)
                    have q6 : x3_1 < (a0.size : Int) := of_decide_eq_true (by first | (with_reducible assumption) | assumption)
                    have hx6 := bt_at a0 x3_1
                    replace p6 := eq_true p6
                    replace q6 := eq_true q6
                    go_wp2
                    go_roundg k1
                    case measure => have := HK1.out; omega
                    case rel => exact ⟨(wrap64 (x3_1 + 1)), (by first | rfl | (simp; done) | (simp [*]; done)), H', ⟨by have := HK1.out; omega⟩, by repeat (first | exact Drawn0.refl _ | apply Drawn0.step)⟩
                  · rw [if_neg c10] at H
                    have c10b0 : decide ((bt a0 x3_1) ≤ 57) = false := decide_eq_false c10
                    clear c10
                    by_cases c11 : ((bt a0 x3_1) = 45)
                    · rw [if_pos c11] at H
                      have c11b0 : ((bt a0 x3_1) == 45) = true := beq_iff_eq.mpr c11
                      have c11b1 : ((bt a0 x3_1) != 45) = false := bne_eq_false_iff_eq.mpr c11
                      clear c11
                      have H' := Aside0.mk H
                      clear H
                      have p6 : 0 ≤ (x3_1 : Int) := of_decide_eq_true (by first | (with_reducible assumption) | assumption)
                      have q6 : x3_1 < (a0.size : Int) := of_decide_eq_true (by first | (with_reducible assumption) | assumption)
                      have hx6 := bt_at a0 x3_1
                      replace p6 := eq_true p6
                      replace q6 := eq_true q6
                      go_wp2
                      go_roundg k1
                      case measure => have := HK1.out; omega
                      case rel => exact ⟨(wrap64 (x3_1 + 1)), (by first | rfl | (simp; done) | (simp [*]; done)), H', ⟨by have := HK1.out; omega⟩, by repeat (first | exact Drawn0.refl _ | apply Drawn0.step)⟩
                    · rw [if_neg c11] at H
                      have c11b0 : ((bt a0 x3_1) == 45) = false := beq_eq_false_iff_ne.mpr c11
                      have c11b1 : ((bt a0 x3_1) != 45) = true := bne_iff_ne.mpr c11
                      obtain rfl := Option.some.inj H
                      have p6 : 0 ≤ (x3_1 : Int) := of_decide_eq_true (by first | (with_reducible assumption) | assumption)
                      have q6 : x3_1 < (a0.size : Int) := of_decide_eq_true (by first | (with_reducible assumption) | assumption)
                      have hx6 := bt_at a0 x3_1
                      replace p6 := eq_true p6
                      replace q6 := eq_true q6
                      go_wp2
                      go_ret
                      exact ⟨by first | rfl | (simp; done) | (simp [*]; done), by repeat (first | exact Drawn0.refl _ | apply Drawn0.step)⟩
                · rw [if_neg c9] at H
                  have c9b0 : decide (48 ≤ (bt a0 x3_1)) = false := decide_eq_false c9
                  clear c9
                  by_cases c12 : ((bt a0 x3_1) = 45)
                  · rw [if_pos c12] at H
                    have c12b0 : ((bt a0 x3_1) == 45) = true := beq_iff_eq.mpr c12
                    have c12b1 : ((bt a0 x3_1) != 45) = false := bne_eq_false_iff_eq.mpr c12
                    clear c12
                    have H' := Aside0.mk H
                    clear H
                    have p6 : 0 ≤ (x3_1 : Int) := of_decide_eq_true (by first | (with_reducible assumption) | assumption)
                    have q6 : x3_1 < (a0.size : Int) := of_decide_eq_true (by first | (with_reducible assumption) | assumption)
                    have hx6 := bt_at a0 x3_1
                    replace p6 := eq_true p6
                    replace q6 := eq_true q6
                    go_wp2
                    go_roundg k1
                    case measure => have := HK1.out; omega
                    case rel => exact ⟨(wrap64 (x3_1 + 1)), (by first | rfl | (simp; done) | (simp [*]; done)), H', ⟨by have := HK1.out; omega⟩, by repeat (first | exact Drawn0.refl _ | apply Drawn0.step)⟩
                  · rw [if_neg c12] at H
                    have c12b0 : ((bt a0 x3_1) == 45) = false := beq_eq_false_iff_ne.mpr c12
                    have c12b1 : ((bt a0 x3_1) != 45) = true := bne_iff_ne.mpr c12
                    obtain rfl := Option.some.inj H
                    have p6 : 0 ≤ (x3_1 : Int) := of_decide_eq_true (by first | (with_reducible assumption) | assumption)
                    have q6 : x3_1 < (a0.size : Int) := of_decide_eq_true (by first | (with_reducible assumption) | assumption)
                    have hx6 := bt_at a0 x3_1
                    replace p6 := eq_true p6
                    replace q6 := eq_true q6
                    go_wp2
                    go_ret
                    exact ⟨by first | rfl | (simp; done) | (simp [*]; done), by repeat (first | exact Drawn0.refl _ | apply Drawn0.step)⟩
            · rw [if_neg c7] at H
              have c7b0 : decide (97 ≤ (bt a0 x3_1)) = false := decide_eq_false c7
              clear c7
              by_cases c13 : (bt a0 x3_1) ≥ 48
              · rw [if_pos c13] at H
                have c13b0 : decide (48 ≤ (bt a0 x3_1)) = true := decide_eq_true c13
                clear c13
                by_cases c14 : (bt a0 x3_1) ≤ 57
                · rw [if_pos c14] at H
                  have c14b0 : decide ((bt a0 x3_1) ≤ 57) = true := decide_eq_true c14
                  clear c14
                  have H' := Aside0.mk H
                  clear H
                  have p6 : 0 ≤ (x3_1 : Int) := of_decide_eq_true (by first | (with_reducible assumption) | assumption)
                  have q6 : x3_1 < (a0.size : Int) := of_decide_eq_true (by first | (with_reducible assumption) | assumption)
                  have hx6 := bt_at a0 x3_1
                  replace p6 := eq_true p6
                  replace q6 := eq_true q6
                  go_wp2
                  go_roundg k1
                  case measure => have := HK1.out; omega
                  case rel => exact ⟨(wrap64 (x3_1 + 1)), (by first | rfl | (simp; done) | (simp [*]; done)), H', ⟨by have := HK1.out; omega⟩, by repeat (first | exact Drawn0.refl _ | apply Drawn0.step)⟩
                · rw [if_neg c14] at H
                  have c14b0 : decide ((bt a0 x3_1) ≤ 57) = false := decide_eq_false c14
                  clear c14
                  by_cases c15 : ((bt a0 x3_1) = 45)
                  · rw [if_pos c15] at H
                    have c15b0 : ((bt a0 x3_1) == 45) = true := beq_iff_eq.mpr c15
                    have c15b1 : ((bt a0 x3_1) != 45) = false := bne_eq_false_iff_eq.mpr c15
                    clear c15
                    have H' := Aside0.mk H
                    clear H
                    have p6 : 0 ≤ (x3_1 : Int) := of_decide_eq_true (by first | (with_reducible assumption) | assumption)
                    have q6 : x3_1 < (a0.size : Int) := of_decide_eq_true (by first | (with_reducible assumption) | assumption)
                    have hx6 := bt_at a0 x3_1
                    replace p6 := eq_true p6
                    replace q6 := eq_true q6
                    go_wp2
                    go_roundg k1
                    case measure => have := HK1.out; omega
                    case rel => exact ⟨(wrap64 (x3_1 + 1)), (by first | rfl | (simp; done) | (simp [*]; done)), H', ⟨by have := HK1.out; omega⟩, by repeat (first | exact Drawn0.refl _ | apply Drawn0.step)⟩
                  · rw [if_neg c15] at H
                    have c15b0 : ((bt a0 x3_1) == 45) = false := beq_eq_false_iff_ne.mpr c15
                    have c15b1 : ((bt a0 x3_1) != 45) = true := bne_iff_ne.mpr c15
                    obtain rfl := Option.some.inj H
                    have p6 : 0 ≤ (x3_1 : Int) := of_decide_eq_true (by first | (with_reducible assumption) | assumption)
                    have q6 : x3_1 < (a0.size : Int) := of_decide_eq_true (by first | (with_reducible assumption) | assumption)
                    have hx6 := bt_at a0 x3_1
                    replace p6 := eq_true p6
                    replace q6 := eq_true q6
                    go_wp2
                    go_ret
                    exact ⟨by first | rfl | (simp; done) | (simp [*]; done), by repeat (first | exact Drawn0.refl _ | apply Drawn0.step)⟩
              · rw [if_neg c13] at H
                have c13b0 : decide (48 ≤ (bt a0 x3_1)) = false := decide_eq_false c13
                clear c13
                by_cases c16 : ((bt a0 x3_1) = 45)
                · rw [if_pos c16] at H
                  have c16b0 : ((bt a0 x3_1) == 45) = true := beq_iff_eq.mpr c16
                  have c16b1 : ((bt a0 x3_1) != 45) = false := bne_eq_false_iff_eq.mpr c16
                  clear c16
                  have H' := Aside0.mk H
                  clear H
                  have p6 : 0 ≤ (x3_1 : Int) := of_decide_eq_true (by first | (with_reducible assumption) | assumption)
                  have q6 : x3_1 < (a0.size : Int) := of_decide_eq_true (by first | (with_reducible assumption) | assumption)
                  have hx6 := bt_at a0 x3_1
                  replace p6 := eq_true p6
                  replace q6 := eq_true q6
                  go_wp2
                  go_roundg k1
                  case measure => have := HK1.out; omega
                  case rel => exact ⟨(wrap64 (x3_1 + 1)), (by first | rfl | (simp; done) | (simp [*]; done)), H', ⟨by have := HK1.out; omega⟩, by repeat (first | exact Drawn0.refl _ | apply Drawn0.step)⟩
                · rw [if_neg c16] at H
                  have c16b0 : ((bt a0 x3_1) == 45) = false := beq_eq_false_iff_ne.mpr c16
                  have c16b1 : ((bt a0 x3_1) != 45) = true := bne_iff_ne.mpr c16
                  obtain rfl := Option.some.inj H
                  have p6 : 0 ≤ (x3_1 : Int) := of_decide_eq_true (by first | (with_reducible assumption) | assumption)
                  have q6 : x3_1 < (a0.size : Int) := of_decide_eq_true (by first | (with_reducible assumption) | assumption)
                  have hx6 := bt_at a0 x3_1
                  replace p6 := eq_true p6
                  replace q6 := eq_true q6
                  go_wp2
                  go_ret
                  exact ⟨by first | rfl | (simp; done) | (simp [*]; done), by repeat (first | exact Drawn0.refl _ | apply Drawn0.step)⟩
          · rw [if_neg c5] at H
            exact absurd H (by simp)
        · rw [if_neg c4] at H
          have c4b0 : decide (x3_1 < (a0.size : Int)) = false := decide_eq_false c4
          clear c4
          obtain rfl := Option.some.inj H
          go_wp2
          go_ret
          exact ⟨by first | rfl | (simp; done) | (simp [*]; done), by repeat (first | exact Drawn0.refl _ | apply Drawn0.step)⟩
  · replace c3 := Bool.eq_false_iff.mpr c3
    subst c3
    have H1 : (some false) = some r := by rw [if_neg (show ¬ (false = true) by decide)] at H; exact H
    clear H
    have H := H1
    clear H1
    obtain rfl := Option.some.inj H
    go_enter Try.func77, Try.ntmps77
    go_wp2_with (first | ((with_reducible refine gate_callee (f := 67) rfl ?_); refine goesL_ (some 7) rfl rfl Try.func67 (by kernel_rfl) rfl #[.int .i64 (a0.size : Int), .int .i64 1, .int .i64 8] rfl mxp ?_; (with_reducible refine (spec_l1In.calls (a0.size : Int) 1 8 false _ A2.out).mono ?_); rintro e w' ⟨rfl, ⟨nd, rfl⟩⟩; refine ⟨_, rfl, ?_⟩))
    go_ret
    exact ⟨by first | rfl | (simp; done) | (simp [*]; done), by repeat (first | exact Drawn0.refl _ | apply Drawn0.step)⟩

end Go.Proofs.Ytdkologncoofdaa.P
-- Px10
namespace Go.Proofs.Ytdkologncoofdaa.P
open Go.RowKit Go.Proofs.YtdkologncoofdaaW.PrintWords Go.Proofs.YtdkologncoofdaaW.PrintLast Go.Proofs.YtdkologncoofdaaW.PrintMore
attribute [local go_sem] max2_int min2_int max_two min_two max_three min_three max_four min_four   -- for this text's walks alone
set_option linter.unusedVariables false
set_option linter.unusedSimpArgs false

/-! ### spec_l1PlainOk: function 75 -/
def spec_l1PlainOk.f (k : Nat) (a0 : ByteArray) : Option (Bool) := (spec_l1NameOk.f k a0).bind fun t114 => (if t114 = true then ((spec_RecEnd.f a0).bind fun t115 => (some (t115 == 0))) else (some false))
theorem spec_l1PlainOk.mono : ∀ a0 k, LeO (spec_l1PlainOk.f k a0) (spec_l1PlainOk.f (k + 1) a0) := by
  intro a0 k
  unfold spec_l1PlainOk.f
  repeat' first
      | (with_reducible exact spec_l1NameOk.mono _ _)
      | (with_reducible exact LeO.refl _)
      | (with_reducible exact LeO.none _)
      | (with_reducible refine LeO.ite ?_ ?_)
      | (with_reducible refine LeO.bind ?_ (fun _ => ?_))
      | exact spec_l1NameOk.mono _ _
      | exact LeO.none _
      | refine LeO.ite ?_ ?_
      | refine LeO.bind ?_ (fun _ => ?_)
set_option maxHeartbeats 8000000 in
set_option maxRecDepth 100000 in
theorem spec_l1PlainOk.calls (k : Nat) (a0 : ByteArray) (r : Bool) (w : World) (h : spec_l1PlainOk.f k a0 = some r) :
    Calls Try.prog 75 #[.string a0] w fun e w' => e = .returned (.bool r) ∧ Drawn0 w w' := by
  have H : ((spec_l1NameOk.f k a0).bind fun t114 => (if t114 = true then ((spec_RecEnd.f a0).bind fun t115 => (some (t115 == 0))) else (some false))) = some r := h
  clear h
  replace H := Option.bind_eq_some_iff.mp H
  obtain ⟨t114, A20, H⟩ := H
  replace H : (if t114 = true then ((spec_RecEnd.f a0).bind fun t115 => (some (t115 == 0))) else (some false)) = some r := H
  have A2 := Aside0.mk A20
  clear A20
  by_cases c3 : t114 = true
  · subst c3
    have H1 : ((spec_RecEnd.f a0).bind fun t115 => (some (t115 == 0))) = some r := by rw [if_pos rfl] at H; exact H
    clear H
    have H := H1
    clear H1
    replace H := Option.bind_eq_some_iff.mp H
    obtain ⟨t115, A40, H⟩ := H
    replace H : (some (t115 == 0)) = some r := H
    have A4 := Aside0.mk A40
    clear A40
    obtain rfl := Option.some.inj H
    go_enter Try.func75, Try.ntmps75
    go_wp2_with (first | ((with_reducible refine gate_callee (f := 77) rfl ?_); refine goesL_ (some 4) rfl rfl Try.func77 (by kernel_rfl) rfl #[.string a0] rfl mxp ?_; (with_reducible refine (spec_l1NameOk.calls k a0 true _ A2.out).mono ?_); rintro e w' ⟨rfl, ⟨nd, rfl⟩⟩; refine ⟨_, rfl, ?_⟩) | (go_at_call 18; (with_reducible refine (spec_RecEnd.calls a0 t115 _ A4.out).mono ?_); rintro e w' ⟨rfl, ⟨nd, rfl⟩⟩))
    go_ret
    exact ⟨by first | rfl | (simp; done) | (simp [*]; done), by repeat (first | exact Drawn0.refl _ | apply Drawn0.step)⟩
  · replace c3 := Bool.eq_false_iff.mpr c3
    subst c3
    have H1 : (some false) = some r := by rw [if_neg (show ¬ (false = true) by decide)] at H; exact H
    clear H
    have H := H1
    clear H1
    obtain rfl := Option.some.inj H
    go_enter Try.func75, Try.ntmps75
    go_wp2_with (first | ((with_reducible refine gate_callee (f := 77) rfl ?_); refine goesL_ (some 4) rfl rfl Try.func77 (by kernel_rfl) rfl #[.string a0] rfl mxp ?_; (with_reducible refine (spec_l1NameOk.calls k a0 false _ A2.out).mono ?_); rintro e w' ⟨rfl, ⟨nd, rfl⟩⟩; refine ⟨_, rfl, ?_⟩))
    go_ret
    exact ⟨by first | rfl | (simp; done) | (simp [*]; done), by repeat (first | exact Drawn0.refl _ | apply Drawn0.step)⟩

end Go.Proofs.Ytdkologncoofdaa.P
