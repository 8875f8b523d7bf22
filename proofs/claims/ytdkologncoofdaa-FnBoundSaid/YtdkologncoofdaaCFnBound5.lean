/- Part 5 of the texts that the law FnBound reaches: contracts of the functions and plain lemmas. -/
import Derived.Test.YtdkologncoofdaaCFnBound2
import Derived.Test.YtdkologncoofdaaCFnBound4
import Derived.Maps.OwnSet
import Derived.Maps.Ext
import Derived.Maps.OwnOps
import Derived.Maps.RangeWalk
import Derived.Laws.EntriesVeiled
import Derived.WalkSpells
import Derived.StillTailTactics
import Derived.Lib.SlicesCompact
import Derived.Shelf.Sort.Plain
import Derived.Shelf.Slices.CompactS
import Derived.Test.YtdkologncoofdaaProg
import Derived.Sort.OwnSorted
import Derived.Sort.KeysCollected
import Derived.Lib.OwnBridge
import Derived.Sort.Grow
import Derived.Sort.Walk0
-- Px34
namespace Go.Proofs.Ytdkologncoofdaa.P
open Go.RowKit Go.Proofs.YtdkologncoofdaaW.PrintWords Go.Proofs.YtdkologncoofdaaW.PrintLast Go.Proofs.YtdkologncoofdaaW.PrintMore
attribute [local go_sem] max2_int min2_int max_two min_two max_three min_three max_four min_four   -- for this text's walks alone
set_option linter.unusedVariables false
set_option linter.unusedSimpArgs false

/-! ### laws_eqRecPhaseS: function 39 -/
def laws_eqRecPhaseS.l0 : Nat → List (S39) → List (S39) → Int → Option (Bool)
 | 0, _, _, _ => none
 | k + 1, x0, x1, x5 => if x5 < (x0.length : Int) then (if 0 ≤ x5 then (if x5 < (x1.length : Int) then ((laws_eqRecPhase.f ((rd_T39 x0 x5).f0) ((rd_T39 x0 x5).f1) ((rd_T39 x0 x5).f2) ((rd_T39 x0 x5).f3) ((rd_T39 x0 x5).f4) ((rd_T39 x0 x5).f5) ((rd_T39 x0 x5).f6) ((rd_T39 x0 x5).f7) ((rd_T39 x1 x5).f0) ((rd_T39 x1 x5).f1) ((rd_T39 x1 x5).f2) ((rd_T39 x1 x5).f3) ((rd_T39 x1 x5).f4) ((rd_T39 x1 x5).f5) ((rd_T39 x1 x5).f6) ((rd_T39 x1 x5).f7)).bind fun t367 => (if t367 = true then (laws_eqRecPhaseS.l0 k x0 x1 (wrap64 (x5 + 1))) else (some false))) else (none)) else (none)) else (some true)
def laws_eqRecPhaseS.f (k : Nat) (l0 : List (S39)) (l1 : List (S39)) : Option (Bool) := if (l0.length : Int) = (l1.length : Int) then (laws_eqRecPhaseS.l0 k l0 l1 0) else (some false)
theorem laws_eqRecPhaseS.mono_l : ∀ k, (∀ y0 y1 y2, LeO (laws_eqRecPhaseS.l0 k y0 y1 y2) (laws_eqRecPhaseS.l0 (k + 1) y0 y1 y2))
 | 0 => fun _ _ _ r h => by simp [laws_eqRecPhaseS.l0] at h
 | k + 1 => by
  have ih0 := laws_eqRecPhaseS.mono_l k
  ·intro y0 y1 y2
   unfold laws_eqRecPhaseS.l0
   repeat' first
   | (with_reducible exact ih0 _ _ _)
   | (with_reducible exact LeO.refl _)
   | (with_reducible exact LeO.none _)
   | (with_reducible refine LeO.ite ?_ ?_)
   | (with_reducible refine LeO.bind ?_ (fun _ => ?_))
   | exact ih0 _ _ _
   | exact LeO.none _
   | refine LeO.ite ?_ ?_
   | refine LeO.bind ?_ (fun _ => ?_)
theorem laws_eqRecPhaseS.mono : ∀ a0 a1 k, LeO (laws_eqRecPhaseS.f k a0 a1) (laws_eqRecPhaseS.f (k + 1) a0 a1) := by
 intro a0 a1 k
 have ih0 := laws_eqRecPhaseS.mono_l k
 unfold laws_eqRecPhaseS.f
 repeat' first
   | (with_reducible exact ih0 _ _ _)
   | (with_reducible exact LeO.refl _)
   | (with_reducible exact LeO.none _)
   | (with_reducible refine LeO.ite ?_ ?_)
   | (with_reducible refine LeO.bind ?_ (fun _ => ?_))
   | exact ih0 _ _ _
   | exact LeO.none _
   | refine LeO.ite ?_ ?_
   | refine LeO.bind ?_ (fun _ => ?_)
def laws_eqRecPhaseS.T6 : Bool × List (List Nat × List Nat) := (true, [([], []), ([], []), ([0, 1], [0, 1]), ([2], [2]), ([], []), ([], []), ([4, 5], [4, 5]), ([6], [6]), ([3, 7], [3, 7]), ([8], [8])])
def laws_eqRecPhaseS.B6 : List Nat := [0, 0, 3, 7, 0, 0, 48, 112, 255, 511]
theorem laws_eqRecPhaseS.tab6 : rtab .any (opsOf Try.f39 6) = laws_eqRecPhaseS.T6 := by kernel_rfl
theorem laws_eqRecPhaseS.bits6 : waitsOk laws_eqRecPhaseS.T6.2 laws_eqRecPhaseS.B6 = true := by kernel_rfl
set_option maxHeartbeats 8000000 in
set_option maxRecDepth 100000 in
theorem laws_eqRecPhaseS.calls (k : Nat) (A0 : Option Addr) (c0 : Nat) (l0 : List (S39)) (A1 : Option Addr) (c1 : Nat) (l1 : List (S39)) (r : Bool) (w : World) (hr0 : Kd.C k39 w A0 l0.length l0) (hc0 : l0.length ≤ c0) (hr1 : Kd.C k39 w A1 l1.length l1) (hc1 : l1.length ≤ c1) (h : laws_eqRecPhaseS.f k l0 l1 = some r) :
  Calls Try.prog 39 #[.slice A0 l0.length c0, .slice A1 l1.length c1] w fun e w' => e = .returned (.bool r) ∧ Below w.heap.size w w' := by
 have hu39 := Try.underlying39
 have HR0 := Aside0.mk hr0
 have HC0 := Aside0.mk hc0
 clear hr0 hc0
 have HR1 := Aside0.mk hr1
 have HC1 := Aside0.mk hc1
 clear hr1 hc1
 have HB := Aside0.mk (Below.refl w.heap.size w)
 have H : (if (l0.length : Int) = (l1.length : Int) then (laws_eqRecPhaseS.l0 k l0 l1 0) else (some false)) = some r := h
 clear h
 by_cases c3 : (l0.length : Int) = (l1.length : Int)
 ·rw [if_pos c3] at H
  have c3b0 : ((l0.length : Int) == (l1.length : Int)) = true := beq_iff_eq.mpr c3
  have c3b1 : ((l0.length : Int) != (l1.length : Int)) = false := bne_eq_false_iff_eq.mpr c3
  have c3b2 : (l0.length == l1.length) = true := by first | simpa using c3 | (simp at c3 ⊢; omega)
  clear c3
  have H' := Aside0.mk H
  clear H
  go_enter Try.func39, Try.ntmps39
  go_wp2
  go_loopg [5] k (fun kq v5 w' => ∃ (x5_1 : Int), v5 = .int .i64 x5_1 ∧ Aside0 (laws_eqRecPhaseS.l0 kq l0 l1 x5_1 = some r) ∧ Aside0 (kq ≤ k) ∧ Aside0 (Below w.heap.size w w'))
  case atStart => exact ⟨(0), (by first | rfl | (simp; done) | (simp [*]; done)), H', ⟨Nat.le_refl _⟩, (hbw HB)⟩
  case round =>
   clear H'
   try clear c1
   try clear p2
   try clear c3
   try clear c3b0
   try clear c3b1
   try clear c3b2
   obtain ⟨x5_1, rfl, HA, HK1, HB⟩ := hrel
   cases gk with
   | zero => exact absurd HA.out (by simp [laws_eqRecPhaseS.l0])
   | succ k1 =>
    have H := HA.out
    clear HA
    simp only [laws_eqRecPhaseS.l0] at H
    by_cases c4 : x5_1 < (l0.length : Int)
    ·rw [if_pos c4] at H
     have c4b0 : decide (x5_1 < (l0.length : Int)) = true := decide_eq_true c4
     clear c4
     by_cases c5 : 0 ≤ x5_1
     ·rw [if_pos c5] at H
      have c5b0 : decide (0 ≤ x5_1) = true := decide_eq_true c5
      clear c5
      by_cases c6 : x5_1 < (l1.length : Int)
      ·rw [if_pos c6] at H
       have c6b0 : decide (x5_1 < (l1.length : Int)) = true := decide_eq_true c6
       clear c6
       replace H := Option.bind_eq_some_iff.mp H
       obtain ⟨t367, A70, H⟩ := H
       replace H : (if t367 = true then (laws_eqRecPhaseS.l0 k1 l0 l1 (wrap64 (x5_1 + 1))) else (some false)) = some r := H
       have A7 := Aside0.mk A70
       clear A70
       by_cases c8 : t367 = true
       ·subst c8
        have H1 : (laws_eqRecPhaseS.l0 k1 l0 l1 (wrap64 (x5_1 + 1))) = some r := by rw [if_pos rfl] at H; exact H
        clear H
        have H := H1
        clear H1
        have H' := Aside0.mk H
        clear H
        try go_wp2
        have n0_ := Aside0.mk (below_drew1 HB.out)
        clear HB
        have HB := n0_
        clear n0_
        have p365 : 0 ≤ (x5_1 : Int) := oda
        have q365 : x5_1 < (l0.length : Int) := oda
        obtain ⟨ad365, e365, hx365_0, hx365_1, hx365_2, hx365_3, hx365_4, hx365_5, hx365_6, hx365_7⟩ := at_T39 HR0.out x5_1 p365 q365
        have hw365_7 := hx365_7
        have hw365_6 := hx365_6
        have hw365_5 := hx365_5
        have hw365_4 := hx365_4
        have hw365_3 := hx365_3
        have hw365_2 := hx365_2
        have hw365_1 := hx365_1
        have hw365_0 := hx365_0
        cases e365
        replace hx365_0 := bcl HB hx365_0
        replace hx365_1 := bcl HB hx365_1
        replace hx365_2 := bcl HB hx365_2
        replace hx365_3 := bcl HB hx365_3
        replace hx365_4 := bcl HB hx365_4
        replace hx365_5 := bcl HB hx365_5
        replace hx365_6 := bcl HB hx365_6
        replace hx365_7 := bcl HB hx365_7
        replace p365 := eq_true p365
        replace q365 := eq_true q365
        have p366 : 0 ≤ (x5_1 : Int) := oda
        have q366 : x5_1 < (l1.length : Int) := oda
        obtain ⟨ad366, e366, hx366_0, hx366_1, hx366_2, hx366_3, hx366_4, hx366_5, hx366_6, hx366_7⟩ := at_T39 HR1.out x5_1 p366 q366
        have hw366_7 := hx366_7
        have hw366_6 := hx366_6
        have hw366_5 := hx366_5
        have hw366_4 := hx366_4
        have hw366_3 := hx366_3
        have hw366_2 := hx366_2
        have hw366_1 := hx366_1
        have hw366_0 := hx366_0
        cases e366
        replace hx366_0 := bcl HB hx366_0
        replace hx366_1 := bcl HB hx366_1
        replace hx366_2 := bcl HB hx366_2
        replace hx366_3 := bcl HB hx366_3
        replace hx366_4 := bcl HB hx366_4
        replace hx366_5 := bcl HB hx366_5
        replace hx366_6 := bcl HB hx366_6
        replace hx366_7 := bcl HB hx366_7
        replace p366 := eq_true p366
        replace q366 := eq_true q366
        refine start_ (n := 10) (S := fun w' => w'.cell? (ad365.add ((x5_1).toNat * 8)) = some (.string ((rd_T39 l0 x5_1).f0)) ∧ w'.cell? ⟨(ad365.add ((x5_1).toNat * 8)).block, (ad365.add ((x5_1).toNat * 8)).off + 1, none⟩ = some (.int .i64 ((rd_T39 l0 x5_1).f1)) ∧ w'.cell? ⟨(ad365.add ((x5_1).toNat * 8)).block, (ad365.add ((x5_1).toNat * 8)).off + 2, none⟩ = some (.string ((rd_T39 l0 x5_1).f2)) ∧ w'.cell? ⟨(ad365.add ((x5_1).toNat * 8)).block, (ad365.add ((x5_1).toNat * 8)).off + 3, none⟩ = some (.string ((rd_T39 l0 x5_1).f3)) ∧ w'.cell? ⟨(ad365.add ((x5_1).toNat * 8)).block, (ad365.add ((x5_1).toNat * 8)).off + 4, none⟩ = some (.int .i64 ((rd_T39 l0 x5_1).f4)) ∧ w'.cell? ⟨(ad365.add ((x5_1).toNat * 8)).block, (ad365.add ((x5_1).toNat * 8)).off + 5, none⟩ = some (.int .i64 ((rd_T39 l0 x5_1).f5)) ∧ w'.cell? ⟨(ad365.add ((x5_1).toNat * 8)).block, (ad365.add ((x5_1).toNat * 8)).off + 6, none⟩ = some (.string ((rd_T39 l0 x5_1).f6)) ∧ w'.cell? ⟨(ad365.add ((x5_1).toNat * 8)).block, (ad365.add ((x5_1).toNat * 8)).off + 7, none⟩ = some (.string ((rd_T39 l0 x5_1).f7)) ∧ w'.cell? (ad366.add ((x5_1).toNat * 8)) = some (.string ((rd_T39 l1 x5_1).f0)) ∧ w'.cell? ⟨(ad366.add ((x5_1).toNat * 8)).block, (ad366.add ((x5_1).toNat * 8)).off + 1, none⟩ = some (.int .i64 ((rd_T39 l1 x5_1).f1)) ∧ w'.cell? ⟨(ad366.add ((x5_1).toNat * 8)).block, (ad366.add ((x5_1).toNat * 8)).off + 2, none⟩ = some (.string ((rd_T39 l1 x5_1).f2)) ∧ w'.cell? ⟨(ad366.add ((x5_1).toNat * 8)).block, (ad366.add ((x5_1).toNat * 8)).off + 3, none⟩ = some (.string ((rd_T39 l1 x5_1).f3)) ∧ w'.cell? ⟨(ad366.add ((x5_1).toNat * 8)).block, (ad366.add ((x5_1).toNat * 8)).off + 4, none⟩ = some (.int .i64 ((rd_T39 l1 x5_1).f4)) ∧ w'.cell? ⟨(ad366.add ((x5_1).toNat * 8)).block, (ad366.add ((x5_1).toNat * 8)).off + 5, none⟩ = some (.int .i64 ((rd_T39 l1 x5_1).f5)) ∧ w'.cell? ⟨(ad366.add ((x5_1).toNat * 8)).block, (ad366.add ((x5_1).toNat * 8)).off + 6, none⟩ = some (.string ((rd_T39 l1 x5_1).f6)) ∧ w'.cell? ⟨(ad366.add ((x5_1).toNat * 8)).block, (ad366.add ((x5_1).toNat * 8)).off + 7, none⟩ = some (.string ((rd_T39 l1 x5_1).f7))) (ds := []) #[false, false, false, false, false, false, false, false, false, false] (by kernel_rfl) rfl rfl ⟨((HB.out.cell (World.block_lt_of_cell? w _ hw365_0)).trans hw365_0), ((HB.out.cell (World.block_lt_of_cell? w _ hw365_1)).trans hw365_1), ((HB.out.cell (World.block_lt_of_cell? w _ hw365_2)).trans hw365_2), ((HB.out.cell (World.block_lt_of_cell? w _ hw365_3)).trans hw365_3), ((HB.out.cell (World.block_lt_of_cell? w _ hw365_4)).trans hw365_4), ((HB.out.cell (World.block_lt_of_cell? w _ hw365_5)).trans hw365_5), ((HB.out.cell (World.block_lt_of_cell? w _ hw365_6)).trans hw365_6), ((HB.out.cell (World.block_lt_of_cell? w _ hw365_7)).trans hw365_7), ((HB.out.cell (World.block_lt_of_cell? w _ hw366_0)).trans hw366_0), ((HB.out.cell (World.block_lt_of_cell? w _ hw366_1)).trans hw366_1), ((HB.out.cell (World.block_lt_of_cell? w _ hw366_2)).trans hw366_2), ((HB.out.cell (World.block_lt_of_cell? w _ hw366_3)).trans hw366_3), ((HB.out.cell (World.block_lt_of_cell? w _ hw366_4)).trans hw366_4), ((HB.out.cell (World.block_lt_of_cell? w _ hw366_5)).trans hw366_5), ((HB.out.cell (World.block_lt_of_cell? w _ hw366_6)).trans hw366_6), ((HB.out.cell (World.block_lt_of_cell? w _ hw366_7)).trans hw366_7)⟩ (fun hHeld => ?_); refine with_tabW laws_eqRecPhaseS.tab6 laws_eqRecPhaseS.bits6 (fun HT_ HW_ => ?_)
        generalize wr.drew = w9 at HB hx365_0 hx365_1 hx365_2 hx365_3 hx365_4 hx365_5 hx365_6 hx365_7 hx366_0 hx366_1 hx366_2 hx366_3 hx366_4 hx366_5 hx366_6 hx366_7 hHeld ⊢
        refine pure_ (i := 0) (N := some 17) (v := ?_) (a' := ?_) #[true, false, false, false, false, false, false, false, false, false] rfl rfl (any_of HT_.out (by kernel_rfl)) (fun _ _ _ h => h) (Or.inl ⟨by rfl, ?_⟩) ?_ ?_
        rotate_left
        ·intro w'
         go_simp
         with_reducible rfl
        rotate_left
        ·simp only [Act.put, List.setIfInBounds_toArray, List.set_cons_zero, List.set_cons_succ, i64_w, i32_w]
         rfl
        refine pure_ (i := 1) (N := some 18) (v := ?_) (a' := ?_) #[true, true, false, false, false, false, false, false, false, false] rfl rfl (any_of HT_.out (by kernel_rfl)) (fun _ _ _ h => h) (Or.inl ⟨by rfl, ?_⟩) ?_ ?_
        rotate_left
        ·intro w'
         go_simp
         with_reducible rfl
        rotate_left
        ·simp only [Act.put, List.setIfInBounds_toArray, List.set_cons_zero, List.set_cons_succ, i64_w, i32_w]
         rfl
        refine pure_ (i := 2) (N := some 19) (v := ?_) (a' := ?_) #[true, true, true, false, false, false, false, false, false, false] rfl rfl (any_of HT_.out (by kernel_rfl)) (fun _ _ _ h => h) (Or.inl ⟨by rfl, ?_⟩) ?_ ?_
        rotate_left
        ·intro w'
         go_simp
         with_reducible rfl
        rotate_left
        ·simp only [Act.put, List.setIfInBounds_toArray, List.set_cons_zero, List.set_cons_succ, i64_w, i32_w]
         rfl
        refine pure_ (i := 4) (N := some 21) (v := ?_) (a' := ?_) #[true, true, true, false, true, false, false, false, false, false] rfl rfl (any_of HT_.out (by kernel_rfl)) (fun _ _ _ h => h) (Or.inl ⟨by rfl, ?_⟩) ?_ ?_
        rotate_left
        ·intro w'
         go_simp
         with_reducible rfl
        rotate_left
        ·simp only [Act.put, List.setIfInBounds_toArray, List.set_cons_zero, List.set_cons_succ, i64_w, i32_w]
         rfl
        refine pure_ (i := 5) (N := some 22) (v := ?_) (a' := ?_) #[true, true, true, false, true, true, false, false, false, false] rfl rfl (any_of HT_.out (by kernel_rfl)) (fun _ _ _ h => h) (Or.inl ⟨by rfl, ?_⟩) ?_ ?_
        rotate_left
        ·intro w'
         go_simp
         with_reducible rfl
        rotate_left
        ·simp only [Act.put, List.setIfInBounds_toArray, List.set_cons_zero, List.set_cons_succ, i64_w, i32_w]
         rfl
        refine pure_ (i := 6) (N := some 23) (v := ?_) (a' := ?_) #[true, true, true, false, true, true, true, false, false, false] rfl rfl (any_of HT_.out (by kernel_rfl)) (fun _ _ _ h => h) (Or.inl ⟨by rfl, ?_⟩) ?_ ?_
        rotate_left
        ·intro w'
         go_simp
         with_reducible rfl
        rotate_left
        ·simp only [Act.put, List.setIfInBounds_toArray, List.set_cons_zero, List.set_cons_succ, i64_w, i32_w]
         rfl
        refine take_ (i := 3) (N := some 20) (v := ?_) (a' := ?_) #[true, true, true, true, true, true, true, false, false, false] rfl rfl (take_ofW HT_.out HW_.out (by kernel_rfl)) (fun _ _ _ h => h) (Or.inl ⟨by rfl, ?_⟩) hHeld ?_ ?_
        rotate_left
        ·rintro w' ⟨s0, s1, s2, s3, s4, s5, s6, s7, s8, s9, s10, s11, s12, s13, s14, s15⟩
         go_simp
         with_reducible rfl
        rotate_left
        ·simp only [Act.put, List.setIfInBounds_toArray, List.set_cons_zero, List.set_cons_succ, i64_w, i32_w]
         rfl
        refine take_ (i := 7) (N := some 24) (v := ?_) (a' := ?_) #[true, true, true, true, true, true, true, true, false, false] rfl rfl (take_ofW HT_.out HW_.out (by kernel_rfl)) (fun _ _ _ h => h) (Or.inl ⟨by rfl, ?_⟩) hHeld ?_ ?_
        rotate_left
        ·rintro w' ⟨s0, s1, s2, s3, s4, s5, s6, s7, s8, s9, s10, s11, s12, s13, s14, s15⟩
         go_simp
         with_reducible rfl
        rotate_left
        ·simp only [Act.put, List.setIfInBounds_toArray, List.set_cons_zero, List.set_cons_succ, i64_w, i32_w]
         rfl
        refine one_ (i := 8) (N := some 25) #[true, true, true, true, true, true, true, true, true, false] rfl rfl (one_of HT_.out (by kernel_rfl)) (by decide) (fun K hK => ?_)
        refine goes_ Try.func83 (by kernel_rfl) rfl #[.agg #[.string ((rd_T39 l0 x5_1).f0), .int .i64 ((rd_T39 l0 x5_1).f1), .string ((rd_T39 l0 x5_1).f2), .string ((rd_T39 l0 x5_1).f3), .int .i64 ((rd_T39 l0 x5_1).f4), .int .i64 ((rd_T39 l0 x5_1).f5), .string ((rd_T39 l0 x5_1).f6), .string ((rd_T39 l0 x5_1).f7)], .agg #[.string ((rd_T39 l1 x5_1).f0), .int .i64 ((rd_T39 l1 x5_1).f1), .string ((rd_T39 l1 x5_1).f2), .string ((rd_T39 l1 x5_1).f3), .int .i64 ((rd_T39 l1 x5_1).f4), .int .i64 ((rd_T39 l1 x5_1).f5), .string ((rd_T39 l1 x5_1).f6), .string ((rd_T39 l1 x5_1).f7)]] (by rfl) rfl rfl mxp ?_
        with_reducible refine (laws_eqRecPhase.calls ((rd_T39 l0 x5_1).f0) ((rd_T39 l0 x5_1).f1) ((rd_T39 l0 x5_1).f2) ((rd_T39 l0 x5_1).f3) ((rd_T39 l0 x5_1).f4) ((rd_T39 l0 x5_1).f5) ((rd_T39 l0 x5_1).f6) ((rd_T39 l0 x5_1).f7) ((rd_T39 l1 x5_1).f0) ((rd_T39 l1 x5_1).f1) ((rd_T39 l1 x5_1).f2) ((rd_T39 l1 x5_1).f3) ((rd_T39 l1 x5_1).f4) ((rd_T39 l1 x5_1).f5) ((rd_T39 l1 x5_1).f6) ((rd_T39 l1 x5_1).f7) true _ A7.out).mono ?_
        rintro e w10 ⟨rfl, hb⟩
        refine ⟨_, rfl, ?_⟩
        have n0_ := bs HB hb
        clear HB
        have HB := n0_
        clear n0_
        (try clear hb)
        (try clear hb2)
        (try clear hk)
        (try clear hi)
        refine hK.out _ _ ⟨((HB.out.cell (World.block_lt_of_cell? w _ hw365_0)).trans hw365_0), ((HB.out.cell (World.block_lt_of_cell? w _ hw365_1)).trans hw365_1), ((HB.out.cell (World.block_lt_of_cell? w _ hw365_2)).trans hw365_2), ((HB.out.cell (World.block_lt_of_cell? w _ hw365_3)).trans hw365_3), ((HB.out.cell (World.block_lt_of_cell? w _ hw365_4)).trans hw365_4), ((HB.out.cell (World.block_lt_of_cell? w _ hw365_5)).trans hw365_5), ((HB.out.cell (World.block_lt_of_cell? w _ hw365_6)).trans hw365_6), ((HB.out.cell (World.block_lt_of_cell? w _ hw365_7)).trans hw365_7), ((HB.out.cell (World.block_lt_of_cell? w _ hw366_0)).trans hw366_0), ((HB.out.cell (World.block_lt_of_cell? w _ hw366_1)).trans hw366_1), ((HB.out.cell (World.block_lt_of_cell? w _ hw366_2)).trans hw366_2), ((HB.out.cell (World.block_lt_of_cell? w _ hw366_3)).trans hw366_3), ((HB.out.cell (World.block_lt_of_cell? w _ hw366_4)).trans hw366_4), ((HB.out.cell (World.block_lt_of_cell? w _ hw366_5)).trans hw366_5), ((HB.out.cell (World.block_lt_of_cell? w _ hw366_6)).trans hw366_6), ((HB.out.cell (World.block_lt_of_cell? w _ hw366_7)).trans hw366_7)⟩ (fun hHeld => ?_)
        clear hK K
        refine norm_ (a' := ?_) ?_ ?_
        rotate_left
        ·show Act.put _ (some 25) _ = _
         simp only [Act.put, List.setIfInBounds_toArray, List.set_cons_zero, List.set_cons_succ, i64_w, i32_w]
         rfl
        refine pure_ (i := 9) (N := some 26) (v := ?_) (a' := ?_) #[true, true, true, true, true, true, true, true, true, true] rfl rfl (any_of HT_.out (by kernel_rfl)) (fun _ _ _ h => h) (Or.inl ⟨by rfl, ?_⟩) ?_ ?_
        rotate_left
        ·intro w'
         go_simp
         with_reducible rfl
        rotate_left
        ·simp only [Act.put, List.setIfInBounds_toArray, List.set_cons_zero, List.set_cons_succ, i64_w, i32_w]
         rfl
        refine done_ (done_of HT_.out (by kernel_rfl)) ?_
        try go_wp2
        go_roundg k1
        case measure => have := HK1.out; omega
        case rel => exact ⟨(wrap64 (x5_1 + 1)), (by first | rfl | (simp; done) | (simp [*]; done)), H', ⟨by have := HK1.out; omega⟩, (hbw HB)⟩
       ·replace c8 := Bool.eq_false_iff.mpr c8
        subst c8
        have H1 : (some false) = some r := by rw [if_neg (show ¬ (false = true) by decide)] at H; exact H
        clear H
        have H := H1
        clear H1
        obtain rfl := Option.some.inj H
        try go_wp2
        have n0_ := Aside0.mk (below_drew1 HB.out)
        clear HB
        have HB := n0_
        clear n0_
        have p365 : 0 ≤ (x5_1 : Int) := oda
        have q365 : x5_1 < (l0.length : Int) := oda
        obtain ⟨ad365, e365, hx365_0, hx365_1, hx365_2, hx365_3, hx365_4, hx365_5, hx365_6, hx365_7⟩ := at_T39 HR0.out x5_1 p365 q365
        have hw365_7 := hx365_7
        have hw365_6 := hx365_6
        have hw365_5 := hx365_5
        have hw365_4 := hx365_4
        have hw365_3 := hx365_3
        have hw365_2 := hx365_2
        have hw365_1 := hx365_1
        have hw365_0 := hx365_0
        cases e365
        replace hx365_0 := bcl HB hx365_0
        replace hx365_1 := bcl HB hx365_1
        replace hx365_2 := bcl HB hx365_2
        replace hx365_3 := bcl HB hx365_3
        replace hx365_4 := bcl HB hx365_4
        replace hx365_5 := bcl HB hx365_5
        replace hx365_6 := bcl HB hx365_6
        replace hx365_7 := bcl HB hx365_7
        replace p365 := eq_true p365
        replace q365 := eq_true q365
        have p366 : 0 ≤ (x5_1 : Int) := oda
        have q366 : x5_1 < (l1.length : Int) := oda
        obtain ⟨ad366, e366, hx366_0, hx366_1, hx366_2, hx366_3, hx366_4, hx366_5, hx366_6, hx366_7⟩ := at_T39 HR1.out x5_1 p366 q366
        have hw366_7 := hx366_7
        have hw366_6 := hx366_6
        have hw366_5 := hx366_5
        have hw366_4 := hx366_4
        have hw366_3 := hx366_3
        have hw366_2 := hx366_2
        have hw366_1 := hx366_1
        have hw366_0 := hx366_0
        cases e366
        replace hx366_0 := bcl HB hx366_0
        replace hx366_1 := bcl HB hx366_1
        replace hx366_2 := bcl HB hx366_2
        replace hx366_3 := bcl HB hx366_3
        replace hx366_4 := bcl HB hx366_4
        replace hx366_5 := bcl HB hx366_5
        replace hx366_6 := bcl HB hx366_6
        replace hx366_7 := bcl HB hx366_7
        replace p366 := eq_true p366
        replace q366 := eq_true q366
        refine start_ (n := 10) (S := fun w' => w'.cell? (ad365.add ((x5_1).toNat * 8)) = some (.string ((rd_T39 l0 x5_1).f0)) ∧ w'.cell? ⟨(ad365.add ((x5_1).toNat * 8)).block, (ad365.add ((x5_1).toNat * 8)).off + 1, none⟩ = some (.int .i64 ((rd_T39 l0 x5_1).f1)) ∧ w'.cell? ⟨(ad365.add ((x5_1).toNat * 8)).block, (ad365.add ((x5_1).toNat * 8)).off + 2, none⟩ = some (.string ((rd_T39 l0 x5_1).f2)) ∧ w'.cell? ⟨(ad365.add ((x5_1).toNat * 8)).block, (ad365.add ((x5_1).toNat * 8)).off + 3, none⟩ = some (.string ((rd_T39 l0 x5_1).f3)) ∧ w'.cell? ⟨(ad365.add ((x5_1).toNat * 8)).block, (ad365.add ((x5_1).toNat * 8)).off + 4, none⟩ = some (.int .i64 ((rd_T39 l0 x5_1).f4)) ∧ w'.cell? ⟨(ad365.add ((x5_1).toNat * 8)).block, (ad365.add ((x5_1).toNat * 8)).off + 5, none⟩ = some (.int .i64 ((rd_T39 l0 x5_1).f5)) ∧ w'.cell? ⟨(ad365.add ((x5_1).toNat * 8)).block, (ad365.add ((x5_1).toNat * 8)).off + 6, none⟩ = some (.string ((rd_T39 l0 x5_1).f6)) ∧ w'.cell? ⟨(ad365.add ((x5_1).toNat * 8)).block, (ad365.add ((x5_1).toNat * 8)).off + 7, none⟩ = some (.string ((rd_T39 l0 x5_1).f7)) ∧ w'.cell? (ad366.add ((x5_1).toNat * 8)) = some (.string ((rd_T39 l1 x5_1).f0)) ∧ w'.cell? ⟨(ad366.add ((x5_1).toNat * 8)).block, (ad366.add ((x5_1).toNat * 8)).off + 1, none⟩ = some (.int .i64 ((rd_T39 l1 x5_1).f1)) ∧ w'.cell? ⟨(ad366.add ((x5_1).toNat * 8)).block, (ad366.add ((x5_1).toNat * 8)).off + 2, none⟩ = some (.string ((rd_T39 l1 x5_1).f2)) ∧ w'.cell? ⟨(ad366.add ((x5_1).toNat * 8)).block, (ad366.add ((x5_1).toNat * 8)).off + 3, none⟩ = some (.string ((rd_T39 l1 x5_1).f3)) ∧ w'.cell? ⟨(ad366.add ((x5_1).toNat * 8)).block, (ad366.add ((x5_1).toNat * 8)).off + 4, none⟩ = some (.int .i64 ((rd_T39 l1 x5_1).f4)) ∧ w'.cell? ⟨(ad366.add ((x5_1).toNat * 8)).block, (ad366.add ((x5_1).toNat * 8)).off + 5, none⟩ = some (.int .i64 ((rd_T39 l1 x5_1).f5)) ∧ w'.cell? ⟨(ad366.add ((x5_1).toNat * 8)).block, (ad366.add ((x5_1).toNat * 8)).off + 6, none⟩ = some (.string ((rd_T39 l1 x5_1).f6)) ∧ w'.cell? ⟨(ad366.add ((x5_1).toNat * 8)).block, (ad366.add ((x5_1).toNat * 8)).off + 7, none⟩ = some (.string ((rd_T39 l1 x5_1).f7))) (ds := []) #[false, false, false, false, false, false, false, false, false, false] (by kernel_rfl) rfl rfl ⟨((HB.out.cell (World.block_lt_of_cell? w _ hw365_0)).trans hw365_0), ((HB.out.cell (World.block_lt_of_cell? w _ hw365_1)).trans hw365_1), ((HB.out.cell (World.block_lt_of_cell? w _ hw365_2)).trans hw365_2), ((HB.out.cell (World.block_lt_of_cell? w _ hw365_3)).trans hw365_3), ((HB.out.cell (World.block_lt_of_cell? w _ hw365_4)).trans hw365_4), ((HB.out.cell (World.block_lt_of_cell? w _ hw365_5)).trans hw365_5), ((HB.out.cell (World.block_lt_of_cell? w _ hw365_6)).trans hw365_6), ((HB.out.cell (World.block_lt_of_cell? w _ hw365_7)).trans hw365_7), ((HB.out.cell (World.block_lt_of_cell? w _ hw366_0)).trans hw366_0), ((HB.out.cell (World.block_lt_of_cell? w _ hw366_1)).trans hw366_1), ((HB.out.cell (World.block_lt_of_cell? w _ hw366_2)).trans hw366_2), ((HB.out.cell (World.block_lt_of_cell? w _ hw366_3)).trans hw366_3), ((HB.out.cell (World.block_lt_of_cell? w _ hw366_4)).trans hw366_4), ((HB.out.cell (World.block_lt_of_cell? w _ hw366_5)).trans hw366_5), ((HB.out.cell (World.block_lt_of_cell? w _ hw366_6)).trans hw366_6), ((HB.out.cell (World.block_lt_of_cell? w _ hw366_7)).trans hw366_7)⟩ (fun hHeld => ?_); refine with_tabW laws_eqRecPhaseS.tab6 laws_eqRecPhaseS.bits6 (fun HT_ HW_ => ?_)
        generalize wr.drew = w11 at HB hx365_0 hx365_1 hx365_2 hx365_3 hx365_4 hx365_5 hx365_6 hx365_7 hx366_0 hx366_1 hx366_2 hx366_3 hx366_4 hx366_5 hx366_6 hx366_7 hHeld ⊢
        refine pure_ (i := 0) (N := some 17) (v := ?_) (a' := ?_) #[true, false, false, false, false, false, false, false, false, false] rfl rfl (any_of HT_.out (by kernel_rfl)) (fun _ _ _ h => h) (Or.inl ⟨by rfl, ?_⟩) ?_ ?_
        rotate_left
        ·intro w'
         go_simp
         with_reducible rfl
        rotate_left
        ·simp only [Act.put, List.setIfInBounds_toArray, List.set_cons_zero, List.set_cons_succ, i64_w, i32_w]
         rfl
        refine pure_ (i := 1) (N := some 18) (v := ?_) (a' := ?_) #[true, true, false, false, false, false, false, false, false, false] rfl rfl (any_of HT_.out (by kernel_rfl)) (fun _ _ _ h => h) (Or.inl ⟨by rfl, ?_⟩) ?_ ?_
        rotate_left
        ·intro w'
         go_simp
         with_reducible rfl
        rotate_left
        ·simp only [Act.put, List.setIfInBounds_toArray, List.set_cons_zero, List.set_cons_succ, i64_w, i32_w]
         rfl
        refine pure_ (i := 2) (N := some 19) (v := ?_) (a' := ?_) #[true, true, true, false, false, false, false, false, false, false] rfl rfl (any_of HT_.out (by kernel_rfl)) (fun _ _ _ h => h) (Or.inl ⟨by rfl, ?_⟩) ?_ ?_
        rotate_left
        ·intro w'
         go_simp
         with_reducible rfl
        rotate_left
        ·simp only [Act.put, List.setIfInBounds_toArray, List.set_cons_zero, List.set_cons_succ, i64_w, i32_w]
         rfl
        refine pure_ (i := 4) (N := some 21) (v := ?_) (a' := ?_) #[true, true, true, false, true, false, false, false, false, false] rfl rfl (any_of HT_.out (by kernel_rfl)) (fun _ _ _ h => h) (Or.inl ⟨by rfl, ?_⟩) ?_ ?_
        rotate_left
        ·intro w'
         go_simp
         with_reducible rfl
        rotate_left
        ·simp only [Act.put, List.setIfInBounds_toArray, List.set_cons_zero, List.set_cons_succ, i64_w, i32_w]
         rfl
        refine pure_ (i := 5) (N := some 22) (v := ?_) (a' := ?_) #[true, true, true, false, true, true, false, false, false, false] rfl rfl (any_of HT_.out (by kernel_rfl)) (fun _ _ _ h => h) (Or.inl ⟨by rfl, ?_⟩) ?_ ?_
        rotate_left
        ·intro w'
         go_simp
         with_reducible rfl
        rotate_left
        ·simp only [Act.put, List.setIfInBounds_toArray, List.set_cons_zero, List.set_cons_succ, i64_w, i32_w]
         rfl
        refine pure_ (i := 6) (N := some 23) (v := ?_) (a' := ?_) #[true, true, true, false, true, true, true, false, false, false] rfl rfl (any_of HT_.out (by kernel_rfl)) (fun _ _ _ h => h) (Or.inl ⟨by rfl, ?_⟩) ?_ ?_
        rotate_left
        ·intro w'
         go_simp
         with_reducible rfl
        rotate_left
        ·simp only [Act.put, List.setIfInBounds_toArray, List.set_cons_zero, List.set_cons_succ, i64_w, i32_w]
         rfl
        refine take_ (i := 3) (N := some 20) (v := ?_) (a' := ?_) #[true, true, true, true, true, true, true, false, false, false] rfl rfl (take_ofW HT_.out HW_.out (by kernel_rfl)) (fun _ _ _ h => h) (Or.inl ⟨by rfl, ?_⟩) hHeld ?_ ?_
        rotate_left
        ·rintro w' ⟨s0, s1, s2, s3, s4, s5, s6, s7, s8, s9, s10, s11, s12, s13, s14, s15⟩
         go_simp
         with_reducible rfl
        rotate_left
        ·simp only [Act.put, List.setIfInBounds_toArray, List.set_cons_zero, List.set_cons_succ, i64_w, i32_w]
         rfl
        refine take_ (i := 7) (N := some 24) (v := ?_) (a' := ?_) #[true, true, true, true, true, true, true, true, false, false] rfl rfl (take_ofW HT_.out HW_.out (by kernel_rfl)) (fun _ _ _ h => h) (Or.inl ⟨by rfl, ?_⟩) hHeld ?_ ?_
        rotate_left
        ·rintro w' ⟨s0, s1, s2, s3, s4, s5, s6, s7, s8, s9, s10, s11, s12, s13, s14, s15⟩
         go_simp
         with_reducible rfl
        rotate_left
        ·simp only [Act.put, List.setIfInBounds_toArray, List.set_cons_zero, List.set_cons_succ, i64_w, i32_w]
         rfl
        refine one_ (i := 8) (N := some 25) #[true, true, true, true, true, true, true, true, true, false] rfl rfl (one_of HT_.out (by kernel_rfl)) (by decide) (fun K hK => ?_)
        refine goes_ Try.func83 (by kernel_rfl) rfl #[.agg #[.string ((rd_T39 l0 x5_1).f0), .int .i64 ((rd_T39 l0 x5_1).f1), .string ((rd_T39 l0 x5_1).f2), .string ((rd_T39 l0 x5_1).f3), .int .i64 ((rd_T39 l0 x5_1).f4), .int .i64 ((rd_T39 l0 x5_1).f5), .string ((rd_T39 l0 x5_1).f6), .string ((rd_T39 l0 x5_1).f7)], .agg #[.string ((rd_T39 l1 x5_1).f0), .int .i64 ((rd_T39 l1 x5_1).f1), .string ((rd_T39 l1 x5_1).f2), .string ((rd_T39 l1 x5_1).f3), .int .i64 ((rd_T39 l1 x5_1).f4), .int .i64 ((rd_T39 l1 x5_1).f5), .string ((rd_T39 l1 x5_1).f6), .string ((rd_T39 l1 x5_1).f7)]] (by rfl) rfl rfl mxp ?_
        with_reducible refine (laws_eqRecPhase.calls ((rd_T39 l0 x5_1).f0) ((rd_T39 l0 x5_1).f1) ((rd_T39 l0 x5_1).f2) ((rd_T39 l0 x5_1).f3) ((rd_T39 l0 x5_1).f4) ((rd_T39 l0 x5_1).f5) ((rd_T39 l0 x5_1).f6) ((rd_T39 l0 x5_1).f7) ((rd_T39 l1 x5_1).f0) ((rd_T39 l1 x5_1).f1) ((rd_T39 l1 x5_1).f2) ((rd_T39 l1 x5_1).f3) ((rd_T39 l1 x5_1).f4) ((rd_T39 l1 x5_1).f5) ((rd_T39 l1 x5_1).f6) ((rd_T39 l1 x5_1).f7) false _ A7.out).mono ?_
        rintro e w12 ⟨rfl, hb⟩
        refine ⟨_, rfl, ?_⟩
        have n0_ := bs HB hb
        clear HB
        have HB := n0_
        clear n0_
        (try clear hb)
        (try clear hb2)
        (try clear hk)
        (try clear hi)
        refine hK.out _ _ ⟨((HB.out.cell (World.block_lt_of_cell? w _ hw365_0)).trans hw365_0), ((HB.out.cell (World.block_lt_of_cell? w _ hw365_1)).trans hw365_1), ((HB.out.cell (World.block_lt_of_cell? w _ hw365_2)).trans hw365_2), ((HB.out.cell (World.block_lt_of_cell? w _ hw365_3)).trans hw365_3), ((HB.out.cell (World.block_lt_of_cell? w _ hw365_4)).trans hw365_4), ((HB.out.cell (World.block_lt_of_cell? w _ hw365_5)).trans hw365_5), ((HB.out.cell (World.block_lt_of_cell? w _ hw365_6)).trans hw365_6), ((HB.out.cell (World.block_lt_of_cell? w _ hw365_7)).trans hw365_7), ((HB.out.cell (World.block_lt_of_cell? w _ hw366_0)).trans hw366_0), ((HB.out.cell (World.block_lt_of_cell? w _ hw366_1)).trans hw366_1), ((HB.out.cell (World.block_lt_of_cell? w _ hw366_2)).trans hw366_2), ((HB.out.cell (World.block_lt_of_cell? w _ hw366_3)).trans hw366_3), ((HB.out.cell (World.block_lt_of_cell? w _ hw366_4)).trans hw366_4), ((HB.out.cell (World.block_lt_of_cell? w _ hw366_5)).trans hw366_5), ((HB.out.cell (World.block_lt_of_cell? w _ hw366_6)).trans hw366_6), ((HB.out.cell (World.block_lt_of_cell? w _ hw366_7)).trans hw366_7)⟩ (fun hHeld => ?_)
        clear hK K
        refine norm_ (a' := ?_) ?_ ?_
        rotate_left
        ·show Act.put _ (some 25) _ = _
         simp only [Act.put, List.setIfInBounds_toArray, List.set_cons_zero, List.set_cons_succ, i64_w, i32_w]
         rfl
        refine pure_ (i := 9) (N := some 26) (v := ?_) (a' := ?_) #[true, true, true, true, true, true, true, true, true, true] rfl rfl (any_of HT_.out (by kernel_rfl)) (fun _ _ _ h => h) (Or.inl ⟨by rfl, ?_⟩) ?_ ?_
        rotate_left
        ·intro w'
         go_simp
         with_reducible rfl
        rotate_left
        ·simp only [Act.put, List.setIfInBounds_toArray, List.set_cons_zero, List.set_cons_succ, i64_w, i32_w]
         rfl
        refine done_ (done_of HT_.out (by kernel_rfl)) ?_
        try go_wp2
        go_ret
        exact ⟨exq, bw HB.out⟩
      ·rw [if_neg c6] at H
       exact absurd H (by simp)
     ·rw [if_neg c5] at H
      exact absurd H (by simp)
    ·rw [if_neg c4] at H
     have c4b0 : decide (x5_1 < (l0.length : Int)) = false := decide_eq_false c4
     clear c4
     obtain rfl := Option.some.inj H
     go_wp2
     go_ret
     exact ⟨exq, bw HB.out⟩
 ·rw [if_neg c3] at H
  have c3b0 : ((l0.length : Int) == (l1.length : Int)) = false := beq_eq_false_iff_ne.mpr c3
  have c3b1 : ((l0.length : Int) != (l1.length : Int)) = true := bne_iff_ne.mpr c3
  have c3b2 : (l0.length == l1.length) = false := by first | simpa using c3 | (simp at c3 ⊢; omega)
  obtain rfl := Option.some.inj H
  go_enter Try.func39, Try.ntmps39
  go_wp2
  go_ret
  exact ⟨exq, bw HB.out⟩

end Go.Proofs.Ytdkologncoofdaa.P
-- Q4
namespace Go.Proofs.Ytdkologncoofdaa.P
open Go.RowKit Go.Proofs.YtdkologncoofdaaW.PrintWords Go.Proofs.YtdkologncoofdaaW.PrintLast
set_option linter.unusedVariables false
set_option linter.unusedSimpArgs false

/-! ### Arguments measured, copied, compared -/
theorem sz_some (x : S48) (n : Int) : ∃ r, laws_szRecPhase.f x.f0 x.f1 x.f2 x.f3 x.f4 x.f5 x.f6 x.f7 n = some r := by
  unfold laws_szRecPhase.f
  repeat' split
  all_goals exact ⟨_, rfl⟩

theorem szS_loop (l : List S48) (hl : l.length ≤ 1048576) (d : Nat) : ∀ (i k : Nat) (n : Int), i ≤ l.length → l.length - i = d → d < k → ∃ r, laws_szRecPhaseS.l0 k l n (i : Int) = some r := by
  induction d with
  | zero =>
    intro i k n hi hd hk
    obtain ⟨k, rfl⟩ : ∃ m, k = m + 1 := ⟨k - 1, by omega⟩
    simp only [laws_szRecPhaseS.l0]
    rw [if_neg (by omega)]
    exact ⟨_, rfl⟩
  | succ d ih =>
    intro i k n hi hd hk
    obtain ⟨k, rfl⟩ : ∃ m, k = m + 1 := ⟨k - 1, by omega⟩
    simp only [laws_szRecPhaseS.l0]
    rw [if_pos (by omega), if_pos (by omega)]
    obtain ⟨r, hr⟩ := sz_some (rd_T48 l i) n
    rw [hr, Option.bind_some, show wrap64 ((i : Int) + 1) = ((i + 1 : Nat) : Int) from by rw [wrap_id (by omega) (by omega)]; omega]
    by_cases h : r < 0
    · rw [if_pos h]; exact ⟨_, rfl⟩
    · rw [if_neg h]; exact ih (i + 1) k r (by omega) (by omega) (by omega)
/-- The arguments' size: an answer; and if it is none of a refusal, the slice is short. -/
theorem szS (l : List S48) (hl : l.length ≤ 9223372036854775807) (k : Nat) (hk : 1048577 < k) : ∃ r, laws_szRecPhaseS.f k l 1048576 = some r ∧ (¬ r < 0 → l.length ≤ 1048576) := by
  unfold laws_szRecPhaseS.f
  rw [wrap_id (by omega) (by omega)]
  by_cases h : 1048576 - (l.length : Int) < 0
  · rw [if_pos h]; exact ⟨-1, rfl, fun h2 => absurd (show (-1 : Int) < 0 by omega) h2⟩
  · rw [if_neg h]
    obtain ⟨r, hr⟩ := szS_loop l (by omega) l.length 0 k (1048576 - (l.length : Int)) (by omega) (by omega) (by omega)
    exact ⟨r, hr, fun _ => by omega⟩
def to39 (x : S48) : S39 := ⟨x.f0, x.f1, x.f2, x.f3, x.f4, x.f5, x.f6, x.f7⟩
theorem toS_loop (l : List S48) (hl : l.length ≤ 1048576) (d : Nat) : ∀ (i k : Nat) (acc : List S39), i ≤ l.length → l.length - i = d → d < k → acc.length = l.length → acc.take i = (l.map to39).take i →
    laws_toRecPhaseS.l0 k l acc (i : Int) = some (l.map to39) := by
  induction d with
  | zero =>
    intro i k acc hi hd hk ha ht
    obtain ⟨k, rfl⟩ : ∃ m, k = m + 1 := ⟨k - 1, by omega⟩
    simp only [laws_toRecPhaseS.l0]
    rw [if_neg (by omega)]
    rw [List.take_of_length_le (by omega), List.take_of_length_le (by rw [List.length_map]; omega)] at ht
    rw [ht]
  | succ d ih =>
    intro i k acc hi hd hk ha ht
    obtain ⟨k, rfl⟩ : ∃ m, k = m + 1 := ⟨k - 1, by omega⟩
    simp only [laws_toRecPhaseS.l0, laws_toRecPhase.f, Option.bind_some]
    rw [if_pos (by omega), if_pos (by omega), if_pos (by omega), show wrap64 ((i : Int) + 1) = ((i + 1 : Nat) : Int) from by rw [wrap_id (by omega) (by omega)]; omega, Int.toNat_natCast]
    refine ih (i + 1) k _ (by omega) (by omega) (by omega) (by rw [List.length_set]; exact ha) ?_
    have hil : i < l.length := by omega
    have e : rd_T48 l (i : Int) = l[i] := by simp [rd_T48, List.getD_eq_getElem?_getD, List.getElem?_eq_getElem hil]
    rw [e, List.take_succ_eq_append_getElem (by rw [List.length_set]; omega), List.take_succ_eq_append_getElem (by rw [List.length_map]; omega), List.take_set_of_le (by omega), ht]
    simp [to39]
theorem toS (l : List S48) (hl : l.length ≤ 1048576) (k : Nat) (hk : 1048577 < k) : laws_toRecPhaseS.f k l = some (l.map to39) := by
  unfold laws_toRecPhaseS.f
  rw [if_pos (by omega), Int.toNat_natCast, if_pos (by omega)]
  exact toS_loop l hl l.length 0 k _ (by omega) (by omega) (by omega) (by simp) (by simp)
theorem eqP_self (x : S39) : laws_eqRecPhase.f x.f0 x.f1 x.f2 x.f3 x.f4 x.f5 x.f6 x.f7 x.f0 x.f1 x.f2 x.f3 x.f4 x.f5 x.f6 x.f7 = some true := by
  unfold laws_eqRecPhase.f
  simp
theorem eqS_loop (l : List S39) (hl : l.length ≤ 1048576) (d : Nat) : ∀ (i k : Nat), i ≤ l.length → l.length - i = d → d < k → laws_eqRecPhaseS.l0 k l l (i : Int) = some true := by
  induction d with
  | zero =>
    intro i k hi hd hk
    obtain ⟨k, rfl⟩ : ∃ m, k = m + 1 := ⟨k - 1, by omega⟩
    simp only [laws_eqRecPhaseS.l0]
    rw [if_neg (by omega)]
  | succ d ih =>
    intro i k hi hd hk
    obtain ⟨k, rfl⟩ : ∃ m, k = m + 1 := ⟨k - 1, by omega⟩
    simp only [laws_eqRecPhaseS.l0]
    rw [if_pos (by omega), if_pos (by omega), if_pos (by omega), eqP_self, Option.bind_some, if_pos rfl, show wrap64 ((i : Int) + 1) = ((i + 1 : Nat) : Int) from by rw [wrap_id (by omega) (by omega)]; omega]
    exact ih (i + 1) k (by omega) (by omega) (by omega)
theorem eqS (l : List S39) (hl : l.length ≤ 1048576) (k : Nat) (hk : 1048577 < k) : laws_eqRecPhaseS.f k l l = some true := by
  unfold laws_eqRecPhaseS.f
  rw [if_pos rfl]
  exact eqS_loop l hl l.length 0 k (by omega) (by omega) (by omega)

/-! ### The bound -/
/-- How many steps there may be from here. -/
def rk (l : List S39) (a : ByteArray) : Nat := (if atOf l a < 0 then 0 else (l.length : Int) - atOf l a).toNat
def bnd (l : List S39) : Nat → ByteArray → Int
  | 0, _ => 0
  | n + 1, a => if atOf l a < 0 then 0 else (rd_T39 l (atOf l a)).f5 + max (bnd l n (rd_T39 l (atOf l a)).f6) (bnd l n (rd_T39 l (atOf l a)).f7)
/-- RecBound of a recipe that is ok. -/
def boundOf (l : List S39) (a : ByteArray) : Int := bnd l 13 a
theorem end_no (l : List S39) (h : recOk l = true) (a : ByteArray) (ha : ¬ endOf a = 0) : atOf l a < 0 := by
  rcases Int.lt_or_le (atOf l a) 0 with h0 | h0
  · exact h0
  · have hr := atOf_range l a
    obtain ⟨i, hi⟩ := Int.eq_ofNat_of_zero_le h0
    have hn := atOf_name l a h0
    have hok := recOk_at l h i (by omega)
    unfold okAt phOk at hok
    simp only [Bool.and_eq_true, beq_iff_eq] at hok
    have e : endOf (rd_T39 l (atOf l a)).f0 = endOf a := by unfold endOf; rw [hn]
    rw [hi] at e
    omega
theorem ok_ref (l : List S39) (h : recOk l = true) (a : ByteArray) (h0 : ¬ atOf l a < 0) :
    rk l (rd_T39 l (atOf l a)).f6 < rk l a ∧ rk l (rd_T39 l (atOf l a)).f7 < rk l a ∧ 1 ≤ (rd_T39 l (atOf l a)).f5 ∧ (rd_T39 l (atOf l a)).f5 ≤ 1000 := by
  have hr := atOf_range l a
  obtain ⟨i, hi⟩ := Int.eq_ofNat_of_zero_le (show 0 ≤ atOf l a by omega)
  have hok := recOk_at l h i (by omega)
  unfold okAt at hok
  simp only [Bool.and_eq_true] at hok
  obtain ⟨⟨⟨h1, _⟩, h6⟩, h7⟩ := hok
  have key : ∀ n, refOk l (i : Int) n = true → rk l n < rk l a := by
    intro n hn
    have hrn := atOf_range l n
    unfold rk
    rw [if_neg h0]
    unfold refOk at hn
    simp only [Bool.or_eq_true, Bool.not_eq_true', beq_eq_false_iff_ne, decide_eq_true_eq] at hn
    rcases hn with hn | hn
    · rw [if_pos (end_no l h n hn)]; omega
    · rw [if_neg (by omega)]; omega
  rw [hi]
  refine ⟨key _ h6, key _ h7, ?_⟩
  unfold phOk at h1
  simp only [Bool.and_eq_true, inB_iff] at h1
  exact h1.1.1.1.2
theorem bnd_bound (l : List S39) (h : recOk l = true) (n : Nat) : ∀ a, 0 ≤ bnd l n a ∧ bnd l n a ≤ 1000 * (n : Int) := by
  induction n with
  | zero => intro a; simp [bnd]
  | succ n ih =>
    intro a
    simp only [bnd]
    by_cases h0 : atOf l a < 0
    · rw [if_pos h0]; omega
    · rw [if_neg h0]
      have hx := ok_ref l h a h0
      have h6 := ih (rd_T39 l (atOf l a)).f6
      have h7 := ih (rd_T39 l (atOf l a)).f7
      omega
theorem bnd_more (l : List S39) (h : recOk l = true) (n : Nat) : ∀ a m, rk l a < n → rk l a < m → bnd l n a = bnd l m a := by
  induction n with
  | zero => intro a m hn; omega
  | succ n ih =>
    intro a m hn hm
    obtain ⟨m, rfl⟩ : ∃ q, m = q + 1 := ⟨m - 1, by omega⟩
    simp only [bnd]
    by_cases h0 : atOf l a < 0
    · rw [if_pos h0, if_pos h0]
    · rw [if_neg h0, if_neg h0]
      have hx := ok_ref l h a h0
      rw [ih _ m (by omega) (by omega), ih (rd_T39 l (atOf l a)).f7 m (by omega) (by omega)]
theorem rk_le (l : List S39) (h : recOk l = true) (a : ByteArray) : rk l a ≤ 12 := by
  have := recOk_len l h
  unfold rk
  split <;> omega
theorem boundOf_step (l : List S39) (h : recOk l = true) (a : ByteArray) : boundOf l a = if atOf l a < 0 then 0 else (rd_T39 l (atOf l a)).f5 + max (boundOf l (rd_T39 l (atOf l a)).f6) (boundOf l (rd_T39 l (atOf l a)).f7) := by
  unfold boundOf
  rw [bnd_more l h 13 a 14 (by have := rk_le l h a; omega) (by have := rk_le l h a; omega)]
  rfl
theorem boundOf_range (l : List S39) (h : recOk l = true) (a : ByteArray) : 0 ≤ boundOf l a ∧ boundOf l a ≤ 13000 := by
  have := bnd_bound l h 13 a
  unfold boundOf
  omega
theorem mx_eq (a b : Int) : mx a b = max a b := by unfold mx; omega
theorem bound_both (l : List S39) (h : recOk l = true) (n : Nat) : ∀ a k, n ≤ 100 → rk l a < n → n + 14 ≤ k → impl_bound.f k l a = some (bnd l n a) ∧ spec_l2Bound.f k l a = some (bnd l n a) := by
  induction n with
  | zero => intro a k _ hn; omega
  | succ n ih =>
    intro a k hn1 hn hk
    obtain ⟨k, rfl⟩ : ∃ m, k = m + 1 := ⟨k - 1, by omega⟩
    have hlen := recOk_len l h
    have hr := atOf_range l a
    simp only [impl_bound.f, spec_l2Bound.f, impl_at.f, spec_at l a (by omega) k (by omega), Option.bind_some, bnd]
    by_cases h0 : atOf l a < 0
    · rw [if_pos h0, if_pos h0, if_pos h0]; exact ⟨rfl, rfl⟩
    · have hx := ok_ref l h a h0
      obtain ⟨a6, b6⟩ := ih (rd_T39 l (atOf l a)).f6 k (by omega) (by omega) (by omega)
      obtain ⟨a7, b7⟩ := ih (rd_T39 l (atOf l a)).f7 k (by omega) (by omega) (by omega)
      have r6 := bnd_bound l h n (rd_T39 l (atOf l a)).f6
      have r7 := bnd_bound l h n (rd_T39 l (atOf l a)).f7
      rw [if_neg h0, if_neg h0, if_neg h0, if_pos (by omega), if_pos (by omega), if_pos (by omega), if_pos (by omega), a6, a7, b6, b7]
      simp only [Option.bind_some]
      rw [mx_eq]
      refine ⟨by rw [wrap_id (by omega) (by omega)], ?_⟩
      by_cases hlt : bnd l n (rd_T39 l (atOf l a)).f6 < bnd l n (rd_T39 l (atOf l a)).f7
      · rw [if_pos hlt, wrap_id (by omega) (by omega), Int.max_eq_right (by omega), Int.add_comm]
      · rw [if_neg hlt, wrap_id (by omega) (by omega), Int.max_eq_left (by omega), Int.add_comm]
theorem impl_bd (l : List S39) (h : recOk l = true) (a : ByteArray) (k : Nat) (hk : 27 ≤ k) : impl_bound.f k l a = some (boundOf l a) := (bound_both l h 13 a k (by omega) (by have := rk_le l h a; omega) (by omega)).1
theorem spec_bd (l : List S39) (h : recOk l = true) (a : ByteArray) (k : Nat) (hk : 27 ≤ k) : spec_l2Bound.f k l a = some (boundOf l a) := (bound_both l h 13 a k (by omega) (by have := rk_le l h a; omega) (by omega)).2

end Go.Proofs.Ytdkologncoofdaa.P
-- Q11
namespace Go.Proofs.Ytdkologncoofdaa.P
open Go.RowKit Go.Proofs.YtdkologncoofdaaW.PrintWords Go.Proofs.YtdkologncoofdaaW.PrintLast
set_option linter.unusedVariables false
set_option linter.unusedSimpArgs false

/-- A name's letters. -/
def ltr (a : ByteArray) : List UInt8 := a.data.toList
theorem ltr_eq (a : ByteArray) : a.toList = ltr a := ByteArray.toList_eq a
/-- What may come behind a name, itself too; f: how many steps. -/
def rch (l : List S39) : Nat → ByteArray → List UInt8 → Bool
  | 0, n, x => ltr n == x
  | f + 1, n, x => (ltr n == x) || (!(decide (atOf l n < 0)) && (rch l f (rd_T39 l (atOf l n)).f6 x || rch l f (rd_T39 l (atOf l n)).f7 x))
def R (l : List S39) (n : ByteArray) (x : List UInt8) : Bool := rch l 13 n x
theorem rch_more (l : List S39) (h : recOk l = true) (f : Nat) : ∀ (n : ByteArray) (g : Nat) (x : List UInt8), rk l n ≤ f → rk l n ≤ g → rch l f n x = rch l g n x := by
  induction f with
  | zero =>
    intro n g x hf hg
    have h0 : atOf l n < 0 := by
      have := atOf_range l n
      rcases Int.lt_or_le (atOf l n) 0 with h0 | h0
      · exact h0
      · unfold rk at hf; rw [if_neg (by omega)] at hf; omega
    cases g with
    | zero => rfl
    | succ g => simp [rch, h0]
  | succ f ih =>
    intro n g x hf hg
    by_cases h0 : atOf l n < 0
    · cases g with
      | zero => simp [rch, h0]
      | succ g => simp [rch, h0]
    · have hx := ok_ref l h n h0
      obtain ⟨g, rfl⟩ : ∃ q, g = q + 1 := ⟨g - 1, by omega⟩
      simp only [rch]
      rw [ih _ g x (by omega) (by omega), ih (rd_T39 l (atOf l n)).f7 g x (by omega) (by omega)]
theorem R_step (l : List S39) (h : recOk l = true) (n : ByteArray) (x : List UInt8) : R l n x = ((ltr n == x) || (!(decide (atOf l n < 0)) && (R l (rd_T39 l (atOf l n)).f6 x || R l (rd_T39 l (atOf l n)).f7 x))) := by
  have hk := rk_le l h n
  unfold R
  rw [rch_more l h 13 n 14 x (by omega) (by omega)]
  rfl
theorem R_self (l : List S39) (h : recOk l = true) (n : ByteArray) : R l n (ltr n) = true := by rw [R_step l h]; simp
theorem at_ltr (l : List S39) (a b : ByteArray) (e : ltr a = ltr b) : atOf l a = atOf l b := by
  unfold atOf
  simp only [ltr_eq, e]
theorem rk_ltr (l : List S39) (a b : ByteArray) (e : ltr a = ltr b) : rk l a = rk l b := by unfold rk; rw [at_ltr l a b e]

/-- A set of names, closed below a rank: of each phase in it that stands so low, what comes then and what comes else are in it, too. -/
def Closed (l : List S39) (S : List UInt8 → Bool) (m : Nat) : Prop := ∀ n : ByteArray, S (ltr n) = true → rk l n < m → ¬ atOf l n < 0 → S (ltr (rd_T39 l (atOf l n)).f6) = true ∧ S (ltr (rd_T39 l (atOf l n)).f7) = true
theorem closed_R (l : List S39) (h : recOk l = true) (S : List UInt8 → Bool) (d : Nat) : ∀ (n : ByteArray), rk l n ≤ d → Closed l S (rk l n + 1) → S (ltr n) = true → ∀ x, R l n x = true → S x = true := by
  induction d with
  | zero =>
    intro n hd hC hn x hx
    rw [R_step l h] at hx
    have h0 : atOf l n < 0 := by
      have := atOf_range l n
      rcases Int.lt_or_le (atOf l n) 0 with h0 | h0
      · exact h0
      · unfold rk at hd; rw [if_neg (by omega)] at hd; omega
    rw [show decide (atOf l n < 0) = true from decide_eq_true h0] at hx
    simp at hx
    rw [← hx]; exact hn
  | succ d ih =>
    intro n hd hC hn x hx
    rw [R_step l h] at hx
    simp only [Bool.or_eq_true, Bool.and_eq_true, Bool.not_eq_true', decide_eq_false_iff_not, beq_iff_eq] at hx
    rcases hx with hx | ⟨h0, hx⟩
    · rw [← hx]; exact hn
    · have hr := ok_ref l h n h0
      obtain ⟨h6, h7⟩ := hC n hn (by omega) h0
      rcases hx with hx | hx
      · exact ih _ (by omega) (fun m hm hk => hC m hm (by omega)) h6 x hx
      · exact ih _ (by omega) (fun m hm hk => hC m hm (by omega)) h7 x hx
theorem R_closed (l : List S39) (h : recOk l = true) (d : Nat) : ∀ (n : ByteArray), rk l n ≤ d → ∀ (m : ByteArray), R l n (ltr m) = true → ¬ atOf l m < 0 → R l n (ltr (rd_T39 l (atOf l m)).f6) = true ∧ R l n (ltr (rd_T39 l (atOf l m)).f7) = true := by
  induction d with
  | zero =>
    intro n hd m hm h0
    rw [R_step l h] at hm
    have hn0 : atOf l n < 0 := by
      have := atOf_range l n
      rcases Int.lt_or_le (atOf l n) 0 with h0 | h0
      · exact h0
      · unfold rk at hd; rw [if_neg (by omega)] at hd; omega
    rw [show decide (atOf l n < 0) = true from decide_eq_true hn0] at hm
    simp at hm
    rw [← at_ltr l n m hm] at h0
    exact absurd hn0 h0
  | succ d ih =>
    intro n hd m hm h0
    rw [R_step l h] at hm
    simp only [Bool.or_eq_true, Bool.and_eq_true, Bool.not_eq_true', decide_eq_false_iff_not, beq_iff_eq] at hm
    rcases hm with hm | ⟨hn0, hm⟩
    · rw [← at_ltr l n m hm] at h0 ⊢
      rw [R_step l h n, R_step l h n, show decide (atOf l n < 0) = false from decide_eq_false h0, R_self l h, R_self l h]
      simp
    · have hr := ok_ref l h n hn0
      have key : ∀ x, (R l (rd_T39 l (atOf l n)).f6 x = true ∨ R l (rd_T39 l (atOf l n)).f7 x = true) → R l n x = true := by
        intro x hx
        rw [R_step l h n, show decide (atOf l n < 0) = false from decide_eq_false hn0]
        rcases hx with hx | hx <;> simp [hx]
      rcases hm with hm | hm
      · have := ih _ (by omega) m hm h0
        exact ⟨key _ (.inl this.1), key _ (.inl this.2)⟩
      · have := ih _ (by omega) m hm h0
        exact ⟨key _ (.inr this.1), key _ (.inr this.2)⟩
theorem closed_union (l : List S39) (h : recOk l = true) (S : List UInt8 → Bool) (n : ByteArray) (m : Nat) (hC : Closed l S m) : Closed l (fun x => S x || R l n x) m := by
  intro q hq hk h0
  simp only [Bool.or_eq_true] at hq ⊢
  rcases hq with hq | hq
  · have := hC q hq hk h0; exact ⟨.inl this.1, .inl this.2⟩
  · have := R_closed l h (rk l n) n (Nat.le_refl _) q hq h0; exact ⟨.inr this.1, .inr this.2⟩
theorem closed_add (l : List S39) (S : List UInt8 → Bool) (n : ByteArray) (hC : Closed l S (rk l n + 1)) : Closed l (fun x => S x || (ltr n == x)) (rk l n) := by
  intro q hq hk h0
  simp only [Bool.or_eq_true, beq_iff_eq] at hq ⊢
  rcases hq with hq | hq
  · have := hC q hq (by omega) h0; exact ⟨.inl this.1, .inl this.2⟩
  · rw [rk_ltr l n q hq] at hk; omega

/-! ### A map that holds a set -/
variable {H : Type}
/-- The map has just these names, each with true. -/
def Sat (D : DataW H) (S : List UInt8 → Bool) : Prop := (∀ x, Maps.has D (.string x) = S x) ∧ ∀ x zd, S x = true → D.atKey (.string x) zd = .lit (.bool true)
theorem sat_empty : Sat (.map [] : DataW H) (fun _ => false) := ⟨fun x => rfl, fun x zd h => by cases h⟩
theorem sat_put {D : DataW H} {S : List UInt8 → Bool} (h : Sat D S) (hD : Maps.IsMap D) (n : List UInt8) : Sat (D.put (.string n) (.lit (.bool true))) (fun x => S x || (n == x)) := by
  refine ⟨fun x => ?_, fun x zd hx => ?_⟩
  · by_cases e : n = x
    · subst e; rw [Maps.has_put_same hD (by simp [WideAt.IsKeyLit])]; simp
    · rw [Maps.has_put_other (by intro z; cases z; exact e rfl), h.1]; simp [e]
  · by_cases e : n = x
    · subst e; rw [Maps.atKey_put_same hD (by simp [WideAt.IsKeyLit])]
    · rw [Maps.atKey_put_other (by intro z; cases z; exact e rfl)]
      exact h.2 x zd (by simpa [e] using hx)
theorem sat_at {D : DataW H} {S : List UInt8 → Bool} (h : Sat D S) (x : List UInt8) : D.atKey (.string x) (.lit (.bool false)) = .lit (.bool (S x)) := by
  cases e : S x with
  | true => exact h.2 x _ e
  | false => exact Maps.atKey_of_not_has (by rw [h.1, e]) _
theorem sat_of {D : DataW H} {S S' : List UInt8 → Bool} (h : Sat D S) (e : ∀ x, S x = S' x) : Sat D S' := by
  have : S = S' := funext e
  rw [← this]; exact h

end Go.Proofs.Ytdkologncoofdaa.P
-- Q12
namespace Go.Proofs.Ytdkologncoofdaa.P
open Go.RowKit Go.Proofs.YtdkologncoofdaaW.PrintWords Go.Proofs.YtdkologncoofdaaW.PrintLast
/-! ### What may come -/
def canB (l : List S39) : Nat → ByteArray → Int → Bool
  | 0, n, e => endOf n == e
  | f + 1, n, e => if atOf l n < 0 then endOf n == e else (canB l f (rd_T39 l (atOf l n)).f6 e || canB l f (rd_T39 l (atOf l n)).f7 e)
theorem ltr_inj {a b : ByteArray} (h : ltr a = ltr b) : a = b := by
  obtain ⟨⟨a⟩⟩ := a; obtain ⟨⟨b⟩⟩ := b; simp [ltr] at h; subst h; rfl
theorem canB_iff (l : List S39) (hok : recOk l = true) (e : Int) (he : 1 ≤ e) (f : Nat) : ∀ n, rk l n ≤ f → (canB l f n e = true ↔ ∃ m : ByteArray, R l n (ltr m) = true ∧ endOf m = e) := by
  induction f with
  | zero =>
    intro n h
    have h0 : atOf l n < 0 := by
      unfold rk at h
      have := atOf_range l n
      split at h <;> omega
    simp only [R_step l hok n, h0, decide_true, Bool.not_true, Bool.false_and, Bool.or_false, canB]
    constructor
    · intro hh; exact ⟨n, by simp, by simpa using hh⟩
    · rintro ⟨m, hm, hme⟩
      obtain rfl := ltr_inj (by simpa using hm)
      simpa using hme
  | succ f ih =>
    intro n h
    by_cases h0 : atOf l n < 0
    · simp only [R_step l hok n, h0, decide_true, Bool.not_true, Bool.false_and, Bool.or_false, canB, if_true]
      constructor
      · intro hh; exact ⟨n, by simp, by simpa using hh⟩
      · rintro ⟨m, hm, hme⟩
        obtain rfl := ltr_inj (by simpa using hm)
        simpa using hme
    · have hx := ok_ref l hok n h0
      simp only [canB, if_neg h0, Bool.or_eq_true]
      rw [ih _ (by omega), ih _ (by omega)]
      constructor
      · rintro (⟨m, hm, hme⟩ | ⟨m, hm, hme⟩)
        · exact ⟨m, by rw [R_step l hok n]; simp [h0, hm], hme⟩
        · exact ⟨m, by rw [R_step l hok n]; simp [h0, hm], hme⟩
      · rintro ⟨m, hm, hme⟩
        rw [R_step l hok n] at hm
        simp only [h0, decide_false, Bool.not_false, Bool.true_and, Bool.or_eq_true] at hm
        rcases hm with hm | hm | hm
        · exfalso
          obtain rfl := ltr_inj (by simpa using hm)
          exact h0 (end_no l hok n (by omega))
        · exact .inl ⟨m, hm, hme⟩
        · exact .inr ⟨m, hm, hme⟩
/-- Whether the end may come. -/
def canOf (l : List S39) (n : ByteArray) (e : Int) : Bool := recOk l && (inB e 1 3 && canB l 12 n e)
theorem at_small (l : List S39) (hok : recOk l = true) (n : ByteArray) (h0 : ¬ atOf l n < 0) : n.size ≤ 1000000 := by
  have hr := atOf_range l n
  unfold atOf at h0
  split at h0
  · rename_i i hi
    rw [List.findIdx?_eq_some_iff_getElem] at hi
    obtain ⟨hlt, hp, _⟩ := hi
    have h := recOk_at l hok i hlt
    unfold okAt phOk at h
    simp only [Bool.and_eq_true] at h
    have hn := h.1.1.1.1.1.1.1
    unfold nmOk at hn
    simp only [Bool.and_eq_true, inB_iff] at hn
    have e : l[i].f0 = n := by
      have := eq_of_beq hp
      rw [ByteArray.toList_eq, ByteArray.toList_eq] at this
      exact ltr_inj this
    have e2 : (rd_T39 l (i : Int)).f0 = n := by rw [← e]; simp [rd_T39, List.getD_eq_getElem?_getD, List.getElem?_eq_getElem hlt]
    rw [← e2]
    omega
  · omega
end Go.Proofs.Ytdkologncoofdaa.P
-- XWalk
namespace Go
open Go.Maps (Keyed)
theorem plainElem_bool_inv {H : Type} {P : Program} {e : TypeId} (he : P.underlying e = some .bool) {v : Value} {z : DataW H × List MemPlace} (h : plainElem P e v = some z) : ∃ x, v = .bool x ∧ z = (.lit (.bool x), []) := by
  cases v <;> simp [plainElem, he] at h
  exact ⟨_, rfl, h.symm⟩
/-- 'm[k]' (without 'ok') at bools. -/
theorem wpList_lookup_own_bool {H : Type} {P : Program} (w : World) {ops : Array Oper} {rest : List Oper} {o : Oper} {a : Act} {Q : Exit → Act → World → Prop}
    (hg : o.guard = none) (m x : Operand) (t : TypeId) (hop : o.op = Op.lookup t m x false)
    (k e : TypeId) (K : Keyed P k) (ht : P.underlying t = some (.map k e)) (he : P.underlying e = some .bool) (hz : (zeroValue e).run P w = .ok (.bool false) w) (b n : Nat) (D : DataW H)
    (hm : a.eval m = .map (some b)) (hown : w.ownsMap P k (plainElem P e) b n D) (key : Value) (kl : Lit) (hx : a.eval x = key) (hkey : keyOf P k key = some kl)
    (hK : ∀ c : Bool, D.atKey kl (.lit (.bool false)) = .lit (.bool c) → wpList P ops Q rest (a.put o.dst (.bool c)) w) :
    wpList P ops Q (o :: rest) a w := by
  refine wpList_plain hg fun K' hK' => ?_
  obtain ⟨v, ps, hrun, hv⟩ := hown.lookup K ht hz (plainElem_bool he false) hkey
  obtain ⟨c, rfl, hc⟩ := plainElem_bool_inv he hv
  simp only [Prod.mk.injEq] at hc
  unfold Oper.wp
  simp [execOp, hop, hm, hx, hrun, Result.andThen]
  exact hK' _ _ (hK c hc.1)
end Go
namespace Go.Proofs.Ytdkologncoofdaa.P
open Go.RowKit Go.Proofs.YtdkologncoofdaaW.PrintWords Go.Proofs.YtdkologncoofdaaW.PrintLast
set_option linter.unusedVariables false
set_option linter.unusedSimpArgs false

theorem zero4 (w : World) : (zeroValue 4).run Try.prog w = .ok (.bool false) w := by kernel_rfl
theorem law9 : Maps.Keyed Try.prog 9 := Maps.string_keyed Try.underlying9

/-- What a walk leans on: the recipe came in; the map, and the three cells that the walk's function captures. -/
structure Seat (w0 W : World) (bS bR bW B : Nat) (A : Option Addr) (c n : Nat) : Prop where
  below : Below w0.heap.size w0 W
  new : w0.heap.size ≤ B
  s : W.heap[bS]? = some (.cells #[.map (some B)] 90 (0, 0))
  r : W.heap[bR]? = some (.cells #[.slice A n c] 26 (0, 0))
  f : W.heap[bW]? = some (.cells #[.func (.func 97) #[] #[.pointer (some ⟨bS, 0, none⟩), .pointer (some ⟨bR, 0, none⟩), .pointer (some ⟨bW, 0, none⟩)]] 110 (0, 0))
theorem blk_ne_map {W : World} {P : Program} {k : TypeId} {RR : Value → Option (DataW Unit × List MemPlace)} {b g m : Nat} {D : DataW Unit} {cs : Array Value} {t : TypeId} {fr : Nat × Nat} (h : W.ownsMap P k RR b m D) (hg : W.heap[g]? = some (.cells cs t fr)) : g ≠ b := by
  rintro rfl
  obtain ⟨es, clock, hb, _⟩ := h
  rw [hb] at hg
  cases hg
theorem Seat.grown {w0 W W' : World} {bS bR bW B : Nat} {A : Option Addr} {c n m : Nat} {D : DataW Unit} (h : Seat w0 W bS bR bW B A c n) (ho : W.ownsMap Try.prog 9 (plainElem Try.prog 4) B m D) {row : Option Nat} (hrow : row = none ∨ row = some B) (hg : W.grownBy W' row) : Seat w0 W' bS bR bW B A c n := by
  have hne : ∀ {g : Nat} {cs : Array Value} {t : TypeId} {fr : Nat × Nat}, W.heap[g]? = some (.cells cs t fr) → some g ≠ row := by
    intro g cs t fr hg'
    rcases hrow with rfl | rfl
    · simp
    · intro e; exact blk_ne_map ho hg' (Option.some.inj e)
  refine ⟨h.below.grown hg h.below.size (fun k hk => ?_), h.new, ?_, ?_, ?_⟩
  · rcases hrow with rfl | rfl
    · cases hk
    · cases hk; exact h.new
  · exact blk_grown h.s hg (hne h.s)
  · exact blk_grown h.r hg (hne h.r)
  · exact blk_grown h.f hg (hne h.f)
theorem grown_none {w w1 : World} (h : Below w.heap.size w w1) : w.grownBy w1 none := grown_of_below h none

theorem nm_small (s : ByteArray) (h : nmOk s = true) : s.size ≤ maxLen := by
  unfold nmOk at h
  simp only [Bool.and_eq_true, inB_iff] at h
  unfold maxLen
  omega
theorem small_names (l : List S39) (hok : recOk l = true) (n : ByteArray) (h0 : ¬ atOf l n < 0) : (rd_T39 l (atOf l n)).f6.size ≤ maxLen ∧ (rd_T39 l (atOf l n)).f7.size ≤ maxLen := by
  have hr := atOf_range l n
  obtain ⟨i, hi⟩ := Int.eq_ofNat_of_zero_le (show 0 ≤ atOf l n by omega)
  have h := recOk_at l hok i (by omega)
  unfold okAt phOk at h
  simp only [Bool.and_eq_true] at h
  rw [hi]
  exact ⟨nm_small _ h.1.1.1.1.2, nm_small _ h.1.1.1.2⟩

set_option maxHeartbeats 8000000 in
set_option maxRecDepth 100000 in
theorem walk_calls (l : List S39) (hok : recOk l = true) (w0 : World) (A : Option Addr) (c : Nat) (hr : Kd.C k39 w0 A l.length l) (hc : l.length ≤ c) (bS bR bW B : Nat) (d : Nat) :
    ∀ (n : ByteArray) (W : World) (D : DataW Unit) (m : Nat) (S : List UInt8 → Bool), rk l n < d → n.size ≤ maxLen → Seat w0 W bS bR bW B A c l.length → W.ownsMap Try.prog 9 (plainElem Try.prog 4) B m D → Sat D S → Closed l S (rk l n + 1) → m + 2 ^ d ≤ 1000000 →
    Calls Try.prog 97 #[.string n, .pointer (some ⟨bS, 0, none⟩), .pointer (some ⟨bR, 0, none⟩), .pointer (some ⟨bW, 0, none⟩)] W
      fun e w' => e = .returned (.tuple #[]) ∧ ∃ (D' : DataW Unit) (m' : Nat), w'.ownsMap Try.prog 9 (plainElem Try.prog 4) B m' D' ∧ Sat D' (fun x => S x || R l n x) ∧ m' + 1 ≤ m + 2 ^ d ∧ W.grownBy w' (some B) := by
  induction d with
  | zero => intro n W D m S hd; omega
  | succ d ih =>
    intro n W D m S hd hn hs ho hsat hC hm
    have hkey : keyOf Try.prog 9 (.string n) = some (.string (ltr n)) := Go.WideMaps.keyOf_string_mk Try.underlying9 hn
    have hm2 : m < maxLen := by have : 1 ≤ 2 ^ (d + 1) := Nat.one_le_two_pow; unfold maxLen; omega
    have cS : W.cell? ⟨bS, 0, none⟩ = some (.map (some B)) := (blk_cell hs.s 0).trans rfl
    have HS := Aside0.mk hs
    have HO := Aside0.mk ho
    have HSat := Aside0.mk hsat
    have HC := Aside0.mk hC
    have HR := Aside0.mk hr
    have hu26 := Try.underlying26
    have hu39 := Try.underlying39
    clear hs ho hsat hC hr
    have hp : 1 ≤ 2 ^ d := Nat.one_le_two_pow
    cases hS : S (ltr n) with
    | true =>
      have H0 := Aside0.mk hS
      clear hS
      go_enter Try.func97, Try.ntmps97
      go_wp2_with (at_lookup; refine wpList_lookup_own_bool (H := Unit) _ rfl _ _ 90 rfl 9 4 law9 Try.underlying90 Try.underlying4 (zero4 _) B m D rfl HO.out _ _ rfl hkey ?_; intro cc hat; rw [sat_at HSat.out, H0.out] at hat; cases hat)
      go_frame
      refine bodyPost_ret (v := .tuple #[]) (results_none rfl _ _ _) rfl ?_
      refine ⟨rfl, D, m, HO.out, sat_of HSat.out (fun x => ?_), by rw [Nat.pow_succ]; omega, grown_of_below (Below.refl _ _) _⟩
      cases hx : R l n x with
      | false => simp
      | true => rw [closed_R l hok S (rk l n) n (Nat.le_refl _) HC.out H0.out x hx]; rfl
    | false =>
      have H0 := Aside0.mk hS
      clear hS
      by_cases h0 : atOf l n < 0
      · have h0b : decide (0 ≤ atOf l n) = false := decide_eq_false (by omega)
        go_enter Try.func97, Try.ntmps97
        go_wp2_with (first | (at_lookup; refine wpList_lookup_own_bool (H := Unit) _ rfl _ _ 90 rfl 9 4 law9 Try.underlying90 Try.underlying4 (zero4 _) B m D rfl HO.out _ _ rfl hkey ?_; intro cc hat; rw [sat_at HSat.out, H0.out] at hat; cases hat) | (at_mapUpdate; refine wpList_mapUpdate_own (H := Unit) _ rfl _ _ _ 90 rfl 9 4 law9 Try.underlying90 (plainElem Try.prog 4) B m D rfl HO.out hm2 _ _ _ rfl rfl hkey (.lit (.bool true)) [] (plainElem_bool Try.underlying4 true) ?_; intro w1 hown1 hg1; have HS1 := Aside0.mk (HS.out.grown HO.out (.inr rfl) hg1); have cR1 : w1.cell? ⟨bR, 0, none⟩ = some (.slice A l.length c) := (blk_cell HS1.out.r 0).trans rfl; have HO1 := Aside0.mk hown1; have HG1 := Aside0.mk hg1; clear hown1 hg1) | (go_at_call 69; refine (impl_at.calls _ _ l n (atOf l n) _ (Kd.C_below HR.out HS1.out.below) hc rfl).mono ?_; rintro e w2 ⟨rfl, hb⟩))
        go_end0
        have e2 := World.grownBy.andThen HG1.out (grown_none hb) (fun j hj => by cases hj)
        refine ⟨rfl, _, _, HO1.out.kept (grown_none hb) (by simp), sat_of (sat_put HSat.out HO.out.isMap (ltr n)) (fun x => ?_), by rw [Nat.pow_succ]; omega, e2⟩
        rw [R_step l hok n x, show decide (atOf l n < 0) = true from decide_eq_true h0]
        simp
      · have h0b : decide (0 ≤ atOf l n) = true := decide_eq_true (by omega)
        have H00 := Aside0.mk h0
        have h0c : 0 ≤ atOf l n := by omega
        have hlt : atOf l n < (l.length : Int) := (atOf_range l n).2
        obtain ⟨ad, e, x0, x1, x2, x3, x4, x5, x6, x7⟩ := at_T39 HR.out (atOf l n) h0c hlt
        cases e
        have HX6 := Aside0.mk x6
        have HX7 := Aside0.mk x7
        clear x0 x1 x2 x3 x4 x5 x6 x7
        go_enter Try.func97, Try.ntmps97
        go_wp2_with (first | (at_lookup; refine wpList_lookup_own_bool (H := Unit) _ rfl _ _ 90 rfl 9 4 law9 Try.underlying90 Try.underlying4 (zero4 _) B m D rfl HO.out _ _ rfl hkey ?_; intro cc hat; rw [sat_at HSat.out, H0.out] at hat; cases hat) | (at_mapUpdate; refine wpList_mapUpdate_own (H := Unit) _ rfl _ _ _ 90 rfl 9 4 law9 Try.underlying90 (plainElem Try.prog 4) B m D rfl HO.out hm2 _ _ _ rfl rfl hkey (.lit (.bool true)) [] (plainElem_bool Try.underlying4 true) ?_; intro w1 hown1 hg1; have HS1 := Aside0.mk (HS.out.grown HO.out (.inr rfl) hg1); have cR1 : w1.cell? ⟨bR, 0, none⟩ = some (.slice (some ad) l.length c) := (blk_cell HS1.out.r 0).trans rfl; have HO1 := Aside0.mk hown1; have HG1 := Aside0.mk hg1; clear hown1 hg1) | (go_at_call 69; refine (impl_at.calls _ _ l n (atOf l n) _ (Kd.C_below HR.out HS1.out.below) hc rfl).mono ?_; rintro e w2 ⟨rfl, hb⟩; have HB2 := Aside0.mk hb; have HS2 := Aside0.mk (HS1.out.grown HO1.out (.inl rfl) (grown_none hb)); have HO2 := Aside0.mk (HO1.out.kept (grown_none hb) (by simp)); have cR2 : w2.cell? ⟨bR, 0, none⟩ = some (.slice (some ad) l.length c) := (blk_cell HS2.out.r 0).trans rfl; have cF2 : w2.cell? ⟨bW, 0, none⟩ = some (.func (.func 97) #[] #[.pointer (some ⟨bS, 0, none⟩), .pointer (some ⟨bR, 0, none⟩), .pointer (some ⟨bW, 0, none⟩)]) := (blk_cell HS2.out.f 0).trans rfl; have c6 := (HS2.out.below.cell (World.block_lt_of_cell? w0 _ HX6.out)).trans HX6.out; have h0t := eq_true h0c; have hltt := eq_true hlt; clear hb))
        go_still_tail 6, (by kernel_rfl)
        change wpList _ _ _ _ _ w2.drew
        obtain ⟨w3, hw3⟩ : ∃ w3, w3 = w2.drew := ⟨_, rfl⟩
        rw [← hw3]
        have hb3 : Below w2.heap.size w2 w3 := by rw [hw3]; exact (Below.refl _ _).drew
        clear hw3 cR1 cR2 cF2 c6
        have HS3 := Aside0.mk (HS2.out.grown HO2.out (.inl rfl) (grown_none hb3))
        have HO3 := Aside0.mk (HO2.out.kept (grown_none hb3) (by simp))
        have HG3 := Aside0.mk (World.grownBy.andThen (World.grownBy.andThen HG1.out (grown_none HB2.out) (fun j hj => by cases hj)) (grown_none hb3) (fun j hj => by cases hj))
        have hx := ok_ref l hok n (Int.not_lt.mpr H00.out)
        have hsat1 := sat_put HSat.out HO.out.isMap (ltr n)
        have hcl1 := closed_add l S n HC.out
        have hz := small_names l hok n (Int.not_lt.mpr H00.out)
        have hcall := ih (rd_T39 l (atOf l n)).f6 w3 _ (m + 1) _ (by omega) hz.1 HS3.out HO3.out hsat1 (fun q hq hk => hcl1 q hq (by omega)) (by rw [Nat.pow_succ] at hm; omega)
        have HI := Aside0.mk ih
        have HX := Aside0.mk hx
        have HC1 := Aside0.mk hcl1
        have HZ := Aside0.mk hz
        clear ih hsat1 hcl1 hx hz hb3 HB2 HS1 HO1 HG1 HS2 HO2
        go_wp2_with (go_at_call 97; refine hcall.mono ?_; rintro e w4 ⟨rfl, D2, m2, hown2, hsat2, hm2', hg2⟩; have HS4 := Aside0.mk (HS3.out.grown HO3.out (.inr rfl) hg2); have HO4 := Aside0.mk hown2; have HSat2 := Aside0.mk hsat2; have HG4 := Aside0.mk (World.grownBy.andThen HG3.out hg2 (fun j hj => .inr (by cases hj; rfl))); have cR4 : w4.cell? ⟨bR, 0, none⟩ = some (.slice (some ad) l.length c) := (blk_cell HS4.out.r 0).trans rfl; have cF4 : w4.cell? ⟨bW, 0, none⟩ = some (.func (.func 97) #[] #[.pointer (some ⟨bS, 0, none⟩), .pointer (some ⟨bR, 0, none⟩), .pointer (some ⟨bW, 0, none⟩)]) := (blk_cell HS4.out.f 0).trans rfl; have c7 := (HS4.out.below.cell (World.block_lt_of_cell? w0 _ HX7.out)).trans HX7.out; clear hown2 hsat2 hg2 hcall)
        go_still_tail 6, (by kernel_rfl)
        change wpList _ _ _ _ _ w4.drew
        obtain ⟨w5, hw5⟩ : ∃ w5, w5 = w4.drew := ⟨_, rfl⟩
        rw [← hw5]
        have hb5 : Below w4.heap.size w4 w5 := by rw [hw5]; exact (Below.refl _ _).drew
        clear hw5 cR4 cF4 c7
        have HS5 := Aside0.mk (HS4.out.grown HO4.out (.inl rfl) (grown_none hb5))
        have HO5 := Aside0.mk (HO4.out.kept (grown_none hb5) (by simp))
        have HG5 := Aside0.mk (World.grownBy.andThen HG4.out (grown_none hb5) (fun j hj => by cases hj))
        have hcall2 := HI.out (rd_T39 l (atOf l n)).f7 w5 _ m2 _ (by have := HX.out; omega) HZ.out.2 HS5.out HO5.out HSat2.out (fun q hq hk => closed_union l hok _ (rd_T39 l (atOf l n)).f6 (rk l n) HC1.out q hq (by have := HX.out; omega)) (by rw [Nat.pow_succ] at hm; omega)
        clear hb5 HS3 HO3 HG3 HS4 HO4 HG4
        go_wp2_with (go_at_call 97; refine hcall2.mono ?_; rintro e w6 ⟨rfl, D3, m3, hown3, hsat3, hm3, hg3⟩; clear hcall2)
        go_end0
        refine ⟨rfl, D3, m3, hown3, sat_of hsat3 (fun x => ?_), by rw [Nat.pow_succ]; omega, World.grownBy.andThen HG5.out hg3 (fun j hj => .inr (by cases hj; rfl))⟩
        rw [R_step l hok n x, show decide (atOf l n < 0) = false from decide_eq_false (Int.not_lt.mpr H00.out)]
        simp [Bool.or_assoc]

end Go.Proofs.Ytdkologncoofdaa.P
-- XReach
namespace Go.Proofs.Ytdkologncoofdaa.P
open Go.RowKit Go.Proofs.YtdkologncoofdaaW.PrintWords Go.Proofs.YtdkologncoofdaaW.PrintLast
set_option linter.unusedVariables false
set_option linter.unusedSimpArgs false
set_option maxHeartbeats 8000000
set_option maxRecDepth 100000

/-- The world in which 'reach' calls its walk. -/
def reachW (w : World) (A : Option Addr) (c n : Nat) : World :=
  (((w.alloc (Obj.cells #[Value.slice A n c] 26)).alloc (Obj.map #[] 0)).alloc (Obj.cells #[Value.map (some (w.heap.size + 1))] 90)).alloc
    (Obj.cells #[Value.func (Fn.func 97) #[] #[Value.pointer (some { block := w.heap.size + 1 + 1, off := 0 }), Value.pointer (some { block := w.heap.size, off := 0 }), Value.pointer (some { block := w.heap.size + 1 + 1 + 1, off := 0 })]] 110)
theorem reachW_below (w : World) (A : Option Addr) (c n : Nat) : Below w.heap.size w (reachW w A c n) := by
  unfold reachW
  refine Below.alloc (Below.alloc (Below.alloc (Below.alloc (Below.refl _ _) ?_ _) ?_ _) ?_ _) ?_ _ <;> simp <;> omega
theorem alloc_at (w : World) (o : Obj) (b : Nat) (h : b = w.heap.size) : (w.alloc o).heap[b]? = some o := by
  subst h; simp only [World.alloc, Array.getElem?_push_size]
theorem alloc_old (w : World) (o : Obj) (b : Nat) (x : Obj) (h : w.heap[b]? = some x) : (w.alloc o).heap[b]? = some x := by
  have hlt : b < w.heap.size := (Array.getElem?_eq_some_iff.mp h).1
  simp only [World.alloc]
  rw [Array.getElem?_push_lt hlt]
  exact (Array.getElem?_eq_some_iff.mp h).2 ▸ rfl
theorem reachW_seat (w : World) (A : Option Addr) (c n : Nat) : Seat w (reachW w A c n) (w.heap.size + 1 + 1) w.heap.size (w.heap.size + 1 + 1 + 1) (w.heap.size + 1) A c n := by
  refine ⟨reachW_below w A c n, by omega, ?_, ?_, ?_⟩
  · unfold reachW; exact alloc_old _ _ _ _ (alloc_at _ _ _ (by simp))
  · unfold reachW; exact alloc_old _ _ _ _ (alloc_old _ _ _ _ (alloc_old _ _ _ _ (alloc_at _ _ _ rfl)))
  · unfold reachW; exact alloc_at _ _ _ (by simp)
theorem reachW_owns {H : Type} (w : World) (A : Option Addr) (c n : Nat) : (reachW w A c n).ownsMap Try.prog 9 (plainElem (H := H) Try.prog 4) (w.heap.size + 1) 0 (.map []) := by
  have h := World.ownsMap_made (w.alloc (Obj.cells #[Value.slice A n c] 26)) Try.prog 9 (plainElem (H := H) Try.prog 4)
  have e : (w.alloc (Obj.cells #[Value.slice A n c] 26)).heap.size = w.heap.size + 1 := by simp
  rw [e] at h
  unfold reachW
  refine h.kept (grown_none ?_) (by simp)
  refine Below.alloc (Below.alloc (Below.refl _ _) ?_ _) ?_ _ <;> simp
theorem rk_lt (l : List S39) (hok : recOk l = true) (n : ByteArray) : rk l n < 13 := by
  have h : inB (l.length : Int) 1 12 = true := by
    unfold recOk at hok
    simp only [Bool.and_eq_true] at hok
    exact hok.1
  rw [inB_iff] at h
  have := atOf_range l n
  unfold rk
  split <;> omega
theorem reach_calls (l : List S39) (hok : recOk l = true) (w : World) (A : Option Addr) (c : Nat) (hr : Kd.C k39 w A l.length l) (hc : l.length ≤ c) (n : ByteArray) (hn : n.size ≤ maxLen) :
    Calls Try.prog 70 #[.slice A l.length c, .string n] w fun e w' => ∃ (B : Nat) (D : DataW Unit) (m : Nat), e = .returned (.map (some B)) ∧ w.heap.size ≤ B ∧ w'.ownsMap Try.prog 9 (plainElem Try.prog 4) B m D ∧ Sat D (R l n) ∧ m ≤ 8192 ∧ Below w.heap.size w w' := by
  have hmm := @run_makeMap Try.prog
  have hcall := walk_calls l hok w A c hr hc _ _ _ _ 13 n (reachW w A c l.length) _ 0 _ (rk_lt l hok n) hn (reachW_seat w A c l.length) (reachW_owns w A c l.length) sat_empty (fun q h => by cases h) (by decide)
  unfold reachW at hcall
  have HS := Aside0.mk (reachW_seat w A c l.length)
  have HO := Aside0.mk (reachW_owns (H := Unit) w A c l.length)
  clear hr
  go_enter Try.func70, Try.ntmps70
  go_wp2_with (go_at_call 97; refine hcall.mono ?_; rintro e w2 ⟨rfl, D2, m2, hown2, hsat2, hm2, hg2⟩; have HS2 := Aside0.mk (HS.out.grown HO.out (.inr rfl) hg2); have HO2 := Aside0.mk hown2; have HSat2 := Aside0.mk hsat2; have cS2 : w2.cell? ⟨w.heap.size + 1 + 1, 0, none⟩ = some (.map (some (w.heap.size + 1))) := (blk_cell HS2.out.s 0).trans rfl; clear hcall hown2 hsat2 hg2)
  go_ret
  refine ⟨_, D2, m2, rfl, by omega, HO2.out, sat_of HSat2.out (fun x => by simp), by omega, HS2.out.below⟩

end Go.Proofs.Ytdkologncoofdaa.P
-- XCan
namespace Go.Proofs.Ytdkologncoofdaa.P
open Go.RowKit Go.Proofs.YtdkologncoofdaaW.PrintWords Go.Proofs.YtdkologncoofdaaW.PrintLast
set_option linter.unusedVariables false
set_option linter.unusedSimpArgs false
def impl_RecCan.f (_k : Nat) (l : List S39) (a : ByteArray) (e : Int) : Option Bool := some (canOf l a e)
theorem impl_RecCan.mono : ∀ a0 a1 a2 k, LeO (impl_RecCan.f k a0 a1 a2) (impl_RecCan.f (k + 1) a0 a1 a2) := fun _ _ _ _ => LeO.refl _

theorem keyOf_string_inv {key : Value} {kl : Lit} (h : keyOf Try.prog 9 key = some kl) : ∃ x, key = .string x ∧ kl = .string (ltr x) := by
  rw [keyOf_string Try.underlying9] at h
  cases key <;> simp [mapKey, Try.underlying9] at h
  exact ⟨_, rfl, h.2.symm⟩

/-- The step over a set of strings: the element is 'true'. -/
theorem wpList_next_sat (w : World) {ops : Array Oper} {rest : List Oper} {o : Oper} {a : Act} {Q : Exit → Act → World → Prop} (hg : o.guard = none) (it : Operand) (hop : o.op = Op.next it false)
    (b r n : Nat) (D : DataW Unit) (S : List UInt8 → Bool) (hS : Sat D S) (left : Lit → Bool) (cnt : Nat)
    (hit : a.eval it = .pointer (some ⟨r, 0, none⟩)) (h : w.ranges Try.prog 9 (plainElem Try.prog 4) b r n D left cnt)
    (hDone : cnt = 0 → (∀ kl, left kl = false) → wpList Try.prog ops Q rest (a.put o.dst (.tuple #[.bool false])) w)
    (hMore : ∀ (x : ByteArray) (w' : World) (cnt' : Nat), S (ltr x) = true → left (.string (ltr x)) = true → w'.ranges Try.prog 9 (plainElem Try.prog 4) b r n D (fun z => left z && !z.sameKey (.string (ltr x))) cnt' → cnt' < cnt →
      w.grownBy w' (some r) → w'.heap.size = w.heap.size → (Instr.entry (.pointer (some ⟨r, 0, none⟩))).run Try.prog w' = .ok (.tuple #[.string x, .bool true]) w' → wpList Try.prog ops Q rest (a.put o.dst (.tuple #[.bool true, .string x, .bool true])) w') :
    wpList Try.prog ops Q (o :: rest) a w :=
  wpList_next_ranges (α := ByteArray) (β := Bool) w hg it hop 9 law9 (plainElem Try.prog 4) Value.string Value.bool (fun key kl h => by obtain ⟨x, e, _⟩ := keyOf_string_inv h; exact ⟨x, e⟩) (fun v y h => by obtain ⟨c, e, _⟩ := plainElem_bool_inv Try.underlying4 h; exact ⟨c, e⟩) b r n D left cnt hit h hDone
    (fun x cx kl y w7 cnt7 hkey hlk hv hat hrg7 hlt7 hg7 hs7 hen => by
      obtain ⟨x', ex, ekl⟩ := keyOf_string_inv hkey
      cases ex
      subst ekl
      have hhas : Maps.has D (.string (ltr x)) = true := by
        cases hh : Maps.has D (.string (ltr x)) with
        | true => rfl
        | false =>
          have h1 := hat (.lit (.bool true))
          have h2 := hat (.lit (.bool false))
          rw [Maps.atKey_of_not_has hh] at h1 h2
          rw [← h2] at h1
          cases h1
      have hSx : S (ltr x) = true := by rw [← hS.1]; exact hhas
      obtain ⟨c, ec, ey⟩ := plainElem_bool_inv Try.underlying4 hv
      cases ec
      have h1 := hat (.lit (.bool true))
      have h9 := hS.2 (ltr x) (.lit (.bool true)) hSx
      rw [h9, ey] at h1
      have hct : cx = true := by
        have h2 : (DataW.lit (H := Unit) (Lit.bool true)) = .lit (.bool cx) := h1
        simp only [DataW.lit.injEq, Lit.bool.injEq] at h2
        exact h2.symm
      subst hct
      exact hMore x w7 cnt7 hSx hlk hrg7 hlt7 hg7 hs7 hen)

set_option maxHeartbeats 8000000 in
set_option maxRecDepth 100000 in
theorem impl_RecCan.calls (k : Nat) (A0 : Option Addr) (c0 : Nat) (l0 : List (S39)) (a1 : ByteArray) (a2 : Int) (r : Bool) (w : World) (hr0 : Kd.C k39 w A0 l0.length l0) (hc0 : l0.length ≤ c0) (h : impl_RecCan.f k l0 a1 a2 = some r) :
    Calls Try.prog 25 #[.slice A0 l0.length c0, .string a1, .int .i64 a2] w fun e w' => e = .returned (.bool r) ∧ Below w.heap.size w w' := by
  obtain rfl := Option.some.inj h
  clear h
  have HR := Aside0.mk hr0
  have HC := Aside0.mk hc0
  clear hr0 hc0
  cases hok : recOk l0 with
  | false =>
    have e : canOf l0 a1 a2 = false := by simp [canOf, hok]
    rw [e]
    clear e
    have HK := Aside0.mk hok
    clear hok
    go_enter Try.func25, Try.ntmps25
    go_wp2_with (go_at_call 36; refine (impl_RecOk.calls 80 _ _ l0 _ _ HR.out HC.out (impl_ok l0 80 (Nat.le_refl _))).mono ?_; rw [HK.out]; rintro e w1 ⟨rfl, hb⟩)
    go_ret
    exact ⟨rfl, hb⟩
  | true =>
    have HK := Aside0.mk hok
    cases hin : inB a2 1 3 with
    | false =>
      have e : canOf l0 a1 a2 = false := by simp [canOf, hin]
      rw [e]
      clear e
      have HI := Aside0.mk hin
      clear hok hin
      go_enter Try.func25, Try.ntmps25
      go_wp2_with (first | (go_at_call 36; refine (impl_RecOk.calls 80 _ _ l0 _ _ HR.out HC.out (impl_ok l0 80 (Nat.le_refl _))).mono ?_; rw [HK.out]; rintro e w1 ⟨rfl, hb⟩; have HB := Aside0.mk hb; clear hb) | (go_at_call 68; refine (impl_in.calls _ _ _ _ _ (impl_in' _ _ _)).mono ?_; rw [HI.out]; rintro e w2 ⟨rfl, hb2⟩))
      go_ret
      exact ⟨rfl, below_then HB.out HB.out.size hb2.below⟩
    | true =>
      have HI := Aside0.mk hin
      have he := inB_iff.mp hin
      by_cases h0 : atOf l0 a1 < 0
      · have e : canOf l0 a1 a2 = (endOf a1 == a2) := by simp [canOf, hin, hok, canB, h0]
        rw [e]
        have h0t := decide_eq_true h0
        have H0 := Aside0.mk h0
        clear e hok hin he h0
        go_enter Try.func25, Try.ntmps25
        go_wp2_with (first | (go_at_call 36; refine (impl_RecOk.calls 80 _ _ l0 _ _ HR.out HC.out (impl_ok l0 80 (Nat.le_refl _))).mono ?_; rw [HK.out]; rintro e w1 ⟨rfl, hb⟩; have HB := Aside0.mk hb; clear hb) | (go_at_call 68; refine (impl_in.calls _ _ _ _ _ (impl_in' _ _ _)).mono ?_; rw [HI.out]; rintro e w2 ⟨rfl, hb2⟩; have HB2 := Aside0.mk (below_then HB.out HB.out.size hb2.below); clear hb2) | (go_at_call 69; refine (impl_at.calls _ _ l0 a1 (atOf l0 a1) _ (Kd.C_below HR.out HB2.out) HC.out rfl).mono ?_; rintro e w3 ⟨rfl, hb3⟩; have HB3 := Aside0.mk (below_then HB2.out HB2.out.size hb3); clear hb3) | (go_at_call 19; refine (impl_RecEnd.calls 4 a1 _ _ (impl_end a1 0)).mono ?_; rintro e w4 ⟨rfl, hb4⟩; have HB4 := Aside0.mk (below_then HB3.out HB3.out.size hb4); clear hb4))
        go_ret
        exact ⟨rfl, HB4.out⟩
      · have e : canOf l0 a1 a2 = canB l0 12 a1 a2 := by simp [canOf, hin, hok]
        rw [e]
        have hsm := at_small l0 hok a1 h0
        have hn : a1.size ≤ maxLen := by unfold maxLen; omega
        have hiff := canB_iff l0 hok a2 he.1 12 a1 (by have := rk_lt l0 hok a1; omega)
        have h0t : decide (atOf l0 a1 < 0) = false := decide_eq_false h0
        have HF := Aside0.mk hiff
        clear e hin he h0 hsm hiff
        generalize hcan : canB l0 12 a1 a2 = cb at *
        clear hcan
        go_enter Try.func25, Try.ntmps25
        go_wp2_with (first | (go_at_call 36; refine (impl_RecOk.calls 80 _ _ l0 _ _ HR.out HC.out (impl_ok l0 80 (Nat.le_refl _))).mono ?_; rw [HK.out]; rintro e w1 ⟨rfl, hb⟩; have HB := Aside0.mk hb; clear hb) | (go_at_call 68; refine (impl_in.calls _ _ _ _ _ (impl_in' _ _ _)).mono ?_; rw [HI.out]; rintro e w2 ⟨rfl, hb2⟩; have HB2 := Aside0.mk (below_then HB.out HB.out.size hb2.below); clear hb2) | (go_at_call 69; refine (impl_at.calls _ _ l0 a1 (atOf l0 a1) _ (Kd.C_below HR.out HB2.out) HC.out rfl).mono ?_; rintro e w3 ⟨rfl, hb3⟩; have HB3 := Aside0.mk (below_then HB2.out HB2.out.size hb3); clear hb3) | (go_at_call 70; refine (reach_calls l0 HK.out _ A0 c0 (Kd.C_below HR.out HB3.out) HC.out a1 hn).mono ?_; rintro e w4 ⟨B, D, m, rfl, hnew, hown, hsat, hm, hb4⟩; have HB4 := Aside0.mk (below_then HB3.out HB3.out.size hb4); have HO := Aside0.mk hown; have HS := Aside0.mk hsat; have HN := Aside0.mk hnew; clear hb4 hown hsat hnew) | (at_range; refine wpList_range_own _ rfl _ 90 rfl 9 4 law9 Try.underlying90 _ B m D rfl HO.out ?_; intro w5 hrg5 hg5 hs5))
        go_frame
        have HP := Aside0.mk hg5
        have hb5 : Below w.heap.size w w5 := HB4.out.grown hg5 HB4.out.size (fun k hk => by cases hk)
        have HB5 := Aside0.mk hb5
        have hsz4 := HB4.out.size
        have hBne : w4.heap.size ≠ B := hrg5.ne
        have HR5 := Aside0.mk hrg5
        clear hg5 hb5 hrg5
        go_loopw [7] (fun _ wr => ∃ (left : Lit → Bool) (cnt : Nat), wr.ranges Try.prog 9 (plainElem Try.prog 4) B w4.heap.size m D left cnt ∧ Aside0 (Below w.heap.size w wr) ∧ Aside0 (∀ q : ByteArray, Maps.has D (.string (ltr q)) = true → left (.string (ltr q)) = false → endOf q ≠ a2))
          (fun _ wr => wr.rangeLeft B w4.heap.size)
        case atStart => exact ⟨_, _, HR5.out, HB5, ⟨fun q h1 h2 => by rw [h1] at h2; cases h2⟩⟩
        case round =>
          obtain ⟨left, cnt, hrg, HB6, HQ⟩ := hrel
          go_wp2_with (first
            | (at_next; refine wpList_next_sat _ rfl _ rfl B w4.heap.size m D _ HS.out left cnt rfl hrg ?_ ?_))
          · intro hc0 hl0
            have hall : cb = false := by
              cases cb with
              | false => rfl
              | true =>
                obtain ⟨q, hq, hqe⟩ := HF.out.mp rfl
                exact absurd hqe (HQ.out q (by rw [HS.out.1]; exact hq) (hl0 _))
            have HA := Aside0.mk hall
            clear hl0 hall
            go_wp2
            go_ret
            exact ⟨by rw [HA.out]; rfl, HB6.out⟩
          · intro x w7 cnt7 hSx hlk hrg7 hlt7 hg7 hs7 hen
            have HH := Aside0.mk hSx
            have hb7 : Below w.heap.size w w7 := HB6.out.grown hg7 HB6.out.size (fun k hk => by cases hk; exact hsz4)
            have HB7 := Aside0.mk hb7
            have HR7 := Aside0.mk hrg7
            have HG := Aside0.mk hrg
            clear hb7 hSx hlk hg7 hrg7 hrg
            by_cases hend : endOf x = a2
            · have hcb : cb = true := HF.out.mpr ⟨x, HH.out, hend⟩
              have HE := Aside0.mk hend
              have HCB := Aside0.mk hcb
              have hbe : (endOf x == a2) = true := by simp [hend]
              clear hend hcb
              go_wp2_with (go_at_call 19; refine (impl_RecEnd.calls 4 x _ _ (impl_end x 0)).mono ?_; rintro e w8 ⟨rfl, hb8⟩; have HB8 := Aside0.mk (below_then HB7.out HB7.out.size hb8); clear hb8)
              go_ret
              exact ⟨by rw [HCB.out]; rfl, HB8.out⟩
            · have HE := Aside0.mk hend
              have hbe : (endOf x == a2) = false := by simp [hend]
              clear hend
              go_wp2_with (go_at_call 19; refine (impl_RecEnd.calls 4 x _ _ (impl_end x 0)).mono ?_; rintro e w8 ⟨rfl, hb8⟩; have HB8 := Aside0.mk (below_then HB7.out HB7.out.size hb8); have HR8 := Aside0.mk (HR7.out.kept (grown_none hb8) (by simp) (by simp)); clear hb8)
              go_roundw
              case rel =>
                refine ⟨_, cnt7, HR8.out, HB8, ⟨fun q h1 h2 => ?_⟩⟩
                cases hl : left (.string (ltr q)) with
                | false => exact HQ.out q h1 hl
                | true =>
                  rw [hl] at h2
                  have h3 : (Lit.string (ltr q)).sameKey (.string (ltr x)) = true := by simpa using h2
                  have h4 : ltr q = ltr x := by simpa [Lit.sameKey] using h3
                  rw [ltr_inj h4]
                  exact HE.out
              case measure => rw [HR8.out.left_eq, HG.out.left_eq]; exact hlt7

end Go.Proofs.Ytdkologncoofdaa.P
-- Q17
namespace Go.Proofs.Ytdkologncoofdaa.P
open Go.RowKit Go.Proofs.YtdkologncoofdaaW.PrintWords Go.Proofs.YtdkologncoofdaaW.PrintLast

/-- Strictly ascending. -/
def Asc (l : List (List UInt8)) : Prop := l.Pairwise (fun x y => x < y)
theorem asc_ext : ∀ (a b : List (List UInt8)), Asc a → Asc b → (∀ x, x ∈ a ↔ x ∈ b) → a = b
  | [], [], _, _, _ => rfl
  | [], y :: b, _, _, h => absurd ((h y).2 (by simp)) (by simp)
  | x :: a, [], _, _, h => absurd ((h x).1 (by simp)) (by simp)
  | x :: a, y :: b, ha, hb, h => by
    have ha' := List.pairwise_cons.1 ha
    have hb' := List.pairwise_cons.1 hb
    have e : x = y := by
      have h1 := (h x).1 (by simp)
      have h2 := (h y).2 (by simp)
      rcases List.mem_cons.1 h1 with e | e
      · exact e
      · rcases List.mem_cons.1 h2 with e2 | e2
        · exact e2.symm
        · exact absurd (List.lt_trans (hb'.1 x e) (ha'.1 y e2)) (List.lt_irrefl y)
    subst e
    congr 1
    refine asc_ext a b ha'.2 hb'.2 fun z => ?_
    constructor
    · intro hz
      rcases List.mem_cons.1 ((h z).1 (List.mem_cons_of_mem _ hz)) with e | e
      · subst e; exact absurd (ha'.1 z hz) (List.lt_irrefl z)
      · exact e
    · intro hz
      rcases List.mem_cons.1 ((h z).2 (List.mem_cons_of_mem _ hz)) with e | e
      · subst e; exact absurd (hb'.1 z hz) (List.lt_irrefl z)
      · exact e

/-- A name put into an ascending list. -/
def ins : List ByteArray → ByteArray → List ByteArray
  | [], a => [a]
  | x :: l, a => if ltr x < ltr a then x :: ins l a else if ltr x = ltr a then x :: l else a :: x :: l
theorem ins_mem (a : ByteArray) (x : List UInt8) : ∀ l : List ByteArray, x ∈ (ins l a).map ltr ↔ x = ltr a ∨ x ∈ l.map ltr
  | [] => by simp [ins]
  | y :: l => by
    unfold ins
    split
    · simp only [List.map_cons, List.mem_cons, ins_mem a x l]
      constructor
      · rintro (h | h | h)
        · exact .inr (.inl h)
        · exact .inl h
        · exact .inr (.inr h)
      · rintro (h | h | h)
        · exact .inr (.inl h)
        · exact .inl h
        · exact .inr (.inr h)
    · split
      · rename_i e
        simp only [List.map_cons, List.mem_cons]
        constructor
        · exact .inr
        · rintro (h | h)
          · exact .inl (h.trans e.symm)
          · exact h
      · simp only [List.map_cons, List.mem_cons]
theorem lt_of_not {x y : List UInt8} (h : ¬ x < y) (hn : x ≠ y) : y < x := by
  rcases Decidable.em (y < x) with h2 | h2
  · exact h2
  · exact absurd (List.le_antisymm (List.not_lt.1 h2) (List.not_lt.1 h)) hn
theorem ins_asc (a : ByteArray) : ∀ l : List ByteArray, Asc (l.map ltr) → Asc ((ins l a).map ltr)
  | [], _ => by simp [ins, Asc]
  | y :: l, h => by
    have h' := List.pairwise_cons.1 h
    unfold ins
    split
    · rename_i hlt
      refine List.pairwise_cons.2 ⟨fun z hz => ?_, ins_asc a l h'.2⟩
      rcases (ins_mem a z l).1 hz with e | e
      · exact e ▸ hlt
      · exact h'.1 z e
    · split
      · exact h
      · rename_i h1 h2
        have hlt := lt_of_not h1 h2
        refine List.pairwise_cons.2 ⟨fun z hz => ?_, h⟩
        rcases List.mem_cons.1 hz with e | e
        · exact e ▸ hlt
        · exact List.lt_trans hlt (h'.1 z e)
theorem ins_len (a : ByteArray) : ∀ l : List ByteArray, (ins l a).length ≤ l.length + 1
  | [] => by simp [ins]
  | y :: l => by
    unfold ins
    have := ins_len a l
    split
    · simp; omega
    · split <;> simp
theorem ins_at (a : ByteArray) : ∀ (l : List ByteArray) (k : Nat), k ≤ l.length → (∀ j, j < k → ltr (l.getD j ByteArray.empty) < ltr a) → ins l a = l.take k ++ ins (l.drop k) a
  | l, 0, _, _ => by simp
  | [], k + 1, h, _ => by simp at h
  | y :: l, k + 1, h, hb => by
    have h0 := hb 0 (by omega)
    simp only [List.getD_cons_zero] at h0
    rw [ins, if_pos h0, List.take_succ_cons, List.drop_succ_cons, List.cons_append, ins_at a l k (by simpa using h) (fun j hj => by simpa using hb (j + 1) (by omega))]
theorem ins_has (a : ByteArray) (l : List ByteArray) (k : Nat) (hk : k < l.length) (hb : ∀ j, j < k → ltr (l.getD j ByteArray.empty) < ltr a) (e : ltr (l.getD k ByteArray.empty) = ltr a) : ins l a = l := by
  rw [ins_at a l k (by omega) hb]
  have hd : l.drop k = l.getD k ByteArray.empty :: l.drop (k + 1) := by
    rw [List.getD_eq_getElem?_getD, List.getElem?_eq_getElem hk]; exact (List.drop_eq_getElem_cons hk)
  rw [hd, ins, if_neg (by rw [e]; exact List.lt_irrefl _), if_pos e, ← hd, List.take_append_drop]
theorem ins_new (a : ByteArray) (l : List ByteArray) (k : Nat) (hk : k ≤ l.length) (hb : ∀ j, j < k → ltr (l.getD j ByteArray.empty) < ltr a) (e : k < l.length → ¬ ltr (l.getD k ByteArray.empty) < ltr a ∧ ltr (l.getD k ByteArray.empty) ≠ ltr a) : ins l a = (l.take k ++ [a]) ++ l.drop k := by
  rw [ins_at a l k hk hb, List.append_assoc]
  congr 1
  by_cases h : k < l.length
  · have hd : l.drop k = l.getD k ByteArray.empty :: l.drop (k + 1) := by
      rw [List.getD_eq_getElem?_getD, List.getElem?_eq_getElem h]; exact (List.drop_eq_getElem_cons h)
    rw [hd, ins, if_neg (e h).1, if_neg (e h).2]; rfl
  · rw [List.drop_eq_nil_of_le (by omega)]; rfl

/-- All names of two ascending lists. -/
def both (a b : List ByteArray) : List ByteArray := b.foldl ins a
theorem both_mem (x : List UInt8) (b : List ByteArray) : ∀ a : List ByteArray, x ∈ (both a b).map ltr ↔ x ∈ a.map ltr ∨ x ∈ b.map ltr := by
  induction b with
  | nil => intro a; simp [both]
  | cons y b ih =>
    intro a
    have := ih (ins a y)
    unfold both at this ⊢
    rw [List.foldl_cons, this, ins_mem, List.map_cons, List.mem_cons]
    constructor
    · rintro ((h | h) | h)
      · exact .inr (.inl h)
      · exact .inl h
      · exact .inr (.inr h)
    · rintro (h | h | h)
      · exact .inl (.inr h)
      · exact .inl (.inl h)
      · exact .inr h
theorem both_asc (b : List ByteArray) : ∀ a : List ByteArray, Asc (a.map ltr) → Asc ((both a b).map ltr) := by
  induction b with
  | nil => intro a h; exact h
  | cons y b ih => intro a h; exact ih _ (ins_asc y a h)
theorem both_len (b : List ByteArray) : ∀ a : List ByteArray, (both a b).length ≤ a.length + b.length := by
  induction b with
  | nil => intro a; simp [both]
  | cons y b ih =>
    intro a
    have h1 := ih (ins a y)
    have h2 := ins_len y a
    unfold both at h1 ⊢
    rw [List.foldl_cons]
    simp only [List.length_cons]
    omega

/-- The slots of a phase alone. -/
def slotsOf (p : S39) : List ByteArray := if p.f1 = 2 then ins [p.f2] p.f3 else [p.f2]
def InSlot (p : S39) (x : List UInt8) : Prop := x = ltr p.f2 ∨ (p.f1 = 2 ∧ x = ltr p.f3)
theorem slotsOf_mem (p : S39) (x : List UInt8) : x ∈ (slotsOf p).map ltr ↔ InSlot p x := by
  unfold slotsOf InSlot
  split
  · rename_i h
    rw [ins_mem]
    simp only [List.map_cons, List.map_nil, List.mem_singleton, h, true_and]
    exact Or.comm
  · rename_i h
    simp [h]
theorem slotsOf_asc (p : S39) : Asc ((slotsOf p).map ltr) := by
  unfold slotsOf
  split
  · exact ins_asc _ _ (by simp [Asc])
  · simp [Asc]
theorem slotsOf_len (p : S39) : (slotsOf p).length ≤ 2 := by
  unfold slotsOf
  split
  · exact ins_len _ _
  · simp

/-- The slots that may be used from a phase on. -/
def slt (l : List S39) : Nat → ByteArray → List ByteArray
  | 0, _ => []
  | f + 1, n => if atOf l n < 0 then [] else both (both (slotsOf (rd_T39 l (atOf l n))) (slt l f (rd_T39 l (atOf l n)).f6)) (slt l f (rd_T39 l (atOf l n)).f7)
theorem slt_asc (l : List S39) (f : Nat) : ∀ n, Asc ((slt l f n).map ltr) := by
  cases f with
  | zero => intro n; simp [slt, Asc]
  | succ f =>
    intro n
    unfold slt
    split
    · simp [Asc]
    · exact both_asc _ _ (both_asc _ _ (slotsOf_asc _))
theorem slt_len (l : List S39) (f : Nat) : ∀ n, (slt l f n).length + 2 ≤ 2 ^ (f + 1) := by
  induction f with
  | zero => intro n; simp [slt]
  | succ f ih =>
    intro n
    unfold slt
    split
    · have : 2 ^ 1 ≤ 2 ^ (f + 1 + 1) := Nat.pow_le_pow_right (by omega) (by omega)
      simpa using this
    · have h1 := both_len (slt l f (rd_T39 l (atOf l n)).f7) (both (slotsOf (rd_T39 l (atOf l n))) (slt l f (rd_T39 l (atOf l n)).f6))
      have h2 := both_len (slt l f (rd_T39 l (atOf l n)).f6) (slotsOf (rd_T39 l (atOf l n)))
      have h3 := slotsOf_len (rd_T39 l (atOf l n))
      have h4 := ih (rd_T39 l (atOf l n)).f6
      have h5 := ih (rd_T39 l (atOf l n)).f7
      rw [Nat.pow_succ 2 (f + 1)]
      omega
/-- What some phase that may come uses. -/
def Uses (l : List S39) (n : ByteArray) (x : List UInt8) : Prop := ∃ m : ByteArray, R l n (ltr m) = true ∧ ¬ atOf l m < 0 ∧ InSlot (rd_T39 l (atOf l m)) x
theorem uses_none (l : List S39) (hok : recOk l = true) (n : ByteArray) (h0 : atOf l n < 0) (x : List UInt8) : ¬ Uses l n x := by
  rintro ⟨m, hm, hm0, _⟩
  rw [R_step l hok n] at hm
  simp only [h0, decide_true, Bool.not_true, Bool.false_and, Bool.or_false] at hm
  obtain rfl := ltr_inj (by simpa using hm)
  exact hm0 h0
theorem uses_step (l : List S39) (hok : recOk l = true) (n : ByteArray) (h0 : ¬ atOf l n < 0) (x : List UInt8) :
    Uses l n x ↔ InSlot (rd_T39 l (atOf l n)) x ∨ Uses l (rd_T39 l (atOf l n)).f6 x ∨ Uses l (rd_T39 l (atOf l n)).f7 x := by
  constructor
  · rintro ⟨m, hm, hm0, hx⟩
    rw [R_step l hok n] at hm
    simp only [h0, decide_false, Bool.not_false, Bool.true_and, Bool.or_eq_true] at hm
    rcases hm with hm | hm | hm
    · obtain rfl := ltr_inj (by simpa using hm)
      exact .inl hx
    · exact .inr (.inl ⟨m, hm, hm0, hx⟩)
    · exact .inr (.inr ⟨m, hm, hm0, hx⟩)
  · rintro (hx | ⟨m, hm, hm0, hx⟩ | ⟨m, hm, hm0, hx⟩)
    · exact ⟨n, R_self l hok n, h0, hx⟩
    · exact ⟨m, by rw [R_step l hok n]; simp [h0, hm], hm0, hx⟩
    · exact ⟨m, by rw [R_step l hok n]; simp [h0, hm], hm0, hx⟩
theorem slt_mem (l : List S39) (hok : recOk l = true) (x : List UInt8) (f : Nat) : ∀ n, rk l n ≤ f → (x ∈ (slt l f n).map ltr ↔ Uses l n x) := by
  induction f with
  | zero =>
    intro n h
    have h0 : atOf l n < 0 := by
      unfold rk at h
      have := atOf_range l n
      split at h <;> omega
    simp [slt, uses_none l hok n h0]
  | succ f ih =>
    intro n h
    by_cases h0 : atOf l n < 0
    · simp [slt, h0, uses_none l hok n h0]
    · have hx := ok_ref l hok n h0
      unfold slt
      rw [if_neg h0, both_mem, both_mem, ih _ (by omega), ih _ (by omega), uses_step l hok n h0, slotsOf_mem, or_assoc]
theorem slt_more (l : List S39) (hok : recOk l = true) (f g : Nat) (n : ByteArray) (hf : rk l n ≤ f) (hg : rk l n ≤ g) : slt l f n = slt l g n := by
  have h := asc_ext _ _ (slt_asc l f n) (slt_asc l g n) (fun x => (slt_mem l hok x f n hf).trans (slt_mem l hok x g n hg).symm)
  exact (List.map_inj_right (fun _ _ => ltr_inj)).1 h
/-- RecSlots. -/
def slotsAt (l : List S39) (n : ByteArray) : List ByteArray := if recOk l = true then slt l 12 n else []
theorem slotsAt_len (l : List S39) (n : ByteArray) : (slotsAt l n).length ≤ 8190 := by
  unfold slotsAt
  split
  · have := slt_len l 12 n
    omega
  · simp

/-! ### What is left of an ascending row when its runs are struck -/
theorem upTo_mem (d : Array (List UInt8)) (x : List UInt8) : ∀ m, (x ∈ Lib.compactUpTo d m ↔ ∃ j, j < m ∧ d[j]! = x)
  | 0 => by simp [Lib.compactUpTo]
  | m + 1 => by
    rw [Lib.compactUpTo_succ, List.mem_append, upTo_mem d x m]
    constructor
    · rintro (⟨j, hj, e⟩ | h)
      · exact ⟨j, by omega, e⟩
      · split at h
        · exact ⟨m, by omega, (List.mem_singleton.1 h).symm⟩
        · cases h
    · rintro ⟨j, hj, e⟩
      by_cases h : j < m
      · exact .inl ⟨j, h, e⟩
      · obtain rfl : j = m := by omega
        by_cases hk : Lib.keeps d j = true
        · exact .inr (by rw [if_pos hk]; simp [e])
        · have : j ≠ 0 ∧ d[j]! = d[j - 1]! := by
            simpa [Lib.keeps] using hk
          exact .inl ⟨j - 1, by omega, this.2 ▸ e⟩
theorem upTo_asc (d : Array (List UInt8)) (h : ∀ i j, i ≤ j → j < d.size → d[i]! ≤ d[j]!) : ∀ m, m ≤ d.size → Asc (Lib.compactUpTo d m)
  | 0, _ => by simp [Lib.compactUpTo, Asc]
  | m + 1, hm => by
    rw [Lib.compactUpTo_succ]
    refine List.pairwise_append.2 ⟨upTo_asc d h m (by omega), by split <;> simp, fun x hx y hy => ?_⟩
    split at hy
    · rename_i hk
      obtain rfl := List.mem_singleton.1 hy
      obtain ⟨j, hj, rfl⟩ := (upTo_mem d x m).1 hx
      have hne : d[m]! ≠ d[m - 1]! := by
        have : m = 0 ∨ d[m]! ≠ d[m - 1]! := by simpa [Lib.keeps] using hk
        rcases this with e | e
        · omega
        · exact e
      have h1 := h j (m - 1) (by omega) (by omega)
      have h2 := h (m - 1) m (by omega) (by omega)
      have h3 : d[m - 1]! < d[m]! := by
        rcases Decidable.em (d[m - 1]! < d[m]!) with h4 | h4
        · exact h4
        · exact absurd (List.le_antisymm (List.not_lt.1 h4) h2) hne
      rcases Decidable.em (d[j]! < d[m]!) with h4 | h4
      · exact h4
      · exact absurd h3 (List.not_lt.2 (List.le_trans (List.not_lt.1 h4) h1))
    · cases hy
theorem compact_slots (ss : List (List UInt8)) (t : List ByteArray) (ht : Asc (t.map ltr)) (h : ∀ x, x ∈ ss ↔ x ∈ t.map ltr) : Lib.compact (ss.mergeSort fun x y => decide (x ≤ y)) = t.map ltr := by
  have tr : ∀ a b c : List UInt8, decide (a ≤ b) = true → decide (b ≤ c) = true → decide (a ≤ c) = true := fun a b c h1 h2 => by simp only [decide_eq_true_eq] at *; exact List.le_trans h1 h2
  have tot : ∀ a b : List UInt8, (decide (a ≤ b) || decide (b ≤ a)) = true := fun a b => by simp only [Bool.or_eq_true, decide_eq_true_eq]; exact List.le_total a b
  have hs := List.pairwise_mergeSort tr tot ss
  obtain ⟨u, hu⟩ : ∃ u, u = ss.mergeSort fun x y => decide (x ≤ y) := ⟨_, rfl⟩
  have hm : ∀ x, x ∈ u ↔ x ∈ ss := fun x => by rw [hu]; exact List.mem_mergeSort
  rw [← hu] at hs ⊢
  refine asc_ext _ _ (upTo_asc _ (fun i j hij hj => ?_) _ (by simp)) ht fun x => ?_
  · have hj' : j < u.length := by simpa using hj
    have hi' : i < u.length := by omega
    rw [getElem!_pos _ i (by simpa using hi'), getElem!_pos _ j hj]
    simp only [List.getElem_toArray]
    by_cases e : i = j
    · subst e; exact List.le_refl _
    · have := (List.pairwise_iff_getElem.1 hs) i j hi' hj' (by omega)
      simpa using this
  · rw [← h, ← hm]
    refine (upTo_mem _ x _).trans ⟨?_, fun hx => ?_⟩
    · rintro ⟨j, hj, rfl⟩
      rw [getElem!_pos _ j (by simpa using hj)]
      simp
    · obtain ⟨j, hj, rfl⟩ := List.getElem_of_mem hx
      exact ⟨j, hj, by rw [getElem!_pos _ j (by simpa using hj)]; simp⟩
theorem slots_of (l : List S39) (hok : recOk l = true) (n : ByteArray) (hn : rk l n ≤ 12) (ss : List (List UInt8)) (h : ∀ x, x ∈ ss ↔ Uses l n x) : Lib.compact (ss.mergeSort fun x y => decide (x ≤ y)) = (slotsAt l n).map ltr := by
  unfold slotsAt
  rw [if_pos hok]
  exact compact_slots ss _ (slt_asc l 12 n) fun x => (h x).trans (slt_mem l hok x 12 n hn).symm

end Go.Proofs.Ytdkologncoofdaa.P
-- XShelf
namespace Go.Proofs
open Go.Shelf
def Try.lays192_ren : Go.Shelf.Ren := ⟨fun | 192 => 73 | 190 => 98 | 125 => 104 | 258 => 103 | 128 => 115 | 129 => 116 | 302 => 106 | 303 => 107 | 304 => 108 | 305 => 109 | 306 => 110 | 307 => 111 | 308 => 112 | 309 => 113 | 310 => 114 | 333 => 117 | 329 => 118 | 330 => 119 | 334 => 120 | 335 => 121 | 336 => 122 | 344 => 123 | n => n, fun | 31 => 32 | 0 => 0 | 9 => 9 | 3 => 3 | 46 => 116 | 51 => 128 | 53 => 130 | 4 => 4 | 183 => 120 | 182 => 119 | 131 => 125 | 5 => 5 | 218 => 131 | 222 => 135 | 228 => 137 | 229 => 138 | n => n, fun | n => n⟩
theorem Try.lays192 : Go.Proofs.Lays.n192 Try.prog Try.lays192_ren := {
  mixed := by kernel_rfl
  f125 := Try.func104.trans (congrArg some (by kernel_rfl))
  f128 := Try.func115.trans (congrArg some (by kernel_rfl))
  f129 := Try.func116.trans (congrArg some (by kernel_rfl))
  f190 := Try.func98.trans (congrArg some (by kernel_rfl))
  f192 := Try.func73.trans (congrArg some (by kernel_rfl))
  f258 := Try.func103.trans (congrArg some (by kernel_rfl))
  f302 := Try.func106.trans (congrArg some (by kernel_rfl))
  f303 := Try.func107.trans (congrArg some (by kernel_rfl))
  f304 := Try.func108.trans (congrArg some (by kernel_rfl))
  f305 := Try.func109.trans (congrArg some (by kernel_rfl))
  f306 := Try.func110.trans (congrArg some (by kernel_rfl))
  f307 := Try.func111.trans (congrArg some (by kernel_rfl))
  f308 := Try.func112.trans (congrArg some (by kernel_rfl))
  f309 := Try.func113.trans (congrArg some (by kernel_rfl))
  f310 := Try.func114.trans (congrArg some (by kernel_rfl))
  f329 := Try.func118.trans (congrArg some (by kernel_rfl))
  f330 := Try.func119.trans (congrArg some (by kernel_rfl))
  f333 := Try.func117.trans (congrArg some (by kernel_rfl))
  f334 := Try.func120.trans (congrArg some (by kernel_rfl))
  f335 := Try.func121.trans (congrArg some (by kernel_rfl))
  f336 := Try.func122.trans (congrArg some (by kernel_rfl))
  f344 := Try.func123.trans (congrArg some (by kernel_rfl))
  t0 := Try.underlying0
  a0 := Try.isAgg0
  z0 := Try.sizeOf0
  v0 := Try.zeroValue0
  t3 := Try.underlying3
  a3 := Try.isAgg3
  z3 := Try.sizeOf3
  v3 := Try.zeroValue3
  t4 := Try.underlying4
  a4 := Try.isAgg4
  z4 := Try.sizeOf4
  v4 := Try.zeroValue4
  t5 := Try.underlying5
  a5 := Try.isAgg5
  z5 := Try.sizeOf5
  v5 := Try.zeroValue5
  t9 := Try.underlying9
  a9 := Try.isAgg9
  z9 := Try.sizeOf9
  v9 := Try.zeroValue9
  t31 := Try.underlying32
  a31 := Try.isAgg32
  z31 := Try.sizeOf32
  v31 := Try.zeroValue32
  t46 := Try.underlying116
  a46 := Try.isAgg116
  z46 := Try.sizeOf116
  v46 := Try.zeroValue116
  t51 := Try.underlying128
  a51 := Try.isAgg128
  z51 := Try.sizeOf128
  v51 := Try.zeroValue128
  t53 := Try.underlying130
  a53 := Try.isAgg130
  z53 := Try.sizeOf130
  v53 := Try.zeroValue130
  t131 := Try.underlying125
  a131 := Try.isAgg125
  z131 := Try.sizeOf125
  v131 := Try.zeroValue125
  t182 := Try.underlying119
  a182 := Try.isAgg119
  z182 := Try.sizeOf119
  v182 := Try.zeroValue119
  t183 := Try.underlying120
  a183 := Try.isAgg120
  z183 := Try.sizeOf120
  v183 := Try.zeroValue120
  t218 := Try.underlying131
  a218 := Try.isAgg131
  z218 := Try.sizeOf131
  v218 := Try.zeroValue131
  t222 := Try.underlying135
  a222 := Try.isAgg135
  z222 := Try.sizeOf135
  v222 := Try.zeroValue135
  t228 := Try.underlying137
  a228 := Try.isAgg137
  z228 := Try.sizeOf137
  v228 := Try.zeroValue137
  t229 := Try.underlying138
  a229 := Try.isAgg138
  z229 := Try.sizeOf138
  v229 := Try.zeroValue138 }
open Go.Sort Go.RowKit in
theorem Try.sort_Strings (blk off cap : Nat) (ss : List (List UInt8)) (w : World) (hH : Holds encStr w blk off ss.toArray) (hblk : blk < w.heap.size) (hsz : ss.length < 4611686018427387904) :
    Calls Try.prog 73 #[.slice (some ⟨blk, off, none⟩) ss.length cap] w fun e w' =>
      e = .returned (.tuple #[]) ∧ ∃ n os, w' = grow (putRow encStr (Sort.ahead w n) blk off (ss.mergeSort fun x y => decide (x ≤ y)).toArray) os := Any.sort_Strings Try.lays192 blk off cap ss w hH hblk hsz
def Try.lays194_ren : Go.Shelf.Ren := ⟨fun | 194 => 74 | n => n, fun | 31 => 32 | 9 => 9 | 3 => 3 | 4 => 4 | 0 => 0 | n => n, fun | n => n⟩
theorem Try.lays194 : Go.Proofs.Lays.n194 Try.prog Try.lays194_ren := {
  mixed := by kernel_rfl
  f194 := Try.func74.trans (congrArg some (by kernel_rfl))
  t0 := Try.underlying0
  a0 := Try.isAgg0
  z0 := Try.sizeOf0
  v0 := Try.zeroValue0
  t3 := Try.underlying3
  a3 := Try.isAgg3
  z3 := Try.sizeOf3
  v3 := Try.zeroValue3
  t4 := Try.underlying4
  a4 := Try.isAgg4
  z4 := Try.sizeOf4
  v4 := Try.zeroValue4
  t9 := Try.underlying9
  a9 := Try.isAgg9
  z9 := Try.sizeOf9
  v9 := Try.zeroValue9
  t31 := Try.underlying32
  a31 := Try.isAgg32
  z31 := Try.sizeOf32
  v31 := Try.zeroValue32 }
open Go.RowKit Go.Lib Go.Sort in
theorem Try.slices_Compact_string (blk off cap : Nat) (zs : List (List UInt8)) (w : World) (hH : Holds encStr w blk off zs.toArray) (hsz : zs.length ≤ 9223372036854775807) (hcap : zs.length ≤ cap) :
    Calls Try.prog 74 #[.slice (some ⟨blk, off, none⟩) zs.length cap] w fun e w' => e = .returned (.slice (some ⟨blk, off, none⟩) (Lib.compact zs).length cap) ∧ ∃ q, w' = putRow encStr (Sort.ahead w q) blk off (Lib.compact zs ++ List.replicate (zs.length - (Lib.compact zs).length) []).toArray := Any.slices_Compact_string Try.lays194 blk off cap zs w hH hsz hcap
end Go.Proofs
-- XSlots
namespace Go.Proofs.Ytdkologncoofdaa.P
open Go.RowKit Go.Sort Go.Proofs.YtdkologncoofdaaW.PrintWords Go.Proofs.YtdkologncoofdaaW.PrintLast
set_option linter.unusedVariables false
set_option linter.unusedSimpArgs false
def impl_RecSlots.f (_k : Nat) (l : List S39) (n : ByteArray) : Option (List ByteArray) := some (slotsAt l n)
theorem impl_RecSlots.mono : ∀ a0 a1 k, LeO (impl_RecSlots.f k a0 a1) (impl_RecSlots.f (k + 1) a0 a1) := fun _ _ _ => LeO.refl _

theorem row_string {w : World} {base : Nat} {v : Value} {bs : List ByteArray} (h : w.ownsRow base 9 1 v bs.length (bs.map Value.string)) : Kd.R Kd.string 9 w base (fun _ => True) v bs :=
  ⟨fun _ _ => trivial, bs.map Value.string, h, Kd.reps_scalar bs⟩
theorem row_ne_map {w : World} {P : Program} {k : TypeId} {RR : Value → Option (DataW Unit × List MemPlace)} {base b m n e size : Nat} {D : DataW Unit} {v : Value} {xs : List Value} (h : w.ownsRow base e size v n xs) (hm : w.ownsMap P k RR b m D) : some b ≠ v.ownBlock := by
  rcases h.2 with ⟨rfl, _⟩ | ⟨g, cap, cur, rfl, _, hb, _⟩
  · simp [Value.ownBlock]
  · intro e1
    have : b = g := by simpa [Value.ownBlock] using e1
    exact blk_ne_map hm hb this.symm
theorem row_below {w w1 : World} {base n : Nat} {v : Value} {xs : List Value} (h : w.ownsRow base 9 1 v n xs) (hb : Below w.heap.size w w1) : w1.ownsRow base 9 1 v n xs := h.kept (grown_none hb) (by cases v.ownBlock <;> simp)
theorem map_ltr_encStr (bs : List ByteArray) : (bs.map ltr).map encStr = bs.map Value.string := Lib.map_encStr bs
/-- What has been met uses nothing else; what has been met and is a phase has left its slots. -/
def Coll (l : List S39) (n : ByteArray) (D : DataW Unit) (left : Lit → Bool) (bs : List ByteArray) : Prop :=
  (∀ x ∈ bs.map ltr, Uses l n x) ∧ ∀ m : ByteArray, Maps.has D (.string (ltr m)) = true → left (.string (ltr m)) = false → ¬ atOf l m < 0 → ∀ x, InSlot (rd_T39 l (atOf l m)) x → x ∈ bs.map ltr
theorem coll_step {l : List S39} {n : ByteArray} {D : DataW Unit} {left : Lit → Bool} {bs : List ByteArray} (h : Coll l n D left bs) (x : ByteArray) (ys : List ByteArray) (hx : R l n (ltr x) = true) (hin : ¬ atOf l x < 0 → ∀ y, InSlot (rd_T39 l (atOf l x)) y ↔ y ∈ ys.map ltr) (hno : atOf l x < 0 → ys = []) :
    Coll l n D (fun z => left z && !z.sameKey (.string (ltr x))) (bs ++ ys) := by
  refine ⟨fun y hy => ?_, fun m hm hl h0 y hy => ?_⟩
  · rw [List.map_append, List.mem_append] at hy
    rcases hy with hy | hy
    · exact h.1 y hy
    · by_cases h0 : atOf l x < 0
      · rw [hno h0] at hy; simp at hy
      · exact ⟨x, hx, h0, (hin h0 y).2 hy⟩
  · rw [List.map_append, List.mem_append]
    cases hlm : left (.string (ltr m)) with
    | false => exact .inl (h.2 m hm hlm h0 y hy)
    | true =>
      simp only [hlm, Bool.true_and, Bool.not_eq_false'] at hl
      have e : ltr m = ltr x := by simpa [Lit.sameKey] using hl
      obtain rfl := ltr_inj e
      exact .inr ((hin h0 y).1 hy)
theorem coll_end {l : List S39} {n : ByteArray} {D : DataW Unit} {left : Lit → Bool} {bs : List ByteArray} (h : Coll l n D left bs) (hD : Sat D (R l n)) (hl : ∀ kl, left kl = false) (x : List UInt8) : x ∈ bs.map ltr ↔ Uses l n x :=
  ⟨h.1 x, fun ⟨m, hm, h0, hx⟩ => h.2 m (by rw [hD.1]; exact hm) (hl _) h0 x hx⟩
theorem slots_end {w w1 : World} {g cap nn q : Nat} {os : Array Obj} {bs t : List ByteArray} (hown : w1.ownsRow w.heap.size 9 1 (.slice (some ⟨g, 0, none⟩) bs.length cap) bs.length (bs.map Value.string)) (hbel : Below w.heap.size w w1) (hbg : w.heap.size ≤ g)
    (ht : Lib.compact ((bs.map ltr).mergeSort fun x y => decide (x ≤ y)) = t.map ltr) (W : World)
    (hW : W = putRow encStr (Sort.ahead (grow (putRow encStr (Sort.ahead w1 nn) g 0 ((bs.map ltr).mergeSort fun x y => decide (x ≤ y)).toArray) os) q) g 0 (t.map ltr ++ List.replicate (bs.length - t.length) []).toArray) :
    Kd.R Kd.string 9 W w.heap.size (fun _ => True) (.slice (some ⟨g, 0, none⟩) t.length cap) t ∧ Below w.heap.size w W := by
  subst hW
  have hl2 : ((bs.map ltr).mergeSort fun x y => decide (x ≤ y)).length = (bs.map ltr).length := List.length_mergeSort _
  have hle := Lib.compact_length_le ((bs.map ltr).mergeSort fun x y => decide (x ≤ y))
  rw [ht, hl2] at hle
  simp only [List.length_map] at hle hl2
  rcases hown.2 with ⟨h0, _⟩ | ⟨g', cap', cur, hv, hbase, hb, h1, h2, h3, h4⟩
  · cases h0
  cases hv
  have hs := ownsRow_sorted (n := nn) (os := os) (ss := bs.map ltr) (ts := (bs.map ltr).mergeSort fun x y => decide (x ≤ y)) (by rw [List.length_map]; exact hl2) hbase hb (by simpa using h1) h2 h3
  have hc := Lib.ownsRow_putRow (q := q) (k := t.length) (ys := t.map ltr ++ List.replicate (bs.length - t.length) []) hs (by simp; omega) (by simpa using hle)
  rw [show t.length = (t.map ltr).length by simp, List.take_left, map_ltr_encStr] at hc
  simp only [List.length_map] at hc
  exact ⟨row_string hc, Lib.below_putRow (hbel.grown (grownBy_sorted _) hbel.size (fun j hj => by cases hj; exact hbase)) hbg⟩

theorem slots_held {w1 : World} {g : Nat} (nn : Nat) (os : Array Obj) {ss : List (List UInt8)} (hH : Holds encStr w1 g 0 ss.toArray) (hg : g < w1.heap.size) :
    Holds encStr (grow (putRow encStr (Sort.ahead w1 nn) g 0 (ss.mergeSort fun x y => decide (x ≤ y)).toArray) os) g 0 (ss.mergeSort fun x y => decide (x ≤ y)).toArray :=
  holds_grow encStr _ os g 0 _ (by simpa [putRow, mapBlock, Sort.ahead] using hg) (holds_putRow encStr _ g 0 _ _ (holds_ahead encStr w1 nn g 0 _ hH) (by simp))
set_option maxHeartbeats 8000000 in
set_option maxRecDepth 100000 in
theorem impl_RecSlots.calls (k : Nat) (A0 : Option Addr) (c0 : Nat) (l0 : List (S39)) (a1 : ByteArray) (r : List ByteArray) (w : World) (hr0 : Kd.C k39 w A0 l0.length l0) (hc0 : l0.length ≤ c0) (h : impl_RecSlots.f k l0 a1 = some r) :
    Calls Try.prog 30 #[.slice A0 l0.length c0, .string a1] w fun e w' => ∃ v0_ : Value, e = .returned (v0_) ∧ Kd.R Kd.string 9 w' w.heap.size (fun _ => True) v0_ r ∧ Below w.heap.size w w' := by
  obtain rfl := Option.some.inj h
  clear h
  have HR := Aside0.mk hr0
  have HC := Aside0.mk hc0
  clear hr0 hc0
  cases hok : recOk l0 with
  | false =>
    have HE : Aside0 (slotsAt l0 a1 = []) := ⟨by unfold slotsAt; rw [hok]; rfl⟩
    have HK := Aside0.mk hok
    clear hok
    go_enter Try.func30, Try.ntmps30
    go_wp2_with (go_at_call 36; refine (impl_RecOk.calls 80 _ _ l0 _ _ HR.out HC.out (impl_ok l0 80 (Nat.le_refl _))).mono ?_; rw [HK.out]; rintro e w1 ⟨rfl, hb⟩; have HB := Aside0.mk hb; clear hb)
    go_ret
    exact ⟨_, rfl, by rw [HE.out]; exact Kd.R_nil _ _ _ _ _, HB.out⟩
  | true =>
    have HK := Aside0.mk hok
    by_cases h0 : atOf l0 a1 < 0
    · have HE : Aside0 (slotsAt l0 a1 = []) := ⟨by unfold slotsAt; rw [if_pos hok, slt, if_pos h0]⟩
      have h0t := decide_eq_true h0
      clear hok h0
      go_enter Try.func30, Try.ntmps30
      go_wp2_with (first | (go_at_call 36; refine (impl_RecOk.calls 80 _ _ l0 _ _ HR.out HC.out (impl_ok l0 80 (Nat.le_refl _))).mono ?_; rw [HK.out]; rintro e w1 ⟨rfl, hb⟩; have HB := Aside0.mk hb; clear hb) | (go_at_call 69; refine (impl_at.calls _ _ l0 a1 (atOf l0 a1) _ (Kd.C_below HR.out HB.out) HC.out rfl).mono ?_; rintro e w3 ⟨rfl, hb3⟩; have HB3 := Aside0.mk (below_then HB.out HB.out.size hb3); clear hb3))
      go_ret
      exact ⟨_, rfl, by rw [HE.out]; exact Kd.R_nil _ _ _ _ _, HB3.out⟩
    · have hsm := at_small l0 hok a1 h0
      have hn : a1.size ≤ maxLen := by unfold maxLen; omega
      have h0t : decide (atOf l0 a1 < 0) = false := decide_eq_false h0
      have hu39 := Try.underlying39
      obtain ⟨i0, hi, hz0, hz1, hz2⟩ := info_parts info9
      have HN := Aside0.mk hn
      clear hok h0 hsm hn
      go_enter Try.func30, Try.ntmps30
      go_wp2_with (first
        | (go_at_call 36; refine (impl_RecOk.calls 80 _ _ l0 _ _ HR.out HC.out (impl_ok l0 80 (Nat.le_refl _))).mono ?_; rw [HK.out]; rintro e w1 ⟨rfl, hb⟩; have HB := Aside0.mk hb; clear hb)
        | (go_at_call 69; refine (impl_at.calls _ _ l0 a1 (atOf l0 a1) _ (Kd.C_below HR.out HB.out) HC.out rfl).mono ?_; rintro e w3 ⟨rfl, hb3⟩; have HB3 := Aside0.mk (below_then HB.out HB.out.size hb3); clear hb3)
        | ((with_reducible refine gate_dst (N := 17) rfl ?_); refine Kd.R_lit Kd.string (w0 := w) w.heap.size 9 ?hg (N := 17) ?hd (xs := ([] : List ByteArray)) (inner := []) (ok := fun _ => True) (okp := fun _ => True) ?hr ?hp (fun _ hk => hk) trivial HB3.out HB3.out.size (by simp) ?_; (case hd => rfl); (case hg => rfl); (case hr => first | (go_simp; done) | (go_simp; rfl)); (case hp => exact (Reps.none _ _)); intro v1 w2 ho hb hgr hnew; have HO := Aside0.mk ho; have HV := Aside0.mk hnew; have HB2 := Aside0.mk hb; clear ho hb hgr hnew)
        | (go_at_call 70; refine (reach_calls l0 HK.out _ A0 c0 (Kd.C_below HR.out HB2.out) HC.out a1 HN.out).mono ?_; rintro e w4 ⟨B, D, m, rfl, hnew, hown, hsat, hm, hb4⟩; have HB4 := Aside0.mk (below_then HB2.out HB2.out.size hb4); have HO4 := Aside0.mk (Kd.R_below HO.out hb4); have HM := Aside0.mk hown; have HS := Aside0.mk hsat; have HZ := Aside0.mk hm; clear hb4 hown hsat hnew hm)
        | (at_range; refine wpList_range_own _ rfl _ 90 rfl 9 4 law9 Try.underlying90 _ B m D rfl HM.out ?_; intro w5 hrg5 hg5 hs5))
      go_frame
      have hb5 : Below w.heap.size w w5 := HB4.out.grown hg5 HB4.out.size (fun k hk => by cases hk)
      have HB5 := Aside0.mk hb5
      have HO5 := Aside0.mk (Kd.R_grown HO4.out hg5 (fun _ _ => by simp))
      have hsz4 := HB4.out.size
      have hBne : w4.heap.size ≠ B := hrg5.ne
      have HR5 := Aside0.mk hrg5
      have hms : Maps.size D ≤ 8192 := Nat.le_trans HM.out.size_le HZ.out
      have HMS := Aside0.mk hms
      clear hg5 hb5 hrg5 hms
      go_loopw [5] (fun v wr => ∃ (left : Lit → Bool) (cnt : Nat) (bs : List ByteArray), wr.ranges Try.prog 9 (plainElem Try.prog 4) B w4.heap.size m D left cnt ∧ Aside0 (bs.length + 2 * cnt ≤ 16384) ∧ Aside0 (wr.ownsRow w.heap.size 9 1 v bs.length (bs.map Value.string)) ∧ Aside0 (v ≠ .slice none 0 0) ∧ Aside0 (Coll l0 a1 D left bs) ∧ Aside0 (Below w.heap.size w wr))
        (fun _ wr => wr.rangeLeft B w4.heap.size)
      case atStart =>
        refine ⟨_, _, [], HR5.out, ⟨by have := HMS.out; simp; omega⟩, ⟨?_⟩, ⟨fun e => ?_⟩, ⟨fun x hx => by simp at hx, fun q h1 h2 => by rw [h1] at h2; cases h2⟩, HB5⟩
        · obtain ⟨inner, hown⟩ := Kd.R_own HO5.out
          have : inner = [] := List.eq_nil_of_length_eq_zero (by simpa using hown.1)
          subst this
          exact hown
        · obtain ⟨b, hb, _⟩ := HV.out
          rw [e] at hb
          simp [Value.ownBlock] at hb
      case round =>
        rename_i v
        obtain ⟨left, cnt, bs, hrg, HL, HW, HNN, HCO, HB6⟩ := hrel
        have HG := Aside0.mk hrg
        go_wp2_with (first
          | (at_next; refine wpList_next_sat _ rfl _ rfl B w4.heap.size m D _ HS.out left cnt rfl hrg ?_ ?_))
        · intro hc0 hl0
          have HU := Aside0.mk (slots_of l0 HK.out a1 (rk_le l0 HK.out a1) (bs.map ltr) (coll_end HCO.out HS.out hl0))
          have HOW := HW.out
          rcases HW.out.2 with ⟨hnil, _⟩ | ⟨g, cap, cur, rfl, hbase, hb, h1, h2, h3, h4⟩
          · exact absurd hnil HNN.out
          have hlen : bs.length ≤ 16384 := by have := HL.out; omega
          have hH : Holds encStr _ g 0 (bs.map ltr).toArray := holds_of_block hb (by rw [map_ltr_encStr]; simpa using h4)
          have hgl := (Array.getElem?_eq_some_iff.1 hb).1
          have hsort := Try.sort_Strings g 0 cap (bs.map ltr) _ hH hgl (by simp; omega)
          rw [List.length_map] at hsort
          have hH2 := fun nn os => slots_held nn os hH hgl
          have hml : ((bs.map ltr).mergeSort fun x y => decide (x ≤ y)).length = bs.length := by rw [List.length_mergeSort, List.length_map]
          have hcomp := fun W hW => Try.slices_Compact_string g 0 cap ((bs.map ltr).mergeSort fun x y => decide (x ≤ y)) W hW (by rw [hml]; omega) (by rw [hml]; omega)
          rw [hml, HU.out, List.length_map] at hcomp
          have HC2 := Aside0.mk hcomp
          have HH2 := Aside0.mk hH2
          have HB0 := Aside0.mk hbase
          clear hH hb h1 h2 h3 h4 hgl hml hcomp hH2 hl0 hbase
          go_wp2_with (first
            | (go_at_call 73; refine hsort.mono ?_; rintro e w7 ⟨rfl, nn, os, hw7⟩; have HW7 := Aside0.mk hw7; have hcomp := HC2.out w7 (by rw [hw7]; exact HH2.out nn os); clear hw7 hsort)
            | (go_at_call 74; refine hcomp.mono ?_; rintro e w8 ⟨rfl, q, hw8⟩; have HW8 := Aside0.mk hw8; clear hw8 hcomp))
          go_ret
          have hend := slots_end HOW HB6.out HB0.out HU.out w8 (by rw [HW8.out, HW7.out])
          exact ⟨_, rfl, hend.1, hend.2⟩
        · intro x w7 cnt7 hSx hlk hrg7 hlt7 hg7 hs7 hen
          have hb7 : Below w.heap.size w w7 := HB6.out.grown hg7 HB6.out.size (fun k hk => by cases hk; exact hsz4)
          have HB7 := Aside0.mk hb7
          have HR7 := Aside0.mk hrg7
          have HX := Aside0.mk hSx
          have HW7 := Aside0.mk (HW.out.kept hg7 (Or.inr (row_ne_iter HW.out hrg).symm))
          clear hb7 hSx hlk hg7 hrg7 hrg hs7
          by_cases hx0 : atOf l0 x < 0
          · have hx0t : decide (atOf l0 x ≥ 0) = false := decide_eq_false (by omega)
            have hx0t' : decide (0 ≤ atOf l0 x) = false := decide_eq_false (by omega)
            have HCO' := Aside0.mk (coll_step HCO.out x [] HX.out (fun h => absurd hx0 h) (fun _ => rfl))
            clear hx0
            go_wp2_with (go_at_call 69; refine (impl_at.calls _ _ l0 x (atOf l0 x) _ (Kd.C_below HR.out HB7.out) HC.out rfl).mono ?_; rintro e w8 ⟨rfl, hb8⟩; have HB8 := Aside0.mk (below_then HB7.out HB7.out.size hb8); have HR8 := Aside0.mk (HR7.out.kept (grown_none hb8) (by simp) (by simp)); have HW8 := Aside0.mk (row_below HW7.out hb8); clear hb8)
            go_roundw
            case rel =>
              refine ⟨_, cnt7, bs, HR8.out, ⟨by have := HL.out; omega⟩, HW8, HNN, ⟨by have := HCO'.out; rwa [List.append_nil] at this⟩, HB8⟩
            case measure => rw [HR8.out.left_eq, HG.out.left_eq]; exact hlt7
          · have hr := atOf_range l0 x
            have p0 : 0 ≤ atOf l0 x := by omega
            have q0 : atOf l0 x < (l0.length : Int) := hr.2
            obtain ⟨ad, e, x0, x1, x2, x3, x4, x5, x6, x7⟩ := at_T39 HR.out (atOf l0 x) p0 q0
            cases e
            have X1 := Aside0.mk x1
            have X2 := Aside0.mk x2
            have X3 := Aside0.mk x3
            have hx0t : decide (0 ≤ atOf l0 x) = true := decide_eq_true p0
            have p0' := eq_true p0
            have q0' := eq_true q0
            have HX0 := Aside0.mk hx0
            clear x0 x1 x2 x3 x4 x5 x6 x7 hx0 p0 q0 hr
            by_cases h2 : (rd_T39 l0 (atOf l0 x)).f1 = 2
            · have h2b : ((rd_T39 l0 (atOf l0 x)).f1 == 2) = true := beq_iff_eq.mpr h2
              have HCO' := Aside0.mk (coll_step HCO.out x [(rd_T39 l0 (atOf l0 x)).f2, (rd_T39 l0 (atOf l0 x)).f3] HX.out (fun h y => by simp [InSlot, h2]) (fun h => absurd h HX0.out))
              clear h2
              go_wp2_with (first
                | (go_at_call 69; refine (impl_at.calls _ _ l0 x (atOf l0 x) _ (Kd.C_below HR.out HB7.out) HC.out rfl).mono ?_; rintro e w8 ⟨rfl, hb8⟩; have HB8 := Aside0.mk (below_then HB7.out HB7.out.size hb8); have HR8 := Aside0.mk (HR7.out.kept (grown_none hb8) (by simp) (by simp)); have HW8 := Aside0.mk (row_below HW7.out hb8); have c1 := (HB8.out.cell (World.block_lt_of_cell? w _ X1.out)).trans X1.out; have c2 := (HB8.out.cell (World.block_lt_of_cell? w _ X2.out)).trans X2.out; have c3 := (HB8.out.cell (World.block_lt_of_cell? w _ X3.out)).trans X3.out; clear hb8)
                | (at_builtin; refine wpList_append_own _ rfl _ _ 32 rfl w.heap.size 9 i0 (.string ⟨#[]⟩) 1 16 Try.underlying32 hi hz0 hz1 hz2 rfl (by decide) _ _ _ rfl (HW9.out.alloc _) ⟨w9.heap.size, 0, none⟩ 1 1 [.string (rd_T39 l0 (atOf l0 x)).f3] rfl rfl (cell_one_new _ _ _) (by simp [Value.oneCell']) (by have := HL.out; unfold maxLen; omega) (by have := HL.out; omega) (by have := HB9.out.size; simp; omega) ?_; intro v10 w10 hown hg9 hnil9; have HW9z := Aside0.mk hown; have HN9z := Aside0.mk (show v10 ≠ Value.slice none 0 0 from fun e => by have := (hnil9.1 e).2; omega); have HR9z := Aside0.mk ((HR9.out.alloc _).kept hg9 (row_ne_map HW9.out HR9.out.owns) (row_ne_iter HW9.out HR9.out)); have HB9z := Aside0.mk ((below_alloc HB9.out _).grown hg9 (by have := HB9.out.size; simp; omega) (fun j hj => (HW9.out.lt j hj).1)); clear c1 c2 c3; clear hown hg9 hnil9; (try go_frame))
                | (at_builtin; refine wpList_append_own _ rfl _ _ 32 rfl w.heap.size 9 i0 (.string ⟨#[]⟩) 1 16 Try.underlying32 hi hz0 hz1 hz2 rfl (by decide) _ _ _ rfl (HW8.out.alloc _) ⟨w8.heap.size, 0, none⟩ 1 1 [.string (rd_T39 l0 (atOf l0 x)).f2] rfl rfl (cell_one_new _ _ _) (by simp [Value.oneCell']) (by have := HL.out; unfold maxLen; omega) (by have := HL.out; omega) (by have := HB8.out.size; simp; omega) ?_; intro v9 w9 hown hg9 hnil9; have HW9 := Aside0.mk hown; have HN9 := Aside0.mk (show v9 ≠ Value.slice none 0 0 from fun e => by have := (hnil9.1 e).2; omega); have HR9 := Aside0.mk ((HR8.out.alloc _).kept hg9 (row_ne_map HW8.out HR8.out.owns) (row_ne_iter HW8.out HR8.out)); have HB9 := Aside0.mk ((below_alloc HB8.out _).grown hg9 (by have := HB8.out.size; simp; omega) (fun j hj => (HW8.out.lt j hj).1)); clear c1 c2 c3; have c1 := (HB9.out.cell (World.block_lt_of_cell? w _ X1.out)).trans X1.out; have c2 := (HB9.out.cell (World.block_lt_of_cell? w _ X2.out)).trans X2.out; have c3 := (HB9.out.cell (World.block_lt_of_cell? w _ X3.out)).trans X3.out; clear hown hg9 hnil9; (try go_frame)))
              go_roundw
              case rel =>
                refine ⟨_, cnt7, bs ++ [(rd_T39 l0 (atOf l0 x)).f2, (rd_T39 l0 (atOf l0 x)).f3], HR9z.out, ⟨by have := HL.out; simp; omega⟩, ⟨by have := HW9z.out; simpa using this⟩, HN9z, HCO', HB9z⟩
              case measure => rw [HR9z.out.left_eq, HG.out.left_eq]; exact hlt7
            · have h2b : ((rd_T39 l0 (atOf l0 x)).f1 == 2) = false := beq_eq_false_iff_ne.mpr h2
              have HCO' := Aside0.mk (coll_step HCO.out x [(rd_T39 l0 (atOf l0 x)).f2] HX.out (fun h y => by simp [InSlot, h2]) (fun h => absurd h HX0.out))
              clear h2
              go_wp2_with (first
                | (go_at_call 69; refine (impl_at.calls _ _ l0 x (atOf l0 x) _ (Kd.C_below HR.out HB7.out) HC.out rfl).mono ?_; rintro e w8 ⟨rfl, hb8⟩; have HB8 := Aside0.mk (below_then HB7.out HB7.out.size hb8); have HR8 := Aside0.mk (HR7.out.kept (grown_none hb8) (by simp) (by simp)); have HW8 := Aside0.mk (row_below HW7.out hb8); have c1 := (HB8.out.cell (World.block_lt_of_cell? w _ X1.out)).trans X1.out; have c2 := (HB8.out.cell (World.block_lt_of_cell? w _ X2.out)).trans X2.out; have c3 := (HB8.out.cell (World.block_lt_of_cell? w _ X3.out)).trans X3.out; clear hb8)
                | (at_builtin; refine wpList_append_own _ rfl _ _ 32 rfl w.heap.size 9 i0 (.string ⟨#[]⟩) 1 16 Try.underlying32 hi hz0 hz1 hz2 rfl (by decide) _ _ _ rfl (HW8.out.alloc _) ⟨w8.heap.size, 0, none⟩ 1 1 [.string (rd_T39 l0 (atOf l0 x)).f2] rfl rfl (cell_one_new _ _ _) (by simp [Value.oneCell']) (by have := HL.out; unfold maxLen; omega) (by have := HL.out; omega) (by have := HB8.out.size; simp; omega) ?_; intro v9 w9 hown hg9 hnil9; have HW9 := Aside0.mk hown; have HN9 := Aside0.mk (show v9 ≠ Value.slice none 0 0 from fun e => by have := (hnil9.1 e).2; omega); have HR9 := Aside0.mk ((HR8.out.alloc _).kept hg9 (row_ne_map HW8.out HR8.out.owns) (row_ne_iter HW8.out HR8.out)); have HB9 := Aside0.mk ((below_alloc HB8.out _).grown hg9 (by have := HB8.out.size; simp; omega) (fun j hj => (HW8.out.lt j hj).1)); clear c1 c2 c3; have c1 := (HB9.out.cell (World.block_lt_of_cell? w _ X1.out)).trans X1.out; have c2 := (HB9.out.cell (World.block_lt_of_cell? w _ X2.out)).trans X2.out; have c3 := (HB9.out.cell (World.block_lt_of_cell? w _ X3.out)).trans X3.out; clear hown hg9 hnil9; (try go_frame)))
              go_roundw
              case rel =>
                refine ⟨_, cnt7, bs ++ [(rd_T39 l0 (atOf l0 x)).f2], HR9.out, ⟨by have := HL.out; simp; omega⟩, ⟨by have := HW9.out; simpa using this⟩, HN9, HCO', HB9⟩
              case measure => rw [HR9.out.left_eq, HG.out.left_eq]; exact hlt7

end Go.Proofs.Ytdkologncoofdaa.P
-- XInsert
namespace Go.Proofs.Ytdkologncoofdaa.P
open Go.RowKit Go.Proofs.YtdkologncoofdaaW.PrintWords Go.Proofs.YtdkologncoofdaaW.PrintLast Go.Proofs.YtdkologncoofdaaW.PrintMore
set_option linter.unusedVariables false
set_option linter.unusedSimpArgs false
def insT6' : Bool × List (List Nat × List Nat) := (true, [([], []), ([], []), ([], []), ([1, 2], [1, 2]), ([0, 3], [0, 3]), ([], []), ([5], [5]), ([4, 6, 4], [4, 6]), ([], []), ([], []), ([8, 9], [8, 9]), ([7, 10, 7], [7, 10]), ([11, 11, 0, 1, 2, 3, 4, 5, 6, 7, 8, 9, 10, 11], [11])])
def insB6' : List Nat := [0, 0, 0, 6, 15, 0, 32, 127, 0, 0, 768, 2047, 4095]
theorem insT6 : rtab .any (opsOf Try.f105 6) = insT6' := by kernel_rfl
theorem insB6 : waitsOk insT6'.2 insB6' = true := by kernel_rfl
theorem apart39 {w W w1 : World} {v u : Value} {xs : List ByteArray} (h : Kd.R Kd.string 9 w1 w.heap.size (fun _ => True) v xs) (hat : ∃ b, v.ownBlock = some b ∧ W.heap.size ≤ b) (hu : ∀ k, u.ownBlock = some k → k < W.heap.size) : Kd.R Kd.string 9 w1 w.heap.size (fun k => True ∧ some k ≠ u.ownBlock) v xs := by
  refine Kd.R_mono (Kd.R_tight rfl h) (fun k hk => ⟨trivial, fun he => ?_⟩)
  obtain ⟨b, hb, hle⟩ := hat
  have h1 := hu k he.symm
  rw [hb] at hk
  injection hk with hk
  omega
theorem apart33 {w W w1 : World} {v u : Value} {xs : List ByteArray} (h : Kd.R Kd.string 9 W w.heap.size (fun _ => True) v xs) (hg : W.grownBy w1 none) (hat : ∃ b, u.ownBlock = some b ∧ W.heap.size ≤ b) : Kd.R Kd.string 9 w1 w.heap.size (fun k => True ∧ some k ≠ u.ownBlock) v xs := by
  obtain ⟨b, hb, hle⟩ := hat
  refine Kd.R_mono (Kd.R_grown (Kd.R_bound h) hg (fun _ _ => by simp)) (fun k hk => ⟨trivial, fun he => ?_⟩)
  rw [hb] at he
  injection he with he
  have := hk.2.2.1
  omega
theorem getD_rd (l : List ByteArray) (k : Nat) : rdOf ByteArray.empty l (k : Int) = l.getD k ByteArray.empty := by simp [rdOf]
set_option maxHeartbeats 8000000 in
set_option maxRecDepth 100000 in
theorem insert_calls (l0 : List ByteArray) (a1 : ByteArray) (hlen : l0.length ≤ 900000) (base : Nat) (v0 : Value) (w : World) (hbase : base ≤ w.heap.size) (ho0 : Kd.R Kd.string 9 w base (fun _ => True) v0 l0) :
    Calls Try.prog 105 #[v0, .string a1] w fun e w' => ∃ v', e = .returned v' ∧ Kd.R Kd.string 9 w' base (fun _ => True) v' (ins l0 a1) ∧ Below w.heap.size w w' := by
  obtain ⟨A, c, rfl, hc, hC⟩ := Kd.R_reads ho0
  have hbig : l0.length ≤ 9223372036854775807 := by omega
  replace hlen := Aside0.mk hlen
  replace ho0 := Aside0.mk ho0
  replace hc := Aside0.mk hc
  replace hC := Aside0.mk hC
  replace hbase := Aside0.mk hbase
  go_enter Try.func105, Try.ntmps105
  go_wp2
  go_loopg [5] l0.length (fun gg v5 wr => ∃ kk : Nat, kk ≤ l0.length ∧ l0.length - kk ≤ gg ∧ v5 = .int .i64 kk ∧ Aside0 (Below w.heap.size w wr) ∧ Aside0 (∀ j, j < kk → ltr (l0.getD j ByteArray.empty) < ltr a1))
  case atStart => exact ⟨0, Nat.zero_le _, by omega, rfl, ⟨Below.refl _ w⟩, ⟨fun j hj => absurd hj (Nat.not_lt_zero _)⟩⟩
  case round =>
    obtain ⟨kk, hkl, hgg, rfl, HB, HNM⟩ := hrel
    have hkz : (kk : Int) ≤ (l0.length : Int) := by omega
    by_cases hlt : kk < l0.length
    · have hltz : (kk : Int) < (l0.length : Int) := by omega
      have h0z : 0 ≤ (kk : Int) := by omega
      obtain ⟨ad, e, hx⟩ := Kd.at_string (Kd.C_below hC.out HB.out) (kk : Int) h0z hltz
      cases e
      rw [Int.toNat_natCast, getD_rd] at hx
      have hdec : decide ((kk : Int) < (l0.length : Int)) = true := decide_eq_true hltz
      replace h0z := eq_true h0z
      replace hltz := eq_true hltz
      obtain ⟨x, ex⟩ : ∃ x, x = l0.getD kk ByteArray.empty := ⟨_, rfl⟩
      rw [← ex] at hx
      have EX := Aside0.mk ex
      clear ex
      cases hb1 : Op.bytesLess x.toList a1.toList with
      | true =>
        have HQ := Aside0.mk hb1
        go_wp2
        go_roundg (l0.length - (kk + 1))
        case measure => omega
        case rel =>
          refine ⟨kk + 1, by omega, by omega, by go_num, HB, ⟨fun j hj => ?_⟩⟩
          by_cases e : j = kk
          · subst e; rw [← EX.out]; have := HQ.out; rw [bytesLess_eq, ltr_eq, ltr_eq] at this; exact of_decide_eq_true this
          · exact HNM.out j (by omega)
      | false =>
        have HQ := Aside0.mk hb1
        cases hb2 : (x.toList == a1.toList) with
        | true =>
          have HQ2 := Aside0.mk hb2
          go_wp2
          go_ret
          exact ⟨_, rfl, by rw [ins_has a1 l0 kk hlt HNM.out (by rw [← EX.out, ← ltr_eq, ← ltr_eq]; exact eq_of_beq HQ2.out)]; exact Kd.R_below ho0.out HB.out, HB.out⟩
        | false =>
          have hnew : Aside0 (ins l0 a1 = (l0.take kk ++ [a1]) ++ l0.drop kk) := ⟨ins_new a1 l0 kk hkl HNM.out (fun _ => by rw [← EX.out, ← ltr_eq, ← ltr_eq]; exact ⟨fun h => (by rw [bytesLess_eq] at hb1; exact of_decide_eq_false hb1 h), fun h => (by rw [h] at hb2; simp at hb2)⟩)⟩
          try go_wp2
          have HS0 := Aside0.mk (Kd.C_below hC.out (below_drew1 HB.out))
          have HO0 := Aside0.mk (Kd.R_below ho0.out (below_drew1 HB.out))
          have HBd := Aside0.mk (below_drew1 HB.out)
          obtain ⟨i018, hi018, _, hsz18, _⟩ := info_parts info9
          have hcut1 := cut_to (P := Try.prog) 32 9 .i64 Try.underlying32 hi018 (some ad) l0.length c (kk : Int) (by omega) hkz hc.out
          have hcut2 := cut_from (P := Try.prog) 32 9 .i64 Try.underlying32 hi018 1 hsz18 (some ad) l0.length c (kk : Int) (by omega) hkz
          rw [Int.toNat_natCast] at hcut1 hcut2
          have HR1 := Aside0.mk (Kd.C_take HS0.out hkl)
          have HR2 := Aside0.mk (Kd.C_drop HS0.out hkl hc.out)
          obtain ⟨y1, hy1⟩ : ∃ y, y = l0.take kk := ⟨_, rfl⟩
          obtain ⟨y2, hy2⟩ : ∃ y, y = l0.drop kk := ⟨_, rfl⟩
          obtain ⟨A2, hA2⟩ : ∃ y, y = (if c = kk then (some ad) else ((some ad) : Option Addr).map (·.add (kk * 1))) := ⟨_, rfl⟩
          obtain ⟨c2, hc2⟩ : ∃ y, y = c - kk := ⟨_, rfl⟩
          have l1 : y1.length = kk := by rw [hy1, List.length_take]; omega
          have l2 : y2.length = l0.length - kk := by rw [hy2, List.length_drop]
          rw [← hA2, ← hc2, ← l2] at hcut2
          replace hcut1 : ∀ W : World, (Instr.slice 32 (.slice (some ad) l0.length c) none (some (.int .i64 (kk : Int))) none).run Try.prog W = .ok (.slice (some ad) y1.length c) W := by rw [l1]; exact hcut1
          replace HR1 : Aside0 (Kd.C Kd.string wr.drew (some ad) y1.length y1) := ⟨by rw [hy1]; exact HR1.out⟩
          replace HR2 : Aside0 (Kd.C Kd.string wr.drew A2 y2.length y2) := ⟨by rw [hy2, hA2]; exact HR2.out⟩
          have HN : Aside0 (ins l0 a1 = (y1 ++ [a1]) ++ y2) := ⟨by rw [hy1, hy2]; exact hnew.out⟩
          have LE : Aside0 (y1.length + y2.length ≤ 1000000) := ⟨by have := hlen.out; omega⟩
          have hkl1 := eq_true (show (0 : Int) ≤ (kk : Int) by omega)
          have hkl2 := eq_true hkz
          clear hi018 hsz18 HS0 hy1 hy2 hA2 hc2 l1 l2 hnew HNM
          refine start_ (n := 13) (S := fun w' => True) (ds := []) #[false, false, false, false, false, false, false, false, false, false, false, false, false] (by kernel_rfl) rfl rfl trivial (fun hHeld => ?_); refine with_tabW insT6 insB6 (fun HT_ HW_ => ?_)
          generalize wr.drew = w17 at HO0 HBd HR1 HR2 hHeld ⊢
          have HS := Aside0.mk (Below.refl w17.heap.size w17)
          refine pure_ (i := 1) (N := some 34) (v := ?_) (a' := ?_) #[false, true, false, false, false, false, false, false, false, false, false, false, false] rfl rfl (any_of HT_.out (by kernel_rfl)) (fun _ _ _ h => h) (Or.inl ⟨by rfl, ?_⟩) ?_ ?_
          rotate_left
          · intro w'; go_simp; with_reducible rfl
          rotate_left
          · simp only [Act.put, List.setIfInBounds_toArray, List.set_cons_zero, List.set_cons_succ, i64_w, i32_w]; rfl
          refine pure_ (i := 2) (N := some 35) (v := ?_) (a' := ?_) #[false, true, true, false, false, false, false, false, false, false, false, false, false] rfl rfl (any_of HT_.out (by kernel_rfl)) (fun _ _ _ h => h) (Or.inl ⟨by rfl, ?_⟩) ?_ ?_
          rotate_left
          · intro w'; go_simp; with_reducible rfl
          rotate_left
          · simp only [Act.put, List.setIfInBounds_toArray, List.set_cons_zero, List.set_cons_succ, i64_w, i32_w]; rfl
          refine pure_ (i := 3) (N := some 36) (v := ?_) (a' := ?_) #[false, true, true, true, false, false, false, false, false, false, false, false, false] rfl rfl (any_of HT_.out (by kernel_rfl)) (fun _ _ _ h => h) (Or.inl ⟨by rfl, ?_⟩) ?_ ?_
          rotate_left
          · intro w'; go_simp; with_reducible rfl
          rotate_left
          · simp only [Act.put, List.setIfInBounds_toArray, List.set_cons_zero, List.set_cons_succ, i64_w, i32_w]; rfl
          refine pure_ (i := 5) (N := some 38) (v := ?_) (a' := ?_) #[false, true, true, true, false, true, false, false, false, false, false, false, false] rfl rfl (any_of HT_.out (by kernel_rfl)) (fun _ _ _ h => h) (Or.inl ⟨by rfl, ?_⟩) ?_ ?_
          rotate_left
          · intro w'; go_simp; with_reducible rfl
          rotate_left
          · simp only [Act.put, List.setIfInBounds_toArray, List.set_cons_zero, List.set_cons_succ, i64_w, i32_w]; rfl
          refine pure_ (i := 8) (N := some 41) (v := ?_) (a' := ?_) #[false, true, true, true, false, true, false, false, true, false, false, false, false] rfl rfl (any_of HT_.out (by kernel_rfl)) (fun _ _ _ h => h) (Or.inl ⟨by rfl, ?_⟩) ?_ ?_
          rotate_left
          · intro w'; go_simp; with_reducible rfl
          rotate_left
          · simp only [Act.put, List.setIfInBounds_toArray, List.set_cons_zero, List.set_cons_succ, i64_w, i32_w]; rfl
          refine pure_ (i := 9) (N := some 42) (v := ?_) (a' := ?_) #[false, true, true, true, false, true, false, false, true, true, false, false, false] rfl rfl (any_of HT_.out (by kernel_rfl)) (fun _ _ _ h => h) (Or.inl ⟨by rfl, ?_⟩) ?_ ?_
          rotate_left
          · intro w'; go_simp; with_reducible rfl
          rotate_left
          · simp only [Act.put, List.setIfInBounds_toArray, List.set_cons_zero, List.set_cons_succ, i64_w, i32_w]; rfl
          refine pure_ (i := 10) (N := some 43) (v := ?_) (a' := ?_) #[false, true, true, true, false, true, false, false, true, true, true, false, false] rfl rfl (any_of HT_.out (by kernel_rfl)) (fun _ _ _ h => h) (Or.inl ⟨by rfl, ?_⟩) ?_ ?_
          rotate_left
          · intro w'; go_simp; with_reducible rfl
          rotate_left
          · simp only [Act.put, List.setIfInBounds_toArray, List.set_cons_zero, List.set_cons_succ, i64_w, i32_w]; rfl
          refine join_ (σ := Value × Value × Value) 3 #[true, true, true, true, true, true, true, false, true, true, true, false, false] (fun s_ => [(33, s_.1), (37, s_.2.1), (39, s_.2.2)]) (fun s_ w' => Kd.R Kd.string 9 w' w17.heap.size (fun _ => True) s_.2.1 ([] ++ y1) ∧ Kd.R Kd.string 9 w' w17.heap.size (fun _ => True) s_.2.2 [a1] ∧ Below w17.heap.size w17 w') ?_ ?_
          rotate_left
          · intro hCont
            refine two_ (i := 0) (j := 6) (Ni := some 33) (Nj := some 39) #[true, true, true, true, false, true, false, false, true, true, true, false, false] #[false, true, true, true, false, true, true, false, true, true, true, false, false] rfl rfl rfl rfl (two_of HT_.out (by kernel_rfl)) (by decide) (by decide) (fun K hK => ?_) (fun K hK => ?_)
            · refine Kd.R_lit_step Kd.string (w0 := w17) w17.heap.size 9 ?hg (N := 33) ?hd (xs := ([] : List ByteArray)) (inner := []) (ok := fun _ => True) (okp := fun _ => True) ?hr ?hp (fun _ hk => hk) trivial HS.out HS.out.size (by simp) ?_; (case hd => rfl); (case hg => rfl); (case hr => first | (go_simp; done) | (go_simp; rfl)); (case hp => exact (Reps.none _ _))
              intro v33 w33 ho hb hg hat
              replace HS := Aside0.mk hb
              have H33 := Aside0.mk ho
              clear ho hb hg hat
              refine hK.out _ _ trivial (fun hHeld => ?_)
              clear hK K
              refine norm_ (a' := ?_) ?_ ?_
              rotate_left
              · show Act.put _ (some 33) _ = _; simp only [Act.put, List.setIfInBounds_toArray, List.set_cons_zero, List.set_cons_succ, i64_w, i32_w]; rfl
              refine two_ (i := 4) (j := 6) (Ni := some 37) (Nj := some 39) #[true, true, true, true, true, true, false, false, true, true, true, false, false] #[true, true, true, true, false, true, true, false, true, true, true, false, false] rfl rfl rfl rfl (two_of HT_.out (by kernel_rfl)) (by decide) (by decide) (fun K hK => ?_) (fun K hK => ?_)
              · refine Kd.R_append_rows_step Kd.string (w0 := w17) w17.heap.size (by rfl) (.tmp 33) (.tmp 36) 32 9 (.string ⟨#[]⟩) 16 rfl Try.underlying32 info9 rfl (by decide) (by omega) v33 ([]) (y1) _ _ _ (fun _ => True) (fun _ => False) rfl rfl H33.out ((Kd.C_below HR1.out HS.out)) (fun _ _ h => h) (fun _ h => h.elim) (fun _ _ => trivial) HS.out HS.out.size (by have := LE.out; simp only [List.length_nil]; omega) ?_
                intro v37 w37 ho hb hg hat
                replace HS := Aside0.mk hb
                have H37 := Aside0.mk ho
                clear ho hb hg hat
                refine hK.out _ _ trivial (fun hHeld => ?_)
                clear hK K
                refine norm_ (a' := ?_) ?_ ?_
                rotate_left
                · show Act.put _ (some 37) _ = _; simp only [Act.put, List.setIfInBounds_toArray, List.set_cons_zero, List.set_cons_succ, i64_w, i32_w]; rfl
                refine one_ (i := 6) (N := some 39) #[true, true, true, true, true, true, true, false, true, true, true, false, false] rfl rfl (one_of HT_.out (by kernel_rfl)) (by decide) (fun K hK => ?_)
                refine Kd.R_lit_step Kd.string (w0 := w17) w17.heap.size 9 ?hg (N := 39) ?hd (xs := ([a1] : List ByteArray)) (inner := [.string a1]) (ok := fun _ => True) (okp := fun _ => True) ?hr ?hp (fun _ hk => hk) trivial HS.out HS.out.size (by simp) ?_; (case hd => rfl); (case hg => rfl); (case hr => first | (go_simp; done) | (go_simp; rfl)); (case hp => exact (Reps.one (show Kd.M Kd.string _ _ _ a1 [.string a1] from rfl) (Reps.none _ _)))
                intro v39 w39 ho hb hg hat
                replace HS := Aside0.mk hb
                have H39 := Aside0.mk ho
                replace H37 := Aside0.mk (Kd.R_grown H37.out hg (fun _ _ => by simp))
                clear ho hb hg hat
                refine hK.out _ _ trivial (fun hHeld => ?_)
                clear hK K
                refine norm_ (a' := ?_) ?_ ?_
                rotate_left
                · show Act.put _ (some 39) _ = _; simp only [Act.put, List.setIfInBounds_toArray, List.set_cons_zero, List.set_cons_succ, i64_w, i32_w]; rfl
                exact norm_ (by simp only [putAll, Act.put, List.setIfInBounds_toArray, List.set_cons_zero, List.set_cons_succ]) (hCont (v33, v37, v39) _ ⟨H37.out, H39.out, HS.out⟩)
              · refine Kd.R_lit_step Kd.string (w0 := w17) w17.heap.size 9 ?hg (N := 39) ?hd (xs := ([a1] : List ByteArray)) (inner := [.string a1]) (ok := fun _ => True) (okp := fun _ => True) ?hr ?hp (fun _ hk => hk) trivial HS.out HS.out.size (by simp) ?_; (case hd => rfl); (case hg => rfl); (case hr => first | (go_simp; done) | (go_simp; rfl)); (case hp => exact (Reps.one (show Kd.M Kd.string _ _ _ a1 [.string a1] from rfl) (Reps.none _ _)))
                intro v39 w39 ho hb hg hat
                have H39 := Aside0.mk (apart39 ho hat (Kd.R_lt H33.out))
                replace HS := Aside0.mk hb
                replace H33 := Aside0.mk (Kd.R_grown H33.out hg (fun _ _ => by simp))
                clear ho hb hg hat
                refine hK.out _ _ trivial (fun hHeld => ?_)
                clear hK K
                refine norm_ (a' := ?_) ?_ ?_
                rotate_left
                · show Act.put _ (some 39) _ = _; simp only [Act.put, List.setIfInBounds_toArray, List.set_cons_zero, List.set_cons_succ, i64_w, i32_w]; rfl
                refine one_ (i := 4) (N := some 37) #[true, true, true, true, true, true, true, false, true, true, true, false, false] rfl rfl (one_of HT_.out (by kernel_rfl)) (by decide) (fun K hK => ?_)
                refine Kd.R_append_rows_step Kd.string (w0 := w17) w17.heap.size (by rfl) (.tmp 33) (.tmp 36) 32 9 (.string ⟨#[]⟩) 16 rfl Try.underlying32 info9 rfl (by decide) (by omega) v33 ([]) (y1) _ _ _ (fun _ => True) (fun _ => False) rfl rfl H33.out ((Kd.C_below HR1.out HS.out)) (fun _ _ h => h) (fun _ h => h.elim) (fun _ _ => trivial) HS.out HS.out.size (by have := LE.out; simp only [List.length_nil]; omega) ?_
                intro v37 w37 ho hb hg hat
                replace HS := Aside0.mk hb
                have H37 := Aside0.mk ho
                replace H39 := Aside0.mk (Kd.R_mono (ok' := fun _ => True) (Kd.R_grown H39.out hg (fun _ hk => hk.2)) (fun _ _ => trivial))
                clear ho hb hg hat
                refine hK.out _ _ trivial (fun hHeld => ?_)
                clear hK K
                refine norm_ (a' := ?_) ?_ ?_
                rotate_left
                · show Act.put _ (some 37) _ = _; simp only [Act.put, List.setIfInBounds_toArray, List.set_cons_zero, List.set_cons_succ, i64_w, i32_w]; rfl
                exact norm_ (by simp only [putAll, Act.put, List.setIfInBounds_toArray, List.set_cons_zero, List.set_cons_succ]) (hCont (v33, v37, v39) _ ⟨H37.out, H39.out, HS.out⟩)
            · refine Kd.R_lit_step Kd.string (w0 := w17) w17.heap.size 9 ?hg (N := 39) ?hd (xs := ([a1] : List ByteArray)) (inner := [.string a1]) (ok := fun _ => True) (okp := fun _ => True) ?hr ?hp (fun _ hk => hk) trivial HS.out HS.out.size (by simp) ?_; (case hd => rfl); (case hg => rfl); (case hr => first | (go_simp; done) | (go_simp; rfl)); (case hp => exact (Reps.one (show Kd.M Kd.string _ _ _ a1 [.string a1] from rfl) (Reps.none _ _)))
              intro v39 w39 ho hb hg hat
              replace HS := Aside0.mk hb
              have H39 := Aside0.mk ho
              clear ho hb hg hat
              refine hK.out _ _ trivial (fun hHeld => ?_)
              clear hK K
              refine norm_ (a' := ?_) ?_ ?_
              rotate_left
              · show Act.put _ (some 39) _ = _; simp only [Act.put, List.setIfInBounds_toArray, List.set_cons_zero, List.set_cons_succ, i64_w, i32_w]; rfl
              refine one_ (i := 0) (N := some 33) #[true, true, true, true, false, true, true, false, true, true, true, false, false] rfl rfl (one_of HT_.out (by kernel_rfl)) (by decide) (fun K hK => ?_)
              refine Kd.R_lit_step Kd.string (w0 := w17) w17.heap.size 9 ?hg (N := 33) ?hd (xs := ([] : List ByteArray)) (inner := []) (ok := fun _ => True) (okp := fun _ => True) ?hr ?hp (fun _ hk => hk) trivial HS.out HS.out.size (by simp) ?_; (case hd => rfl); (case hg => rfl); (case hr => first | (go_simp; done) | (go_simp; rfl)); (case hp => exact (Reps.none _ _))
              intro v33 w33 ho hb hg hat
              replace H39 := Aside0.mk (apart33 H39.out hg hat)
              replace HS := Aside0.mk hb
              have H33 := Aside0.mk ho
              clear ho hb hg hat
              refine hK.out _ _ trivial (fun hHeld => ?_)
              clear hK K
              refine norm_ (a' := ?_) ?_ ?_
              rotate_left
              · show Act.put _ (some 33) _ = _; simp only [Act.put, List.setIfInBounds_toArray, List.set_cons_zero, List.set_cons_succ, i64_w, i32_w]; rfl
              refine one_ (i := 4) (N := some 37) #[true, true, true, true, true, true, true, false, true, true, true, false, false] rfl rfl (one_of HT_.out (by kernel_rfl)) (by decide) (fun K hK => ?_)
              refine Kd.R_append_rows_step Kd.string (w0 := w17) w17.heap.size (by rfl) (.tmp 33) (.tmp 36) 32 9 (.string ⟨#[]⟩) 16 rfl Try.underlying32 info9 rfl (by decide) (by omega) v33 ([]) (y1) _ _ _ (fun _ => True) (fun _ => False) rfl rfl H33.out ((Kd.C_below HR1.out HS.out)) (fun _ _ h => h) (fun _ h => h.elim) (fun _ _ => trivial) HS.out HS.out.size (by have := LE.out; simp only [List.length_nil]; omega) ?_
              intro v37 w37 ho hb hg hat
              replace HS := Aside0.mk hb
              have H37 := Aside0.mk ho
              replace H39 := Aside0.mk (Kd.R_mono (ok' := fun _ => True) (Kd.R_grown H39.out hg (fun _ hk => hk.2)) (fun _ _ => trivial))
              clear ho hb hg hat
              refine hK.out _ _ trivial (fun hHeld => ?_)
              clear hK K
              refine norm_ (a' := ?_) ?_ ?_
              rotate_left
              · show Act.put _ (some 37) _ = _; simp only [Act.put, List.setIfInBounds_toArray, List.set_cons_zero, List.set_cons_succ, i64_w, i32_w]; rfl
              exact norm_ (by simp only [putAll, Act.put, List.setIfInBounds_toArray, List.set_cons_zero, List.set_cons_succ]) (hCont (v33, v37, v39) _ ⟨H37.out, H39.out, HS.out⟩)
          · intro s_ w6 hF
            obtain ⟨v33, v37, v39⟩ := s_
            obtain ⟨h37, h39, hs⟩ := hF
            replace HS := Aside0.mk hs
            have H37 := Aside0.mk h37
            have H39 := Aside0.mk h39
            clear h37 h39 hs
            obtain ⟨A9, c9, e9⟩ := Kd.R_slice H39.out
            dsimp only at e9 H37 H39
            subst e9
            refine norm_ (a' := ?_) ?_ ?_
            rotate_left
            · simp only [putAll, Act.put, List.setIfInBounds_toArray, List.set_cons_zero, List.set_cons_succ]; rfl
            refine one_ (i := 7) (N := some 40) #[true, true, true, true, true, true, true, true, true, true, true, false, false] rfl rfl (one_of HT_.out (by kernel_rfl)) (by decide) (fun K hK => ?_)
            refine Kd.R_append_rows_step Kd.string (w0 := w17) w17.heap.size (by rfl) (.tmp 37) (.tmp 39) 32 9 (.string ⟨#[]⟩) 16 rfl Try.underlying32 info9 rfl (by decide) (by omega) v37 ([] ++ y1) ([a1]) _ _ _ (fun _ => True) (fun _ => False) rfl rfl H37.out ((Kd.R_reads' H39.out).2.2) (fun _ _ h => h) (fun _ h => h.elim) (fun _ _ => trivial) HS.out HS.out.size (by have := LE.out; simp only [List.length_singleton, List.length_cons, List.length_nil, List.nil_append]; omega) ?_
            intro v40 w40 ho hb hg hat
            replace HS := Aside0.mk hb
            have H40 := Aside0.mk ho
            clear ho hb hg hat H39 H37
            refine hK.out _ _ trivial (fun hHeld => ?_)
            clear hK K
            refine norm_ (a' := ?_) ?_ ?_
            rotate_left
            · show Act.put _ (some 40) _ = _; simp only [Act.put, List.setIfInBounds_toArray, List.set_cons_zero, List.set_cons_succ, i64_w, i32_w]; rfl
            refine one_ (i := 11) (N := some 44) #[true, true, true, true, true, true, true, true, true, true, true, true, false] rfl rfl (one_of HT_.out (by kernel_rfl)) (by decide) (fun K hK => ?_)
            refine Kd.R_append_rows_step Kd.string (w0 := w17) w17.heap.size (by rfl) (.tmp 40) (.tmp 43) 32 9 (.string ⟨#[]⟩) 16 rfl Try.underlying32 info9 rfl (by decide) (by omega) v40 (([] ++ y1) ++ [a1]) (y2) _ _ _ (fun _ => True) (fun _ => False) rfl rfl H40.out ((Kd.C_below HR2.out HS.out)) (fun _ _ h => h) (fun _ h => h.elim) (fun _ _ => trivial) HS.out HS.out.size (by have := LE.out; simp only [List.length_append, List.length_singleton, List.length_cons, List.length_nil, List.nil_append]; omega) ?_
            intro v44 w44 ho hb hg hat
            replace HS := Aside0.mk hb
            have H44 := Aside0.mk ho
            clear ho hb hg hat H40
            refine hK.out _ _ trivial (fun hHeld => ?_)
            clear hK K
            refine norm_ (a' := ?_) ?_ ?_
            rotate_left
            · show Act.put _ (some 44) _ = _; simp only [Act.put, List.setIfInBounds_toArray, List.set_cons_zero, List.set_cons_succ, i64_w, i32_w]; rfl
            refine pure_ (i := 12) (N := some 4) (v := ?_) (a' := ?_) #[true, true, true, true, true, true, true, true, true, true, true, true, true] rfl rfl (any_of HT_.out (by kernel_rfl)) (fun _ _ _ h => h) (Or.inl ⟨by rfl, ?_⟩) ?_ ?_
            rotate_left
            · intro w'; go_simp; with_reducible rfl
            rotate_left
            · simp only [Act.put, List.setIfInBounds_toArray, List.set_cons_zero, List.set_cons_succ, i64_w, i32_w]; rfl
            refine done_ (done_of HT_.out (by kernel_rfl)) ?_
            try go_wp2
            go_ret
            exact ⟨_, rfl, by rw [HN.out]; exact Kd.R_lower H44.out (Nat.le_trans hbase.out HBd.out.size), below_then HBd.out HBd.out.size HS.out⟩
    · have hltz : ¬ (kk : Int) < (l0.length : Int) := by omega
      have hdec : decide ((kk : Int) < (l0.length : Int)) = false := decide_eq_false hltz
      have hnew : Aside0 (ins l0 a1 = (l0.take kk ++ [a1]) ++ l0.drop kk) := ⟨ins_new a1 l0 kk hkl HNM.out (fun h => absurd h hlt)⟩
      try go_wp2
      have HS0 := Aside0.mk (Kd.C_below hC.out (below_drew1 HB.out))
      have HO0 := Aside0.mk (Kd.R_below ho0.out (below_drew1 HB.out))
      have HBd := Aside0.mk (below_drew1 HB.out)
      obtain ⟨i018, hi018, _, hsz18, _⟩ := info_parts info9
      have hcut1 := cut_to (P := Try.prog) 32 9 .i64 Try.underlying32 hi018 A l0.length c (kk : Int) (by omega) hkz hc.out
      have hcut2 := cut_from (P := Try.prog) 32 9 .i64 Try.underlying32 hi018 1 hsz18 A l0.length c (kk : Int) (by omega) hkz
      rw [Int.toNat_natCast] at hcut1 hcut2
      have HR1 := Aside0.mk (Kd.C_take HS0.out hkl)
      have HR2 := Aside0.mk (Kd.C_drop HS0.out hkl hc.out)
      obtain ⟨y1, hy1⟩ : ∃ y, y = l0.take kk := ⟨_, rfl⟩
      obtain ⟨y2, hy2⟩ : ∃ y, y = l0.drop kk := ⟨_, rfl⟩
      obtain ⟨A2, hA2⟩ : ∃ y, y = (if c = kk then A else (A : Option Addr).map (·.add (kk * 1))) := ⟨_, rfl⟩
      obtain ⟨c2, hc2⟩ : ∃ y, y = c - kk := ⟨_, rfl⟩
      have l1 : y1.length = kk := by rw [hy1, List.length_take]; omega
      have l2 : y2.length = l0.length - kk := by rw [hy2, List.length_drop]
      rw [← hA2, ← hc2, ← l2] at hcut2
      replace hcut1 : ∀ W : World, (Instr.slice 32 (.slice A l0.length c) none (some (.int .i64 (kk : Int))) none).run Try.prog W = .ok (.slice A y1.length c) W := by rw [l1]; exact hcut1
      replace HR1 : Aside0 (Kd.C Kd.string wr.drew A y1.length y1) := ⟨by rw [hy1]; exact HR1.out⟩
      replace HR2 : Aside0 (Kd.C Kd.string wr.drew A2 y2.length y2) := ⟨by rw [hy2, hA2]; exact HR2.out⟩
      have HN : Aside0 (ins l0 a1 = (y1 ++ [a1]) ++ y2) := ⟨by rw [hy1, hy2]; exact hnew.out⟩
      have LE : Aside0 (y1.length + y2.length ≤ 1000000) := ⟨by have := hlen.out; omega⟩
      have hkl1 := eq_true (show (0 : Int) ≤ (kk : Int) by omega)
      have hkl2 := eq_true hkz
      clear hi018 hsz18 HS0 hy1 hy2 hA2 hc2 l1 l2 hnew HNM
      refine start_ (n := 13) (S := fun w' => True) (ds := []) #[false, false, false, false, false, false, false, false, false, false, false, false, false] (by kernel_rfl) rfl rfl trivial (fun hHeld => ?_); refine with_tabW insT6 insB6 (fun HT_ HW_ => ?_)
      generalize wr.drew = w17 at HO0 HBd HR1 HR2 hHeld ⊢
      have HS := Aside0.mk (Below.refl w17.heap.size w17)
      refine pure_ (i := 1) (N := some 34) (v := ?_) (a' := ?_) #[false, true, false, false, false, false, false, false, false, false, false, false, false] rfl rfl (any_of HT_.out (by kernel_rfl)) (fun _ _ _ h => h) (Or.inl ⟨by rfl, ?_⟩) ?_ ?_
      rotate_left
      · intro w'; go_simp; with_reducible rfl
      rotate_left
      · simp only [Act.put, List.setIfInBounds_toArray, List.set_cons_zero, List.set_cons_succ, i64_w, i32_w]; rfl
      refine pure_ (i := 2) (N := some 35) (v := ?_) (a' := ?_) #[false, true, true, false, false, false, false, false, false, false, false, false, false] rfl rfl (any_of HT_.out (by kernel_rfl)) (fun _ _ _ h => h) (Or.inl ⟨by rfl, ?_⟩) ?_ ?_
      rotate_left
      · intro w'; go_simp; with_reducible rfl
      rotate_left
      · simp only [Act.put, List.setIfInBounds_toArray, List.set_cons_zero, List.set_cons_succ, i64_w, i32_w]; rfl
      refine pure_ (i := 3) (N := some 36) (v := ?_) (a' := ?_) #[false, true, true, true, false, false, false, false, false, false, false, false, false] rfl rfl (any_of HT_.out (by kernel_rfl)) (fun _ _ _ h => h) (Or.inl ⟨by rfl, ?_⟩) ?_ ?_
      rotate_left
      · intro w'; go_simp; with_reducible rfl
      rotate_left
      · simp only [Act.put, List.setIfInBounds_toArray, List.set_cons_zero, List.set_cons_succ, i64_w, i32_w]; rfl
      refine pure_ (i := 5) (N := some 38) (v := ?_) (a' := ?_) #[false, true, true, true, false, true, false, false, false, false, false, false, false] rfl rfl (any_of HT_.out (by kernel_rfl)) (fun _ _ _ h => h) (Or.inl ⟨by rfl, ?_⟩) ?_ ?_
      rotate_left
      · intro w'; go_simp; with_reducible rfl
      rotate_left
      · simp only [Act.put, List.setIfInBounds_toArray, List.set_cons_zero, List.set_cons_succ, i64_w, i32_w]; rfl
      refine pure_ (i := 8) (N := some 41) (v := ?_) (a' := ?_) #[false, true, true, true, false, true, false, false, true, false, false, false, false] rfl rfl (any_of HT_.out (by kernel_rfl)) (fun _ _ _ h => h) (Or.inl ⟨by rfl, ?_⟩) ?_ ?_
      rotate_left
      · intro w'; go_simp; with_reducible rfl
      rotate_left
      · simp only [Act.put, List.setIfInBounds_toArray, List.set_cons_zero, List.set_cons_succ, i64_w, i32_w]; rfl
      refine pure_ (i := 9) (N := some 42) (v := ?_) (a' := ?_) #[false, true, true, true, false, true, false, false, true, true, false, false, false] rfl rfl (any_of HT_.out (by kernel_rfl)) (fun _ _ _ h => h) (Or.inl ⟨by rfl, ?_⟩) ?_ ?_
      rotate_left
      · intro w'; go_simp; with_reducible rfl
      rotate_left
      · simp only [Act.put, List.setIfInBounds_toArray, List.set_cons_zero, List.set_cons_succ, i64_w, i32_w]; rfl
      refine pure_ (i := 10) (N := some 43) (v := ?_) (a' := ?_) #[false, true, true, true, false, true, false, false, true, true, true, false, false] rfl rfl (any_of HT_.out (by kernel_rfl)) (fun _ _ _ h => h) (Or.inl ⟨by rfl, ?_⟩) ?_ ?_
      rotate_left
      · intro w'; go_simp; with_reducible rfl
      rotate_left
      · simp only [Act.put, List.setIfInBounds_toArray, List.set_cons_zero, List.set_cons_succ, i64_w, i32_w]; rfl
      refine join_ (σ := Value × Value × Value) 3 #[true, true, true, true, true, true, true, false, true, true, true, false, false] (fun s_ => [(33, s_.1), (37, s_.2.1), (39, s_.2.2)]) (fun s_ w' => Kd.R Kd.string 9 w' w17.heap.size (fun _ => True) s_.2.1 ([] ++ y1) ∧ Kd.R Kd.string 9 w' w17.heap.size (fun _ => True) s_.2.2 [a1] ∧ Below w17.heap.size w17 w') ?_ ?_
      rotate_left
      · intro hCont
        refine two_ (i := 0) (j := 6) (Ni := some 33) (Nj := some 39) #[true, true, true, true, false, true, false, false, true, true, true, false, false] #[false, true, true, true, false, true, true, false, true, true, true, false, false] rfl rfl rfl rfl (two_of HT_.out (by kernel_rfl)) (by decide) (by decide) (fun K hK => ?_) (fun K hK => ?_)
        · refine Kd.R_lit_step Kd.string (w0 := w17) w17.heap.size 9 ?hg (N := 33) ?hd (xs := ([] : List ByteArray)) (inner := []) (ok := fun _ => True) (okp := fun _ => True) ?hr ?hp (fun _ hk => hk) trivial HS.out HS.out.size (by simp) ?_; (case hd => rfl); (case hg => rfl); (case hr => first | (go_simp; done) | (go_simp; rfl)); (case hp => exact (Reps.none _ _))
          intro v33 w33 ho hb hg hat
          replace HS := Aside0.mk hb
          have H33 := Aside0.mk ho
          clear ho hb hg hat
          refine hK.out _ _ trivial (fun hHeld => ?_)
          clear hK K
          refine norm_ (a' := ?_) ?_ ?_
          rotate_left
          · show Act.put _ (some 33) _ = _; simp only [Act.put, List.setIfInBounds_toArray, List.set_cons_zero, List.set_cons_succ, i64_w, i32_w]; rfl
          refine two_ (i := 4) (j := 6) (Ni := some 37) (Nj := some 39) #[true, true, true, true, true, true, false, false, true, true, true, false, false] #[true, true, true, true, false, true, true, false, true, true, true, false, false] rfl rfl rfl rfl (two_of HT_.out (by kernel_rfl)) (by decide) (by decide) (fun K hK => ?_) (fun K hK => ?_)
          · refine Kd.R_append_rows_step Kd.string (w0 := w17) w17.heap.size (by rfl) (.tmp 33) (.tmp 36) 32 9 (.string ⟨#[]⟩) 16 rfl Try.underlying32 info9 rfl (by decide) (by omega) v33 ([]) (y1) _ _ _ (fun _ => True) (fun _ => False) rfl rfl H33.out ((Kd.C_below HR1.out HS.out)) (fun _ _ h => h) (fun _ h => h.elim) (fun _ _ => trivial) HS.out HS.out.size (by have := LE.out; simp only [List.length_nil]; omega) ?_
            intro v37 w37 ho hb hg hat
            replace HS := Aside0.mk hb
            have H37 := Aside0.mk ho
            clear ho hb hg hat
            refine hK.out _ _ trivial (fun hHeld => ?_)
            clear hK K
            refine norm_ (a' := ?_) ?_ ?_
            rotate_left
            · show Act.put _ (some 37) _ = _; simp only [Act.put, List.setIfInBounds_toArray, List.set_cons_zero, List.set_cons_succ, i64_w, i32_w]; rfl
            refine one_ (i := 6) (N := some 39) #[true, true, true, true, true, true, true, false, true, true, true, false, false] rfl rfl (one_of HT_.out (by kernel_rfl)) (by decide) (fun K hK => ?_)
            refine Kd.R_lit_step Kd.string (w0 := w17) w17.heap.size 9 ?hg (N := 39) ?hd (xs := ([a1] : List ByteArray)) (inner := [.string a1]) (ok := fun _ => True) (okp := fun _ => True) ?hr ?hp (fun _ hk => hk) trivial HS.out HS.out.size (by simp) ?_; (case hd => rfl); (case hg => rfl); (case hr => first | (go_simp; done) | (go_simp; rfl)); (case hp => exact (Reps.one (show Kd.M Kd.string _ _ _ a1 [.string a1] from rfl) (Reps.none _ _)))
            intro v39 w39 ho hb hg hat
            replace HS := Aside0.mk hb
            have H39 := Aside0.mk ho
            replace H37 := Aside0.mk (Kd.R_grown H37.out hg (fun _ _ => by simp))
            clear ho hb hg hat
            refine hK.out _ _ trivial (fun hHeld => ?_)
            clear hK K
            refine norm_ (a' := ?_) ?_ ?_
            rotate_left
            · show Act.put _ (some 39) _ = _; simp only [Act.put, List.setIfInBounds_toArray, List.set_cons_zero, List.set_cons_succ, i64_w, i32_w]; rfl
            exact norm_ (by simp only [putAll, Act.put, List.setIfInBounds_toArray, List.set_cons_zero, List.set_cons_succ]) (hCont (v33, v37, v39) _ ⟨H37.out, H39.out, HS.out⟩)
          · refine Kd.R_lit_step Kd.string (w0 := w17) w17.heap.size 9 ?hg (N := 39) ?hd (xs := ([a1] : List ByteArray)) (inner := [.string a1]) (ok := fun _ => True) (okp := fun _ => True) ?hr ?hp (fun _ hk => hk) trivial HS.out HS.out.size (by simp) ?_; (case hd => rfl); (case hg => rfl); (case hr => first | (go_simp; done) | (go_simp; rfl)); (case hp => exact (Reps.one (show Kd.M Kd.string _ _ _ a1 [.string a1] from rfl) (Reps.none _ _)))
            intro v39 w39 ho hb hg hat
            have H39 := Aside0.mk (apart39 ho hat (Kd.R_lt H33.out))
            replace HS := Aside0.mk hb
            replace H33 := Aside0.mk (Kd.R_grown H33.out hg (fun _ _ => by simp))
            clear ho hb hg hat
            refine hK.out _ _ trivial (fun hHeld => ?_)
            clear hK K
            refine norm_ (a' := ?_) ?_ ?_
            rotate_left
            · show Act.put _ (some 39) _ = _; simp only [Act.put, List.setIfInBounds_toArray, List.set_cons_zero, List.set_cons_succ, i64_w, i32_w]; rfl
            refine one_ (i := 4) (N := some 37) #[true, true, true, true, true, true, true, false, true, true, true, false, false] rfl rfl (one_of HT_.out (by kernel_rfl)) (by decide) (fun K hK => ?_)
            refine Kd.R_append_rows_step Kd.string (w0 := w17) w17.heap.size (by rfl) (.tmp 33) (.tmp 36) 32 9 (.string ⟨#[]⟩) 16 rfl Try.underlying32 info9 rfl (by decide) (by omega) v33 ([]) (y1) _ _ _ (fun _ => True) (fun _ => False) rfl rfl H33.out ((Kd.C_below HR1.out HS.out)) (fun _ _ h => h) (fun _ h => h.elim) (fun _ _ => trivial) HS.out HS.out.size (by have := LE.out; simp only [List.length_nil]; omega) ?_
            intro v37 w37 ho hb hg hat
            replace HS := Aside0.mk hb
            have H37 := Aside0.mk ho
            replace H39 := Aside0.mk (Kd.R_mono (ok' := fun _ => True) (Kd.R_grown H39.out hg (fun _ hk => hk.2)) (fun _ _ => trivial))
            clear ho hb hg hat
            refine hK.out _ _ trivial (fun hHeld => ?_)
            clear hK K
            refine norm_ (a' := ?_) ?_ ?_
            rotate_left
            · show Act.put _ (some 37) _ = _; simp only [Act.put, List.setIfInBounds_toArray, List.set_cons_zero, List.set_cons_succ, i64_w, i32_w]; rfl
            exact norm_ (by simp only [putAll, Act.put, List.setIfInBounds_toArray, List.set_cons_zero, List.set_cons_succ]) (hCont (v33, v37, v39) _ ⟨H37.out, H39.out, HS.out⟩)
        · refine Kd.R_lit_step Kd.string (w0 := w17) w17.heap.size 9 ?hg (N := 39) ?hd (xs := ([a1] : List ByteArray)) (inner := [.string a1]) (ok := fun _ => True) (okp := fun _ => True) ?hr ?hp (fun _ hk => hk) trivial HS.out HS.out.size (by simp) ?_; (case hd => rfl); (case hg => rfl); (case hr => first | (go_simp; done) | (go_simp; rfl)); (case hp => exact (Reps.one (show Kd.M Kd.string _ _ _ a1 [.string a1] from rfl) (Reps.none _ _)))
          intro v39 w39 ho hb hg hat
          replace HS := Aside0.mk hb
          have H39 := Aside0.mk ho
          clear ho hb hg hat
          refine hK.out _ _ trivial (fun hHeld => ?_)
          clear hK K
          refine norm_ (a' := ?_) ?_ ?_
          rotate_left
          · show Act.put _ (some 39) _ = _; simp only [Act.put, List.setIfInBounds_toArray, List.set_cons_zero, List.set_cons_succ, i64_w, i32_w]; rfl
          refine one_ (i := 0) (N := some 33) #[true, true, true, true, false, true, true, false, true, true, true, false, false] rfl rfl (one_of HT_.out (by kernel_rfl)) (by decide) (fun K hK => ?_)
          refine Kd.R_lit_step Kd.string (w0 := w17) w17.heap.size 9 ?hg (N := 33) ?hd (xs := ([] : List ByteArray)) (inner := []) (ok := fun _ => True) (okp := fun _ => True) ?hr ?hp (fun _ hk => hk) trivial HS.out HS.out.size (by simp) ?_; (case hd => rfl); (case hg => rfl); (case hr => first | (go_simp; done) | (go_simp; rfl)); (case hp => exact (Reps.none _ _))
          intro v33 w33 ho hb hg hat
          replace H39 := Aside0.mk (apart33 H39.out hg hat)
          replace HS := Aside0.mk hb
          have H33 := Aside0.mk ho
          clear ho hb hg hat
          refine hK.out _ _ trivial (fun hHeld => ?_)
          clear hK K
          refine norm_ (a' := ?_) ?_ ?_
          rotate_left
          · show Act.put _ (some 33) _ = _; simp only [Act.put, List.setIfInBounds_toArray, List.set_cons_zero, List.set_cons_succ, i64_w, i32_w]; rfl
          refine one_ (i := 4) (N := some 37) #[true, true, true, true, true, true, true, false, true, true, true, false, false] rfl rfl (one_of HT_.out (by kernel_rfl)) (by decide) (fun K hK => ?_)
          refine Kd.R_append_rows_step Kd.string (w0 := w17) w17.heap.size (by rfl) (.tmp 33) (.tmp 36) 32 9 (.string ⟨#[]⟩) 16 rfl Try.underlying32 info9 rfl (by decide) (by omega) v33 ([]) (y1) _ _ _ (fun _ => True) (fun _ => False) rfl rfl H33.out ((Kd.C_below HR1.out HS.out)) (fun _ _ h => h) (fun _ h => h.elim) (fun _ _ => trivial) HS.out HS.out.size (by have := LE.out; simp only [List.length_nil]; omega) ?_
          intro v37 w37 ho hb hg hat
          replace HS := Aside0.mk hb
          have H37 := Aside0.mk ho
          replace H39 := Aside0.mk (Kd.R_mono (ok' := fun _ => True) (Kd.R_grown H39.out hg (fun _ hk => hk.2)) (fun _ _ => trivial))
          clear ho hb hg hat
          refine hK.out _ _ trivial (fun hHeld => ?_)
          clear hK K
          refine norm_ (a' := ?_) ?_ ?_
          rotate_left
          · show Act.put _ (some 37) _ = _; simp only [Act.put, List.setIfInBounds_toArray, List.set_cons_zero, List.set_cons_succ, i64_w, i32_w]; rfl
          exact norm_ (by simp only [putAll, Act.put, List.setIfInBounds_toArray, List.set_cons_zero, List.set_cons_succ]) (hCont (v33, v37, v39) _ ⟨H37.out, H39.out, HS.out⟩)
      · intro s_ w6 hF
        obtain ⟨v33, v37, v39⟩ := s_
        obtain ⟨h37, h39, hs⟩ := hF
        replace HS := Aside0.mk hs
        have H37 := Aside0.mk h37
        have H39 := Aside0.mk h39
        clear h37 h39 hs
        obtain ⟨A9, c9, e9⟩ := Kd.R_slice H39.out
        dsimp only at e9 H37 H39
        subst e9
        refine norm_ (a' := ?_) ?_ ?_
        rotate_left
        · simp only [putAll, Act.put, List.setIfInBounds_toArray, List.set_cons_zero, List.set_cons_succ]; rfl
        refine one_ (i := 7) (N := some 40) #[true, true, true, true, true, true, true, true, true, true, true, false, false] rfl rfl (one_of HT_.out (by kernel_rfl)) (by decide) (fun K hK => ?_)
        refine Kd.R_append_rows_step Kd.string (w0 := w17) w17.heap.size (by rfl) (.tmp 37) (.tmp 39) 32 9 (.string ⟨#[]⟩) 16 rfl Try.underlying32 info9 rfl (by decide) (by omega) v37 ([] ++ y1) ([a1]) _ _ _ (fun _ => True) (fun _ => False) rfl rfl H37.out ((Kd.R_reads' H39.out).2.2) (fun _ _ h => h) (fun _ h => h.elim) (fun _ _ => trivial) HS.out HS.out.size (by have := LE.out; simp only [List.length_singleton, List.length_cons, List.length_nil, List.nil_append]; omega) ?_
        intro v40 w40 ho hb hg hat
        replace HS := Aside0.mk hb
        have H40 := Aside0.mk ho
        clear ho hb hg hat H39 H37
        refine hK.out _ _ trivial (fun hHeld => ?_)
        clear hK K
        refine norm_ (a' := ?_) ?_ ?_
        rotate_left
        · show Act.put _ (some 40) _ = _; simp only [Act.put, List.setIfInBounds_toArray, List.set_cons_zero, List.set_cons_succ, i64_w, i32_w]; rfl
        refine one_ (i := 11) (N := some 44) #[true, true, true, true, true, true, true, true, true, true, true, true, false] rfl rfl (one_of HT_.out (by kernel_rfl)) (by decide) (fun K hK => ?_)
        refine Kd.R_append_rows_step Kd.string (w0 := w17) w17.heap.size (by rfl) (.tmp 40) (.tmp 43) 32 9 (.string ⟨#[]⟩) 16 rfl Try.underlying32 info9 rfl (by decide) (by omega) v40 (([] ++ y1) ++ [a1]) (y2) _ _ _ (fun _ => True) (fun _ => False) rfl rfl H40.out ((Kd.C_below HR2.out HS.out)) (fun _ _ h => h) (fun _ h => h.elim) (fun _ _ => trivial) HS.out HS.out.size (by have := LE.out; simp only [List.length_append, List.length_singleton, List.length_cons, List.length_nil, List.nil_append]; omega) ?_
        intro v44 w44 ho hb hg hat
        replace HS := Aside0.mk hb
        have H44 := Aside0.mk ho
        clear ho hb hg hat H40
        refine hK.out _ _ trivial (fun hHeld => ?_)
        clear hK K
        refine norm_ (a' := ?_) ?_ ?_
        rotate_left
        · show Act.put _ (some 44) _ = _; simp only [Act.put, List.setIfInBounds_toArray, List.set_cons_zero, List.set_cons_succ, i64_w, i32_w]; rfl
        refine pure_ (i := 12) (N := some 4) (v := ?_) (a' := ?_) #[true, true, true, true, true, true, true, true, true, true, true, true, true] rfl rfl (any_of HT_.out (by kernel_rfl)) (fun _ _ _ h => h) (Or.inl ⟨by rfl, ?_⟩) ?_ ?_
        rotate_left
        · intro w'; go_simp; with_reducible rfl
        rotate_left
        · simp only [Act.put, List.setIfInBounds_toArray, List.set_cons_zero, List.set_cons_succ, i64_w, i32_w]; rfl
        refine done_ (done_of HT_.out (by kernel_rfl)) ?_
        try go_wp2
        go_ret
        exact ⟨_, rfl, by rw [HN.out]; exact Kd.R_lower H44.out (Nat.le_trans hbase.out HBd.out.size), below_then HBd.out HBd.out.size HS.out⟩
end Go.Proofs.Ytdkologncoofdaa.P
-- XSpecSlots
namespace Go.Proofs.Ytdkologncoofdaa.P
open Go.RowKit Go.Proofs.YtdkologncoofdaaW.PrintWords Go.Proofs.YtdkologncoofdaaW.PrintLast Go.Proofs.YtdkologncoofdaaW.PrintMore
set_option linter.unusedVariables false
set_option linter.unusedSimpArgs false
theorem both_step (a b : List ByteArray) (k : Nat) (hk : k < b.length) : both a (b.take (k + 1)) = ins (both a (b.take k)) (b.getD k ByteArray.empty) := by
  unfold both
  rw [List.take_succ_eq_append_getElem hk, List.foldl_append, List.getD_eq_getElem?_getD, List.getElem?_eq_getElem hk]
  rfl
set_option maxHeartbeats 8000000 in
set_option maxRecDepth 100000 in
theorem both_calls (a b : List ByteArray) (hlen : a.length + b.length ≤ 900000) (base : Nat) (v0 : Value) (A1 : Option Addr) (c1 : Nat) (w : World) (hbase : base ≤ w.heap.size) (ho0 : Kd.R Kd.string 9 w base (fun _ => True) v0 a) (hr1 : Kd.C Kd.string w A1 b.length b) :
    Calls Try.prog 100 #[v0, .slice A1 b.length c1] w fun e w' => ∃ v', e = .returned v' ∧ Kd.R Kd.string 9 w' base (fun _ => True) v' (both a b) ∧ Below w.heap.size w w' := by
  have hbig : b.length ≤ 9223372036854775807 := by omega
  replace hlen := Aside0.mk hlen
  replace ho0 := Aside0.mk ho0
  replace hr1 := Aside0.mk hr1
  replace hbase := Aside0.mk hbase
  go_enter Try.func100, Try.ntmps100
  go_wp2
  go_loopg [0, 5] b.length (fun gg v v5 wr => ∃ kk : Nat, kk ≤ b.length ∧ b.length - kk ≤ gg ∧ v5 = .int .i64 kk ∧ Aside0 (Kd.R Kd.string 9 wr base (fun _ => True) v (both a (b.take kk))) ∧ Aside0 (Below w.heap.size w wr))
  case atStart => exact ⟨0, Nat.zero_le _, by omega, rfl, ⟨by simpa [both] using ho0.out⟩, ⟨Below.refl _ w⟩⟩
  case round =>
    rename_i v
    obtain ⟨kk, hkk, hgg, rfl, HO, HB⟩ := hrel
    by_cases hlt : kk < b.length
    · have hltz : (kk : Int) < (b.length : Int) := by omega
      have h0z : 0 ≤ (kk : Int) := by omega
      obtain ⟨ad, e, hx⟩ := Kd.at_string (Kd.C_below hr1.out HB.out) (kk : Int) h0z hltz
      cases e
      rw [Int.toNat_natCast, getD_rd] at hx
      have hcall := insert_calls (both a (b.take kk)) (b.getD kk ByteArray.empty) (by have := both_len (b.take kk) a; rw [List.length_take] at this; have := hlen.out; omega) base _ wr (Nat.le_trans hbase.out HB.out.size) HO.out
      rw [← both_step a b kk hlt] at hcall
      obtain ⟨x, ex⟩ : ∃ x, x = b.getD kk ByteArray.empty := ⟨_, rfl⟩
      rw [← ex] at hx hcall
      clear ex
      replace h0z := eq_true h0z
      have hdec := decide_eq_true hltz
      replace hltz := eq_true hltz
      go_wp2_with (go_at_call 105; refine hcall.mono ?_; rintro e w' ⟨v', rfl, ho', hb'⟩; have HO' := Aside0.mk ho'; have HB' := Aside0.mk (below_then HB.out HB.out.size hb'); clear ho' hb' hcall)
      go_roundg (b.length - (kk + 1))
      case measure => omega
      case rel => exact ⟨kk + 1, by omega, by omega, by go_num, HO', HB'⟩
    · have hltz : ¬ (kk : Int) < (b.length : Int) := by omega
      have hdec := decide_eq_false hltz
      obtain rfl : kk = b.length := by omega
      go_wp2
      go_ret
      exact ⟨_, rfl, by have := HO.out; rwa [List.take_length] at this, HB.out⟩
theorem blk_grown {w1 w2 : World} {g : Nat} {o : Obj} (h : w1.heap[g]? = some o) (hg : w1.grownBy w2 none) : w2.heap[g]? = some o := (hg.block g (blk_lt h) (by simp)).trans h
set_option maxHeartbeats 8000000 in
set_option maxRecDepth 100000 in
theorem of_calls (p : S39) (w : World) : Calls Try.prog 101 #[.agg #[.string p.f0, .int .i64 p.f1, .string p.f2, .string p.f3, .int .i64 p.f4, .int .i64 p.f5, .string p.f6, .string p.f7]] w fun e w' => ∃ v', e = .returned v' ∧ Kd.R Kd.string 9 w' w.heap.size (fun _ => True) v' (slotsOf p) ∧ Below w.heap.size w w' := by
  have hu39 := Try.underlying39
  have HB := Aside0.mk (Below.refl w.heap.size w)
  by_cases h2 : p.f1 = 2
  · have h2b : (p.f1 == 2) = true := beq_iff_eq.mpr h2
    have HE : Aside0 (slotsOf p = ins [p.f2] p.f3) := ⟨by unfold slotsOf; rw [if_pos h2]⟩
    clear h2
    go_enter Try.func101, Try.ntmps101
    go_wp2_with (first | ((with_reducible refine gate_dst (N := 1) rfl ?_); refine box_event ?hg (N := 1) ?hd (cs := #[.string p.f0, .int .i64 p.f1, .string p.f2, .string p.f3, .int .i64 p.f4, .int .i64 p.f5, .string p.f6, .string p.f7]) (t := 39) ?hr ?_; (case hd => rfl); (case hg => rfl); (case hr => first | (go_simp; done) | (go_simp; rfl)); intro gb hg w1 hbox hb; replace HB := Aside0.mk hb; have BK := Aside0.mk hbox; clear hb hbox hg; have q1 : w1.cell? ⟨gb, 1, none⟩ = some (.int .i64 p.f1) := (blk_cell BK.out 1).trans rfl; have q2 : w1.cell? ⟨gb, 2, none⟩ = some (.string p.f2) := (blk_cell BK.out 2).trans rfl; have q3 : w1.cell? ⟨gb, 3, none⟩ = some (.string p.f3) := (blk_cell BK.out 3).trans rfl) | ((with_reducible refine gate_dst (N := 8) rfl ?_); refine Kd.R_lit Kd.string (w0 := w) w.heap.size 9 ?hg (N := 8) ?hd (xs := ([p.f2] : List ByteArray)) (inner := [.string p.f2]) (ok := fun _ => True) (okp := fun _ => True) ?hr ?hp (fun _ hk => hk) trivial HB.out HB.out.size (by simp) ?_; (case hd => rfl); (case hg => rfl); (case hr => first | (go_simp; done) | (go_simp; rfl)); (case hp => exact (Reps.one (show Kd.M Kd.string _ _ _ p.f2 [.string p.f2] from rfl) (Reps.none _ _))); intro v1 w2 ho hb hgr hnew; have HO := Aside0.mk ho; replace HB := Aside0.mk hb; have BK2 := Aside0.mk (blk_grown BK.out hgr); clear ho hb hgr hnew BK; have q3 : w2.cell? ⟨gb, 3, none⟩ = some (.string p.f3) := (blk_cell BK2.out 3).trans rfl; clear q1 q2) | (go_at_call 105; refine (insert_calls [p.f2] p.f3 (by simp) w.heap.size _ _ HB.out.size (by first | exact HO.out | (rw [← HV.out]; exact HO.out))).mono ?_; rintro e w' ⟨v', rfl, ho', hb'⟩; have HO' := Aside0.mk ho'; have HB' := Aside0.mk (below_then HB.out HB.out.size hb'); clear ho' hb'))
    go_ret
    exact ⟨_, rfl, by rw [HE.out]; exact HO'.out, HB'.out⟩
  · have h2b : (p.f1 == 2) = false := beq_eq_false_iff_ne.mpr h2
    have HE : Aside0 (slotsOf p = [p.f2]) := ⟨by unfold slotsOf; rw [if_neg h2]⟩
    clear h2
    go_enter Try.func101, Try.ntmps101
    go_wp2_with (first | ((with_reducible refine gate_dst (N := 1) rfl ?_); refine box_event ?hg (N := 1) ?hd (cs := #[.string p.f0, .int .i64 p.f1, .string p.f2, .string p.f3, .int .i64 p.f4, .int .i64 p.f5, .string p.f6, .string p.f7]) (t := 39) ?hr ?_; (case hd => rfl); (case hg => rfl); (case hr => first | (go_simp; done) | (go_simp; rfl)); intro gb hg w1 hbox hb; replace HB := Aside0.mk hb; have BK := Aside0.mk hbox; clear hb hbox hg; have q1 : w1.cell? ⟨gb, 1, none⟩ = some (.int .i64 p.f1) := (blk_cell BK.out 1).trans rfl; have q2 : w1.cell? ⟨gb, 2, none⟩ = some (.string p.f2) := (blk_cell BK.out 2).trans rfl; have q3 : w1.cell? ⟨gb, 3, none⟩ = some (.string p.f3) := (blk_cell BK.out 3).trans rfl) | ((with_reducible refine gate_dst (N := 14) rfl ?_); refine Kd.R_lit Kd.string (w0 := w) w.heap.size 9 ?hg (N := 14) ?hd (xs := ([p.f2] : List ByteArray)) (inner := [.string p.f2]) (ok := fun _ => True) (okp := fun _ => True) ?hr ?hp (fun _ hk => hk) trivial HB.out HB.out.size (by simp) ?_; (case hd => rfl); (case hg => rfl); (case hr => first | (go_simp; done) | (go_simp; rfl)); (case hp => exact (Reps.one (show Kd.M Kd.string _ _ _ p.f2 [.string p.f2] from rfl) (Reps.none _ _))); intro v1 w2 ho hb hgr hnew; have HO := Aside0.mk ho; replace HB := Aside0.mk hb; have BK2 := Aside0.mk (blk_grown BK.out hgr); clear ho hb hgr hnew BK; skip))
    go_ret
    exact ⟨_, rfl, by rw [HE.out]; exact HO.out, HB.out⟩
def slotsT4' : Bool × List (List Nat × List Nat) := (true, [([], []), ([], []), ([0, 1], [0, 1]), ([2], [2]), ([3], [3]), ([], []), ([], []), ([], []), ([6, 7], [6, 7]), ([8], [8]), ([9], [9]), ([5, 10, 4], [5, 10]), ([4, 11, 11], [4, 11]), ([], []), ([], []), ([], []), ([14, 15], [14, 15]), ([16], [16]), ([17], [17]), ([13, 18, 12], [13, 18]), ([12, 19, 19], [12, 19]), ([20, 20, 0, 1, 2, 3, 4, 5, 6, 7, 8, 9, 10, 11, 12, 13, 14, 15, 16, 17, 18, 19, 20], [20])])
def slotsB4' : List Nat := [0, 0, 3, 7, 15, 0, 0, 0, 192, 448, 960, 2047, 4095, 0, 0, 0, 49152, 114688, 245760, 524287, 1048575, 2097151]
theorem slotsT4 : rtab .any (opsOf Try.f91 4) = slotsT4' := by kernel_rfl
theorem slotsB4 : waitsOk slotsT4'.2 slotsB4' = true := by kernel_rfl
set_option maxHeartbeats 8000000 in
set_option maxRecDepth 100000 in
theorem slots_calls (l : List S39) (hok : recOk l = true) (A : Option Addr) (c : Nat) (hc : l.length ≤ c) (d : Nat) : ∀ (n : ByteArray) (w : World), (rk l n ≤ d ∧ d ≤ 13) → Kd.C k39 w A l.length l →
    Calls Try.prog 91 #[.slice A l.length c, .string n] w fun e w' => ∃ v', e = .returned v' ∧ Kd.R Kd.string 9 w' w.heap.size (fun _ => True) v' (slt l d n) ∧ Below w.heap.size w w' := by
  have hbig : l.length ≤ 9223372036854775807 := by have := recOk_len l hok; omega
  replace hc := Aside0.mk hc
  induction d generalizing A with
  | zero =>
    intro n w hd hr
    replace hr := Aside0.mk hr
    have h0 : atOf l n < 0 := by
      have h := hd.1
      unfold rk at h
      have := atOf_range l n
      split at h <;> omega
    have h0t := decide_eq_true h0
    have HB := Aside0.mk (Below.refl w.heap.size w)
    clear h0 hd
    go_enter Try.func91, Try.ntmps91
    go_wp2_with (first | (go_at_call 66; refine (spec_l2At.calls (l.length + 1) _ _ l n (atOf l n) _ hr.out hc.out (spec_at l n hbig (l.length + 1) (Nat.lt_succ_self _))).mono ?_; rintro e w' ⟨rfl, ⟨nd, rfl⟩⟩; replace HB := Aside0.mk (pw_below_drewN HB.out nd)) | ((with_reducible refine gate_dst (N := 11) rfl ?_); refine Kd.R_lit Kd.string _ 9 ?hg (N := 11) ?hd (xs := ([] : List ByteArray)) (inner := []) (ok := fun _ => True) (okp := fun _ => True) ?hr ?hp (fun _ hk => hk) trivial (Below.refl _ _) (Nat.le_refl _) (by simp) ?_; (case hd => rfl); (case hg => rfl); (case hr => first | (go_simp; done) | (go_simp; rfl)); (case hp => exact (Reps.none _ _)); intro v1 w2 ho hb hgr hnew; have HO := Aside0.mk (Kd.R_lower ho HB.out.size); replace HB := Aside0.mk (below_then HB.out HB.out.size hb); clear ho hb hgr hnew))
    go_ret
    exact ⟨_, rfl, HO.out, HB.out⟩
  | succ d ih =>
    intro n w hd hr
    have hpow : 2 ^ (d + 1) ≤ 2 ^ 13 := Nat.pow_le_pow_right (by omega) hd.2
    replace hr := Aside0.mk hr
    have HB := Aside0.mk (Below.refl w.heap.size w)
    by_cases h0 : atOf l n < 0
    · have h0t := decide_eq_true h0
      have HE : Aside0 (slt l (d + 1) n = []) := ⟨by unfold slt; rw [if_pos h0]⟩
      clear h0 hd ih hpow
      go_enter Try.func91, Try.ntmps91
      go_wp2_with (first | (go_at_call 66; refine (spec_l2At.calls (l.length + 1) _ _ l n (atOf l n) _ hr.out hc.out (spec_at l n hbig (l.length + 1) (Nat.lt_succ_self _))).mono ?_; rintro e w' ⟨rfl, ⟨nd, rfl⟩⟩; replace HB := Aside0.mk (pw_below_drewN HB.out nd)) | ((with_reducible refine gate_dst (N := 11) rfl ?_); refine Kd.R_lit Kd.string _ 9 ?hg (N := 11) ?hd (xs := ([] : List ByteArray)) (inner := []) (ok := fun _ => True) (okp := fun _ => True) ?hr ?hp (fun _ hk => hk) trivial (Below.refl _ _) (Nat.le_refl _) (by simp) ?_; (case hd => rfl); (case hg => rfl); (case hr => first | (go_simp; done) | (go_simp; rfl)); (case hp => exact (Reps.none _ _)); intro v1 w2 ho hb hgr hnew; have HO := Aside0.mk (Kd.R_lower ho HB.out.size); replace HB := Aside0.mk (below_then HB.out HB.out.size hb); clear ho hb hgr hnew))
      go_ret
      exact ⟨_, rfl, by rw [HE.out]; exact HO.out, HB.out⟩
    · have h0t := decide_eq_false h0
      have hx := ok_ref l hok n h0
      have ha := atOf_range l n
      have HSL : Aside0 (slt l (d + 1) n = both (both (slotsOf (rd_T39 l (atOf l n))) (slt l d (rd_T39 l (atOf l n)).f6)) (slt l d (rd_T39 l (atOf l n)).f7)) := ⟨by rw [slt, if_neg h0]⟩
      have p0 : 0 ≤ atOf l n := by omega
      have q0 : atOf l n < (l.length : Int) := ha.2
      obtain ⟨ad, e, x0, x1, x2, x3, x4, x5, x6, x7⟩ := at_T39 hr.out (atOf l n) p0 q0
      cases e
      have X0 := Aside0.mk x0
      have X1 := Aside0.mk x1
      have X2 := Aside0.mk x2
      have X3 := Aside0.mk x3
      have X4 := Aside0.mk x4
      have X5 := Aside0.mk x5
      have X6 := Aside0.mk x6
      have X7 := Aside0.mk x7
      have ih' := fun m W (h1 : rk l m ≤ d) h2 => ih (some ad) m W ⟨h1, by omega⟩ h2
      clear ih
      have IH := Aside0.mk ih'
      clear ih' x0 x1 x2 x3 x4 x5 x6 x7
      have HX := Aside0.mk hx
      have HD := Aside0.mk hd
      have HP := Aside0.mk hpow
      clear hx hd hpow h0 ha
      have p0' := eq_true p0
      have q0' := eq_true q0
      clear p0 q0
      go_enter Try.func91, Try.ntmps91
      try go_wp2_with (first | (go_at_call 66; refine (spec_l2At.calls (l.length + 1) _ _ l n (atOf l n) _ hr.out hc.out (spec_at l n hbig (l.length + 1) (Nat.lt_succ_self _))).mono ?_; rintro e w' ⟨rfl, ⟨nd, rfl⟩⟩; replace HB := Aside0.mk (pw_below_drewN HB.out nd)))
      replace HB := Aside0.mk (below_drew1 HB.out)
      have ih := IH.out
      have hx := HX.out
      have hd := HD.out
      have hpow := HP.out
      refine start_ (n := 22) (S := fun w' => w'.cell? (ad.add ((atOf l n).toNat * 8)) = some (.string (rd_T39 l (atOf l n)).f0) ∧ w'.cell? ⟨(ad.add ((atOf l n).toNat * 8)).block, (ad.add ((atOf l n).toNat * 8)).off + 1, none⟩ = some (.int .i64 (rd_T39 l (atOf l n)).f1) ∧ w'.cell? ⟨(ad.add ((atOf l n).toNat * 8)).block, (ad.add ((atOf l n).toNat * 8)).off + 2, none⟩ = some (.string (rd_T39 l (atOf l n)).f2) ∧ w'.cell? ⟨(ad.add ((atOf l n).toNat * 8)).block, (ad.add ((atOf l n).toNat * 8)).off + 3, none⟩ = some (.string (rd_T39 l (atOf l n)).f3) ∧ w'.cell? ⟨(ad.add ((atOf l n).toNat * 8)).block, (ad.add ((atOf l n).toNat * 8)).off + 4, none⟩ = some (.int .i64 (rd_T39 l (atOf l n)).f4) ∧ w'.cell? ⟨(ad.add ((atOf l n).toNat * 8)).block, (ad.add ((atOf l n).toNat * 8)).off + 5, none⟩ = some (.int .i64 (rd_T39 l (atOf l n)).f5) ∧ w'.cell? ⟨(ad.add ((atOf l n).toNat * 8)).block, (ad.add ((atOf l n).toNat * 8)).off + 6, none⟩ = some (.string (rd_T39 l (atOf l n)).f6) ∧ w'.cell? ⟨(ad.add ((atOf l n).toNat * 8)).block, (ad.add ((atOf l n).toNat * 8)).off + 7, none⟩ = some (.string (rd_T39 l (atOf l n)).f7)) (ds := []) #[false, false, false, false, false, false, false, false, false, false, false, false, false, false, false, false, false, false, false, false, false, false] (by kernel_rfl) rfl rfl ⟨((HB.out.cell (World.block_lt_of_cell? w _ X0.out)).trans X0.out), ((HB.out.cell (World.block_lt_of_cell? w _ X1.out)).trans X1.out), ((HB.out.cell (World.block_lt_of_cell? w _ X2.out)).trans X2.out), ((HB.out.cell (World.block_lt_of_cell? w _ X3.out)).trans X3.out), ((HB.out.cell (World.block_lt_of_cell? w _ X4.out)).trans X4.out), ((HB.out.cell (World.block_lt_of_cell? w _ X5.out)).trans X5.out), ((HB.out.cell (World.block_lt_of_cell? w _ X6.out)).trans X6.out), ((HB.out.cell (World.block_lt_of_cell? w _ X7.out)).trans X7.out)⟩ (fun hHeld => ?_); refine with_tabW slotsT4 slotsB4 (fun HT_ HW_ => ?_)
      generalize (World.drewN w _).drew = w14 at HB hHeld ⊢
      refine pure_ (i := 0) (N := some 12) (v := ?_) (a' := ?_) #[true, false, false, false, false, false, false, false, false, false, false, false, false, false, false, false, false, false, false, false, false, false] rfl rfl (any_of HT_.out (by kernel_rfl)) (fun _ _ _ h => h) (Or.inl ⟨by rfl, ?_⟩) ?_ ?_
      rotate_left
      · intro w'; go_simp; with_reducible rfl
      rotate_left
      · simp only [Act.put, List.setIfInBounds_toArray, List.set_cons_zero, List.set_cons_succ, i64_w, i32_w]; rfl
      refine pure_ (i := 1) (N := some 13) (v := ?_) (a' := ?_) #[true, true, false, false, false, false, false, false, false, false, false, false, false, false, false, false, false, false, false, false, false, false] rfl rfl (any_of HT_.out (by kernel_rfl)) (fun _ _ _ h => h) (Or.inl ⟨by rfl, ?_⟩) ?_ ?_
      rotate_left
      · intro w'; go_simp; with_reducible rfl
      rotate_left
      · simp only [Act.put, List.setIfInBounds_toArray, List.set_cons_zero, List.set_cons_succ, i64_w, i32_w]; rfl
      refine pure_ (i := 2) (N := some 14) (v := ?_) (a' := ?_) #[true, true, true, false, false, false, false, false, false, false, false, false, false, false, false, false, false, false, false, false, false, false] rfl rfl (any_of HT_.out (by kernel_rfl)) (fun _ _ _ h => h) (Or.inl ⟨by rfl, ?_⟩) ?_ ?_
      rotate_left
      · intro w'; go_simp; with_reducible rfl
      rotate_left
      · simp only [Act.put, List.setIfInBounds_toArray, List.set_cons_zero, List.set_cons_succ, i64_w, i32_w]; rfl
      refine pure_ (i := 5) (N := some 17) (v := ?_) (a' := ?_) #[true, true, true, false, false, true, false, false, false, false, false, false, false, false, false, false, false, false, false, false, false, false] rfl rfl (any_of HT_.out (by kernel_rfl)) (fun _ _ _ h => h) (Or.inl ⟨by rfl, ?_⟩) ?_ ?_
      rotate_left
      · intro w'; go_simp; with_reducible rfl
      rotate_left
      · simp only [Act.put, List.setIfInBounds_toArray, List.set_cons_zero, List.set_cons_succ, i64_w, i32_w]; rfl
      refine pure_ (i := 6) (N := some 18) (v := ?_) (a' := ?_) #[true, true, true, false, false, true, true, false, false, false, false, false, false, false, false, false, false, false, false, false, false, false] rfl rfl (any_of HT_.out (by kernel_rfl)) (fun _ _ _ h => h) (Or.inl ⟨by rfl, ?_⟩) ?_ ?_
      rotate_left
      · intro w'; go_simp; with_reducible rfl
      rotate_left
      · simp only [Act.put, List.setIfInBounds_toArray, List.set_cons_zero, List.set_cons_succ, i64_w, i32_w]; rfl
      refine pure_ (i := 7) (N := some 19) (v := ?_) (a' := ?_) #[true, true, true, false, false, true, true, true, false, false, false, false, false, false, false, false, false, false, false, false, false, false] rfl rfl (any_of HT_.out (by kernel_rfl)) (fun _ _ _ h => h) (Or.inl ⟨by rfl, ?_⟩) ?_ ?_
      rotate_left
      · intro w'; go_simp; with_reducible rfl
      rotate_left
      · simp only [Act.put, List.setIfInBounds_toArray, List.set_cons_zero, List.set_cons_succ, i64_w, i32_w]; rfl
      refine pure_ (i := 8) (N := some 20) (v := ?_) (a' := ?_) #[true, true, true, false, false, true, true, true, true, false, false, false, false, false, false, false, false, false, false, false, false, false] rfl rfl (any_of HT_.out (by kernel_rfl)) (fun _ _ _ h => h) (Or.inl ⟨by rfl, ?_⟩) ?_ ?_
      rotate_left
      · intro w'; go_simp; with_reducible rfl
      rotate_left
      · simp only [Act.put, List.setIfInBounds_toArray, List.set_cons_zero, List.set_cons_succ, i64_w, i32_w]; rfl
      refine pure_ (i := 9) (N := some 21) (v := ?_) (a' := ?_) #[true, true, true, false, false, true, true, true, true, true, false, false, false, false, false, false, false, false, false, false, false, false] rfl rfl (any_of HT_.out (by kernel_rfl)) (fun _ _ _ h => h) (Or.inl ⟨by rfl, ?_⟩) ?_ ?_
      rotate_left
      · intro w'; go_simp; with_reducible rfl
      rotate_left
      · simp only [Act.put, List.setIfInBounds_toArray, List.set_cons_zero, List.set_cons_succ, i64_w, i32_w]; rfl
      refine pure_ (i := 13) (N := some 25) (v := ?_) (a' := ?_) #[true, true, true, false, false, true, true, true, true, true, false, false, false, true, false, false, false, false, false, false, false, false] rfl rfl (any_of HT_.out (by kernel_rfl)) (fun _ _ _ h => h) (Or.inl ⟨by rfl, ?_⟩) ?_ ?_
      rotate_left
      · intro w'; go_simp; with_reducible rfl
      rotate_left
      · simp only [Act.put, List.setIfInBounds_toArray, List.set_cons_zero, List.set_cons_succ, i64_w, i32_w]; rfl
      refine pure_ (i := 14) (N := some 26) (v := ?_) (a' := ?_) #[true, true, true, false, false, true, true, true, true, true, false, false, false, true, true, false, false, false, false, false, false, false] rfl rfl (any_of HT_.out (by kernel_rfl)) (fun _ _ _ h => h) (Or.inl ⟨by rfl, ?_⟩) ?_ ?_
      rotate_left
      · intro w'; go_simp; with_reducible rfl
      rotate_left
      · simp only [Act.put, List.setIfInBounds_toArray, List.set_cons_zero, List.set_cons_succ, i64_w, i32_w]; rfl
      refine pure_ (i := 15) (N := some 27) (v := ?_) (a' := ?_) #[true, true, true, false, false, true, true, true, true, true, false, false, false, true, true, true, false, false, false, false, false, false] rfl rfl (any_of HT_.out (by kernel_rfl)) (fun _ _ _ h => h) (Or.inl ⟨by rfl, ?_⟩) ?_ ?_
      rotate_left
      · intro w'; go_simp; with_reducible rfl
      rotate_left
      · simp only [Act.put, List.setIfInBounds_toArray, List.set_cons_zero, List.set_cons_succ, i64_w, i32_w]; rfl
      refine pure_ (i := 16) (N := some 28) (v := ?_) (a' := ?_) #[true, true, true, false, false, true, true, true, true, true, false, false, false, true, true, true, true, false, false, false, false, false] rfl rfl (any_of HT_.out (by kernel_rfl)) (fun _ _ _ h => h) (Or.inl ⟨by rfl, ?_⟩) ?_ ?_
      rotate_left
      · intro w'; go_simp; with_reducible rfl
      rotate_left
      · simp only [Act.put, List.setIfInBounds_toArray, List.set_cons_zero, List.set_cons_succ, i64_w, i32_w]; rfl
      refine pure_ (i := 17) (N := some 29) (v := ?_) (a' := ?_) #[true, true, true, false, false, true, true, true, true, true, false, false, false, true, true, true, true, true, false, false, false, false] rfl rfl (any_of HT_.out (by kernel_rfl)) (fun _ _ _ h => h) (Or.inl ⟨by rfl, ?_⟩) ?_ ?_
      rotate_left
      · intro w'; go_simp; with_reducible rfl
      rotate_left
      · simp only [Act.put, List.setIfInBounds_toArray, List.set_cons_zero, List.set_cons_succ, i64_w, i32_w]; rfl
      refine take_ (i := 3) (N := some 15) (v := ?_) (a' := ?_) #[true, true, true, true, false, true, true, true, true, true, false, false, false, true, true, true, true, true, false, false, false, false] rfl rfl (take_ofW HT_.out HW_.out (by kernel_rfl)) (fun _ _ _ h => h) (Or.inl ⟨by rfl, ?_⟩) hHeld ?_ ?_
      rotate_left
      · rintro w' ⟨s0, s1, s2, s3, s4, s5, s6, s7⟩; go_simp; with_reducible rfl
      rotate_left
      · simp only [Act.put, List.setIfInBounds_toArray, List.set_cons_zero, List.set_cons_succ, i64_w, i32_w]; rfl
      refine take_ (i := 10) (N := some 22) (v := ?_) (a' := ?_) #[true, true, true, true, false, true, true, true, true, true, true, false, false, true, true, true, true, true, false, false, false, false] rfl rfl (take_ofW HT_.out HW_.out (by kernel_rfl)) (fun _ _ _ h => h) (Or.inl ⟨by rfl, ?_⟩) hHeld ?_ ?_
      rotate_left
      · rintro w' ⟨s0, s1, s2, s3, s4, s5, s6, s7⟩; go_simp; with_reducible rfl
      rotate_left
      · simp only [Act.put, List.setIfInBounds_toArray, List.set_cons_zero, List.set_cons_succ, i64_w, i32_w]; rfl
      refine take_ (i := 18) (N := some 30) (v := ?_) (a' := ?_) #[true, true, true, true, false, true, true, true, true, true, true, false, false, true, true, true, true, true, true, false, false, false] rfl rfl (take_ofW HT_.out HW_.out (by kernel_rfl)) (fun _ _ _ h => h) (Or.inl ⟨by rfl, ?_⟩) hHeld ?_ ?_
      rotate_left
      · rintro w' ⟨s0, s1, s2, s3, s4, s5, s6, s7⟩; go_simp; with_reducible rfl
      rotate_left
      · simp only [Act.put, List.setIfInBounds_toArray, List.set_cons_zero, List.set_cons_succ, i64_w, i32_w]; rfl
      refine one_ (i := 4) (N := some 16) #[true, true, true, true, true, true, true, true, true, true, true, false, false, true, true, true, true, true, true, false, false, false] rfl rfl (one_of HT_.out (by kernel_rfl)) (by decide) (fun K hK => ?_)
      refine goes_ Try.func101 (by kernel_rfl) rfl #[.agg #[.string (rd_T39 l (atOf l n)).f0, .int .i64 (rd_T39 l (atOf l n)).f1, .string (rd_T39 l (atOf l n)).f2, .string (rd_T39 l (atOf l n)).f3, .int .i64 (rd_T39 l (atOf l n)).f4, .int .i64 (rd_T39 l (atOf l n)).f5, .string (rd_T39 l (atOf l n)).f6, .string (rd_T39 l (atOf l n)).f7]] (by rfl) rfl rfl (by (try simp only [List.map_toArray, List.map_cons, List.map_nil]); first | done | rfl) ?_
      refine (of_calls (rd_T39 l (atOf l n)) _).mono ?_
      rintro e w15 ⟨v16, rfl, ho, hb⟩
      refine ⟨_, rfl, ?_⟩
      have HO1 := Aside0.mk (Kd.R_lower ho HB.out.size)
      replace HB := Aside0.mk (below_then HB.out HB.out.size hb)
      clear ho hb
      refine hK.out _ _ ⟨((HB.out.cell (World.block_lt_of_cell? w _ X0.out)).trans X0.out), ((HB.out.cell (World.block_lt_of_cell? w _ X1.out)).trans X1.out), ((HB.out.cell (World.block_lt_of_cell? w _ X2.out)).trans X2.out), ((HB.out.cell (World.block_lt_of_cell? w _ X3.out)).trans X3.out), ((HB.out.cell (World.block_lt_of_cell? w _ X4.out)).trans X4.out), ((HB.out.cell (World.block_lt_of_cell? w _ X5.out)).trans X5.out), ((HB.out.cell (World.block_lt_of_cell? w _ X6.out)).trans X6.out), ((HB.out.cell (World.block_lt_of_cell? w _ X7.out)).trans X7.out)⟩ (fun hHeld => ?_)
      clear hK K
      refine norm_ (a' := ?_) ?_ ?_
      rotate_left
      · show Act.put _ (some 16) _ = _; simp only [Act.put, List.setIfInBounds_toArray, List.set_cons_zero, List.set_cons_succ, i64_w, i32_w]; rfl
      refine one_ (i := 11) (N := some 23) #[true, true, true, true, true, true, true, true, true, true, true, true, false, true, true, true, true, true, true, false, false, false] rfl rfl (one_of HT_.out (by kernel_rfl)) (by decide) (fun K hK => ?_)
      refine goes_ Try.func91 (by kernel_rfl) rfl #[.slice (some ad) l.length c, .string (rd_T39 l (atOf l n)).f6] (by rfl) rfl rfl (by (try simp only [List.map_toArray, List.map_cons, List.map_nil]); first | done | rfl) ?_
      refine (ih (rd_T39 l (atOf l n)).f6 _ (by omega) (Kd.C_below hr.out HB.out)).mono ?_
      rintro e w16 ⟨v23, rfl, ho, hb⟩
      refine ⟨_, rfl, ?_⟩
      have HO2 := Aside0.mk ho
      replace HO1 := Aside0.mk (Kd.R_below HO1.out hb)
      replace HB := Aside0.mk (below_then HB.out HB.out.size hb)
      clear ho hb
      obtain ⟨A23, c23, e23⟩ := Kd.R_slice HO2.out
      subst e23
      refine hK.out _ _ ⟨((HB.out.cell (World.block_lt_of_cell? w _ X0.out)).trans X0.out), ((HB.out.cell (World.block_lt_of_cell? w _ X1.out)).trans X1.out), ((HB.out.cell (World.block_lt_of_cell? w _ X2.out)).trans X2.out), ((HB.out.cell (World.block_lt_of_cell? w _ X3.out)).trans X3.out), ((HB.out.cell (World.block_lt_of_cell? w _ X4.out)).trans X4.out), ((HB.out.cell (World.block_lt_of_cell? w _ X5.out)).trans X5.out), ((HB.out.cell (World.block_lt_of_cell? w _ X6.out)).trans X6.out), ((HB.out.cell (World.block_lt_of_cell? w _ X7.out)).trans X7.out)⟩ (fun hHeld => ?_)
      clear hK K
      refine norm_ (a' := ?_) ?_ ?_
      rotate_left
      · show Act.put _ (some 23) _ = _; simp only [Act.put, List.setIfInBounds_toArray, List.set_cons_zero, List.set_cons_succ, i64_w, i32_w]; rfl
      refine one_ (i := 12) (N := some 24) #[true, true, true, true, true, true, true, true, true, true, true, true, true, true, true, true, true, true, true, false, false, false] rfl rfl (one_of HT_.out (by kernel_rfl)) (by decide) (fun K hK => ?_)
      refine goes_ Try.func100 (by kernel_rfl) rfl #[v16, .slice A23 (slt l d (rd_T39 l (atOf l n)).f6).length c23] (by rfl) rfl rfl (by (try simp only [List.map_toArray, List.map_cons, List.map_nil]); first | done | rfl) ?_
      refine (both_calls (slotsOf (rd_T39 l (atOf l n))) (slt l d (rd_T39 l (atOf l n)).f6) (by have := slt_len l d (rd_T39 l (atOf l n)).f6; have := slotsOf_len (rd_T39 l (atOf l n)); have := hpow; omega) w.heap.size v16 A23 c23 _ HB.out.size HO1.out (Kd.R_reads' HO2.out).2.2).mono ?_
      rintro e w17 ⟨v24, rfl, ho, hb⟩
      refine ⟨_, rfl, ?_⟩
      have HO3 := Aside0.mk ho
      replace HB := Aside0.mk (below_then HB.out HB.out.size hb)
      clear ho hb HO1 HO2
      refine hK.out _ _ ⟨((HB.out.cell (World.block_lt_of_cell? w _ X0.out)).trans X0.out), ((HB.out.cell (World.block_lt_of_cell? w _ X1.out)).trans X1.out), ((HB.out.cell (World.block_lt_of_cell? w _ X2.out)).trans X2.out), ((HB.out.cell (World.block_lt_of_cell? w _ X3.out)).trans X3.out), ((HB.out.cell (World.block_lt_of_cell? w _ X4.out)).trans X4.out), ((HB.out.cell (World.block_lt_of_cell? w _ X5.out)).trans X5.out), ((HB.out.cell (World.block_lt_of_cell? w _ X6.out)).trans X6.out), ((HB.out.cell (World.block_lt_of_cell? w _ X7.out)).trans X7.out)⟩ (fun hHeld => ?_)
      clear hK K
      refine norm_ (a' := ?_) ?_ ?_
      rotate_left
      · show Act.put _ (some 24) _ = _; simp only [Act.put, List.setIfInBounds_toArray, List.set_cons_zero, List.set_cons_succ, i64_w, i32_w]; rfl
      refine one_ (i := 19) (N := some 31) #[true, true, true, true, true, true, true, true, true, true, true, true, true, true, true, true, true, true, true, true, false, false] rfl rfl (one_of HT_.out (by kernel_rfl)) (by decide) (fun K hK => ?_)
      refine goes_ Try.func91 (by kernel_rfl) rfl #[.slice (some ad) l.length c, .string (rd_T39 l (atOf l n)).f7] (by rfl) rfl rfl (by (try simp only [List.map_toArray, List.map_cons, List.map_nil]); first | done | rfl) ?_
      refine (ih (rd_T39 l (atOf l n)).f7 _ (by omega) (Kd.C_below hr.out HB.out)).mono ?_
      rintro e w18 ⟨v31, rfl, ho, hb⟩
      refine ⟨_, rfl, ?_⟩
      have HO2 := Aside0.mk ho
      replace HO3 := Aside0.mk (Kd.R_below HO3.out hb)
      replace HB := Aside0.mk (below_then HB.out HB.out.size hb)
      clear ho hb
      obtain ⟨A31, c31, e31⟩ := Kd.R_slice HO2.out
      subst e31
      refine hK.out _ _ ⟨((HB.out.cell (World.block_lt_of_cell? w _ X0.out)).trans X0.out), ((HB.out.cell (World.block_lt_of_cell? w _ X1.out)).trans X1.out), ((HB.out.cell (World.block_lt_of_cell? w _ X2.out)).trans X2.out), ((HB.out.cell (World.block_lt_of_cell? w _ X3.out)).trans X3.out), ((HB.out.cell (World.block_lt_of_cell? w _ X4.out)).trans X4.out), ((HB.out.cell (World.block_lt_of_cell? w _ X5.out)).trans X5.out), ((HB.out.cell (World.block_lt_of_cell? w _ X6.out)).trans X6.out), ((HB.out.cell (World.block_lt_of_cell? w _ X7.out)).trans X7.out)⟩ (fun hHeld => ?_)
      clear hK K
      refine norm_ (a' := ?_) ?_ ?_
      rotate_left
      · show Act.put _ (some 31) _ = _; simp only [Act.put, List.setIfInBounds_toArray, List.set_cons_zero, List.set_cons_succ, i64_w, i32_w]; rfl
      refine one_ (i := 20) (N := some 32) #[true, true, true, true, true, true, true, true, true, true, true, true, true, true, true, true, true, true, true, true, true, false] rfl rfl (one_of HT_.out (by kernel_rfl)) (by decide) (fun K hK => ?_)
      refine goes_ Try.func100 (by kernel_rfl) rfl #[v24, .slice A31 (slt l d (rd_T39 l (atOf l n)).f7).length c31] (by rfl) rfl rfl (by (try simp only [List.map_toArray, List.map_cons, List.map_nil]); first | done | rfl) ?_
      refine (both_calls (both (slotsOf (rd_T39 l (atOf l n))) (slt l d (rd_T39 l (atOf l n)).f6)) (slt l d (rd_T39 l (atOf l n)).f7) (by have := both_len (slt l d (rd_T39 l (atOf l n)).f6) (slotsOf (rd_T39 l (atOf l n))); have := slt_len l d (rd_T39 l (atOf l n)).f6; have := slt_len l d (rd_T39 l (atOf l n)).f7; have := slotsOf_len (rd_T39 l (atOf l n)); have := hpow; omega) w.heap.size v24 A31 c31 _ HB.out.size HO3.out (Kd.R_reads' HO2.out).2.2).mono ?_
      rintro e w19 ⟨v32, rfl, ho, hb⟩
      refine ⟨_, rfl, ?_⟩
      have HO4 := Aside0.mk ho
      replace HB := Aside0.mk (below_then HB.out HB.out.size hb)
      clear ho hb HO3 HO2
      refine hK.out _ _ ⟨((HB.out.cell (World.block_lt_of_cell? w _ X0.out)).trans X0.out), ((HB.out.cell (World.block_lt_of_cell? w _ X1.out)).trans X1.out), ((HB.out.cell (World.block_lt_of_cell? w _ X2.out)).trans X2.out), ((HB.out.cell (World.block_lt_of_cell? w _ X3.out)).trans X3.out), ((HB.out.cell (World.block_lt_of_cell? w _ X4.out)).trans X4.out), ((HB.out.cell (World.block_lt_of_cell? w _ X5.out)).trans X5.out), ((HB.out.cell (World.block_lt_of_cell? w _ X6.out)).trans X6.out), ((HB.out.cell (World.block_lt_of_cell? w _ X7.out)).trans X7.out)⟩ (fun hHeld => ?_)
      clear hK K
      refine norm_ (a' := ?_) ?_ ?_
      rotate_left
      · show Act.put _ (some 32) _ = _; simp only [Act.put, List.setIfInBounds_toArray, List.set_cons_zero, List.set_cons_succ, i64_w, i32_w]; rfl
      refine pure_ (i := 21) (N := some 4) (v := ?_) (a' := ?_) #[true, true, true, true, true, true, true, true, true, true, true, true, true, true, true, true, true, true, true, true, true, true] rfl rfl (any_of HT_.out (by kernel_rfl)) (fun _ _ _ h => h) (Or.inl ⟨by rfl, ?_⟩) ?_ ?_
      rotate_left
      · intro w'; go_simp; with_reducible rfl
      rotate_left
      · simp only [Act.put, List.setIfInBounds_toArray, List.set_cons_zero, List.set_cons_succ, i64_w, i32_w]; rfl
      refine done_ (done_of HT_.out (by kernel_rfl)) ?_
      try go_wp2
      go_ret
      exact ⟨_, rfl, by rw [HSL.out]; exact HO4.out, HB.out⟩
def spec_RecSlots.f (_k : Nat) (l : List S39) (n : ByteArray) : Option (List ByteArray) := some (slotsAt l n)
theorem spec_RecSlots.mono : ∀ a0 a1 k, LeO (spec_RecSlots.f k a0 a1) (spec_RecSlots.f (k + 1) a0 a1) := fun _ _ _ => LeO.refl _
set_option maxHeartbeats 8000000 in
set_option maxRecDepth 100000 in
theorem spec_RecSlots.calls (k : Nat) (A0 : Option Addr) (c0 : Nat) (l : List (S39)) (n : ByteArray) (r : List ByteArray) (w : World) (hr0 : Kd.C k39 w A0 l.length l) (hc0 : l.length ≤ c0) (h : spec_RecSlots.f k l n = some r) :
    Calls Try.prog 59 #[.slice A0 l.length c0, .string n] w fun e w' => ∃ v0_ : Value, e = .returned (v0_) ∧ Kd.R Kd.string 9 w' w.heap.size (fun _ => True) v0_ r ∧ Below w.heap.size w w' := by
  obtain rfl := Option.some.inj h
  clear h
  have hr := Aside0.mk hr0
  have hc := Aside0.mk hc0
  have HB := Aside0.mk (Below.refl w.heap.size w)
  clear hr0 hc0
  cases hok : recOk l with
  | false =>
    have HK := Aside0.mk hok
    have HE : Aside0 (slotsAt l n = []) := ⟨by unfold slotsAt; rw [hok]; rfl⟩
    clear hok
    go_enter Try.func59, Try.ntmps59
    go_wp2_with (first | (go_at_call 24; refine (spec_RecOk.calls 44 _ _ l _ _ hr.out hc.out (spec_ok l 44 (Nat.le_refl _))).mono ?_; rw [HK.out]; rintro e w1 ⟨rfl, hb⟩; replace HB := Aside0.mk (below_then HB.out HB.out.size hb); clear hb) | ((with_reducible refine gate_dst (N := 8) rfl ?_); refine Kd.R_lit Kd.string _ 9 ?hg (N := 8) ?hd (xs := ([] : List ByteArray)) (inner := []) (ok := fun _ => True) (okp := fun _ => True) ?hr ?hp (fun _ hk => hk) trivial (Below.refl _ _) (Nat.le_refl _) (by simp) ?_; (case hd => rfl); (case hg => rfl); (case hr => first | (go_simp; done) | (go_simp; rfl)); (case hp => exact (Reps.none _ _)); intro v1 w2 ho hb hgr hnew; have HO := Aside0.mk (Kd.R_lower ho HB.out.size); replace HB := Aside0.mk (below_then HB.out HB.out.size hb); clear ho hb hgr hnew))
    go_ret
    exact ⟨_, rfl, by rw [HE.out]; exact HO.out, HB.out⟩
  | true =>
    have HK := Aside0.mk hok
    have HE : Aside0 (slotsAt l n = slt l 12 n) := ⟨by unfold slotsAt; rw [if_pos hok]⟩
    clear hok
    go_enter Try.func59, Try.ntmps59
    go_wp2_with (first | (go_at_call 24; refine (spec_RecOk.calls 44 _ _ l _ _ hr.out hc.out (spec_ok l 44 (Nat.le_refl _))).mono ?_; rw [HK.out]; rintro e w1 ⟨rfl, hb⟩; replace HB := Aside0.mk (below_then HB.out HB.out.size hb); clear hb) | (go_at_call 91; refine (slots_calls l HK.out A0 c0 hc.out 12 n _ ⟨rk_le l HK.out n, by omega⟩ (Kd.C_below hr.out HB.out)).mono ?_; rintro e w' ⟨v', rfl, ho', hb'⟩; have HO := Aside0.mk (Kd.R_lower ho' HB.out.size); replace HB := Aside0.mk (below_then HB.out HB.out.size hb'); clear ho' hb'))
    go_ret
    exact ⟨_, rfl, by rw [HE.out]; exact HO.out, HB.out⟩
end Go.Proofs.Ytdkologncoofdaa.P
