/- Part 6 of the texts that the law FnBound reaches: contracts of the functions and plain lemmas. -/
import Derived.Test.YtdkologncoofdaaCFnBound2
import Derived.Test.YtdkologncoofdaaCFnBound3
import Derived.Test.YtdkologncoofdaaCFnBound4
import Derived.Test.YtdkologncoofdaaCFnBound5
-- Px89
namespace Go.Proofs.Ytdkologncoofdaa.P
open Go.RowKit Go.Proofs.YtdkologncoofdaaW.PrintWords Go.Proofs.YtdkologncoofdaaW.PrintLast Go.Proofs.YtdkologncoofdaaW.PrintMore
attribute [local go_sem] max2_int min2_int max_two min_two max_three min_three max_four min_four   -- for this text's walks alone
set_option linter.unusedVariables false
set_option linter.unusedSimpArgs false

/-! ### laws_FnBound: function 17 -/
mutual
def laws_FnBound.j0 : Nat → List (S39) → ByteArray → Int → List ByteArray → Bool → Option (Bool)
 | 0, _, _, _, _, _ => none
 | k + 1, x3, x4, x5, x6, x39 => if x39 = true then (some false) else (laws_FnBound.l0 k x3 x4 x5 x6 0 (([] : List ByteArray)) x4 0)
def laws_FnBound.l0 : Nat → List (S39) → ByteArray → Int → List ByteArray → Int → List ByteArray → ByteArray → Int → Option (Bool)
 | 0, _, _, _, _, _, _, _, _ => none
 | k + 1, x3, x4, x5, x6, x7, x8, x9, x10 => if x10 < (x3.length : Int) then ((spec_RecOk.f k x3).bind fun t999 => (laws_FnBound.j2 k x3 x4 x5 x6 x7 x8 x9 x10 t999)) else (laws_FnBound.j2 k x3 x4 x5 x6 x7 x8 x9 x10 false)
def laws_FnBound.j2 : Nat → List (S39) → ByteArray → Int → List ByteArray → Int → List ByteArray → ByteArray → Int → Bool → Option (Bool)
 | 0, _, _, _, _, _, _, _, _, _ => none
 | k + 1, x3, x4, x5, x6, x7, x8, x9, x10, x49 => if x49 = true then (laws_FnBound.l1 k x3 x4 x5 x6 x7 x8 x9 x10 0) else (laws_FnBound.l2 k x3 x4 x5 x6 x7 x8 0)
def laws_FnBound.l1 : Nat → List (S39) → ByteArray → Int → List ByteArray → Int → List ByteArray → ByteArray → Int → Int → Option (Bool)
 | 0, _, _, _, _, _, _, _, _, _ => none
 | k + 1, x3, x4, x5, x6, x7, x8, x9, x10, x11 => if x11 < (x3.length : Int) then (if 0 ≤ x11 then (if ((rd_T39 x3 x11).f0).toList = x9.toList then ((impl_RecBound.f k x3 ((rd_T39 x3 x11).f6)).bind fun t1004 => ((impl_RecBound.f k x3 ((rd_T39 x3 x11).f7)).bind fun t1006 => (if t1004 > t1006 then (laws_FnBound.l0 k x3 x4 x5 x6 (wrap64 (x7 + ((rd_T39 x3 x11).f5))) x8 ((rd_T39 x3 x11).f6) (wrap64 (x10 + 1))) else (laws_FnBound.l0 k x3 x4 x5 x6 (wrap64 (x7 + ((rd_T39 x3 x11).f5))) x8 ((rd_T39 x3 x11).f7) (wrap64 (x10 + 1)))))) else (laws_FnBound.l1 k x3 x4 x5 x6 x7 x8 x9 x10 (wrap64 (x11 + 1)))) else (none)) else (laws_FnBound.l0 k x3 x4 x5 x6 x7 x8 x9 (wrap64 (x10 + 1)))
def laws_FnBound.l2 : Nat → List (S39) → ByteArray → Int → List ByteArray → Int → List ByteArray → Int → Option (Bool)
 | 0, _, _, _, _, _, _, _ => none
 | k + 1, x3, x4, x5, x6, x7, x8, x12 => if x12 < (x3.length : Int) then ((spec_RecOk.f k x3).bind fun t1008 => (laws_FnBound.j5 k x3 x4 x5 x6 x7 x8 x12 t1008)) else (laws_FnBound.j5 k x3 x4 x5 x6 x7 x8 x12 false)
def laws_FnBound.j5 : Nat → List (S39) → ByteArray → Int → List ByteArray → Int → List ByteArray → Int → Bool → Option (Bool)
 | 0, _, _, _, _, _, _, _, _ => none
 | k + 1, x3, x4, x5, x6, x7, x8, x12, x104 => if x104 = true then (if 0 ≤ x12 then (if x12 < (x3.length : Int) then ((laws_wReach.f k x3 x4 ((rd_T39 x3 x12).f0)).bind fun t1012 => (if t1012 = true then (if x8.length < 8796093022208 then ((some (x8 ++ [(rd_T39 x3 x12).f2] : List ByteArray)).bind fun y1014 => (if ((rd_T39 x3 x12).f1) = 2 then (if y1014.length < 8796093022208 then (laws_FnBound.l2 k x3 x4 x5 x6 x7 (y1014 ++ [(rd_T39 x3 x12).f3]) (wrap64 (x12 + 1))) else (none)) else (laws_FnBound.l2 k x3 x4 x5 x6 x7 y1014 (wrap64 (x12 + 1))))) else (none)) else (laws_FnBound.l2 k x3 x4 x5 x6 x7 x8 (wrap64 (x12 + 1))))) else (none)) else (none)) else (if x7 = x5 then ((laws_wAll.f k x8 x6).bind fun t1009 => (if t1009 = true then ((laws_wAll.f k x6 x8).bind fun t1010 => (some t1010)) else (some false))) else (some false))
end
def laws_FnBound.f (k : Nat) (l0 : List Int) : Option (Bool) := if (l0.length : Int) > 1048576 then (some true) else ((spec_DrawRecBound.f k l0).bind fun bt983 => ((impl_RecBound.f k bt983.1 bt983.2).bind fun t987 => ((impl_RecSlots.f k bt983.1 bt983.2).bind fun t988 => ((spec_RecBound.f k bt983.1 bt983.2).bind fun t991 => (if t987 = t991 then ((spec_RecSlots.f k bt983.1 bt983.2).bind fun t992 => ((laws_wTexts.f k t988 t992).bind fun t995 => (laws_FnBound.j0 k bt983.1 bt983.2 t987 t988 (!t995)))) else (laws_FnBound.j0 k bt983.1 bt983.2 t987 t988 true))))))
theorem laws_FnBound.mono_l : ∀ k, (∀ y0 y1 y2 y3 y4, LeO (laws_FnBound.j0 k y0 y1 y2 y3 y4) (laws_FnBound.j0 (k + 1) y0 y1 y2 y3 y4)) ∧ (∀ y0 y1 y2 y3 y4 y5 y6 y7, LeO (laws_FnBound.l0 k y0 y1 y2 y3 y4 y5 y6 y7) (laws_FnBound.l0 (k + 1) y0 y1 y2 y3 y4 y5 y6 y7)) ∧ (∀ y0 y1 y2 y3 y4 y5 y6 y7 y8, LeO (laws_FnBound.j2 k y0 y1 y2 y3 y4 y5 y6 y7 y8) (laws_FnBound.j2 (k + 1) y0 y1 y2 y3 y4 y5 y6 y7 y8)) ∧ (∀ y0 y1 y2 y3 y4 y5 y6 y7 y8, LeO (laws_FnBound.l1 k y0 y1 y2 y3 y4 y5 y6 y7 y8) (laws_FnBound.l1 (k + 1) y0 y1 y2 y3 y4 y5 y6 y7 y8)) ∧ (∀ y0 y1 y2 y3 y4 y5 y6, LeO (laws_FnBound.l2 k y0 y1 y2 y3 y4 y5 y6) (laws_FnBound.l2 (k + 1) y0 y1 y2 y3 y4 y5 y6)) ∧ (∀ y0 y1 y2 y3 y4 y5 y6 y7, LeO (laws_FnBound.j5 k y0 y1 y2 y3 y4 y5 y6 y7) (laws_FnBound.j5 (k + 1) y0 y1 y2 y3 y4 y5 y6 y7))
 | 0 => ⟨fun _ _ _ _ _ r h => by simp [laws_FnBound.j0] at h, fun _ _ _ _ _ _ _ _ r h => by simp [laws_FnBound.l0] at h, fun _ _ _ _ _ _ _ _ _ r h => by simp [laws_FnBound.j2] at h, fun _ _ _ _ _ _ _ _ _ r h => by simp [laws_FnBound.l1] at h, fun _ _ _ _ _ _ _ r h => by simp [laws_FnBound.l2] at h, fun _ _ _ _ _ _ _ _ r h => by simp [laws_FnBound.j5] at h⟩
 | k + 1 => by
  obtain ⟨ih0, ih1, ih2, ih3, ih4, ih5⟩ := laws_FnBound.mono_l k
  refine ⟨?_, ?_, ?_, ?_, ?_, ?_⟩
  ·intro y0 y1 y2 y3 y4
   unfold laws_FnBound.j0
   repeat' first
   | (with_reducible exact ih0 _ _ _ _ _)
   | (with_reducible exact ih1 _ _ _ _ _ _ _ _)
   | (with_reducible exact ih2 _ _ _ _ _ _ _ _ _)
   | (with_reducible exact ih3 _ _ _ _ _ _ _ _ _)
   | (with_reducible exact ih4 _ _ _ _ _ _ _)
   | (with_reducible exact ih5 _ _ _ _ _ _ _ _)
   | (with_reducible exact impl_RecBound.mono _ _ _)
   | (with_reducible exact impl_RecSlots.mono _ _ _)
   | (with_reducible exact laws_wAll.mono _ _ _)
   | (with_reducible exact laws_wReach.mono _ _ _ _)
   | (with_reducible exact laws_wTexts.mono _ _ _)
   | (with_reducible exact spec_DrawRecBound.mono _ _)
   | (with_reducible exact spec_RecBound.mono _ _ _)
   | (with_reducible exact spec_RecOk.mono _ _)
   | (with_reducible exact spec_RecSlots.mono _ _ _)
   | (with_reducible exact LeO.refl _)
   | (with_reducible exact LeO.none _)
   | (with_reducible refine LeO.ite ?_ ?_)
   | (with_reducible refine LeO.bind ?_ (fun _ => ?_))
   | exact ih0 _ _ _ _ _
   | exact ih1 _ _ _ _ _ _ _ _
   | exact ih2 _ _ _ _ _ _ _ _ _
   | exact ih3 _ _ _ _ _ _ _ _ _
   | exact ih4 _ _ _ _ _ _ _
   | exact ih5 _ _ _ _ _ _ _ _
   | exact impl_RecBound.mono _ _ _
   | exact impl_RecSlots.mono _ _ _
   | exact laws_wAll.mono _ _ _
   | exact laws_wReach.mono _ _ _ _
   | exact laws_wTexts.mono _ _ _
   | exact spec_DrawRecBound.mono _ _
   | exact spec_RecBound.mono _ _ _
   | exact spec_RecOk.mono _ _
   | exact spec_RecSlots.mono _ _ _
   | exact LeO.none _
   | refine LeO.ite ?_ ?_
   | refine LeO.bind ?_ (fun _ => ?_)
  ·intro y0 y1 y2 y3 y4 y5 y6 y7
   unfold laws_FnBound.l0
   repeat' first
   | (with_reducible exact ih0 _ _ _ _ _)
   | (with_reducible exact ih1 _ _ _ _ _ _ _ _)
   | (with_reducible exact ih2 _ _ _ _ _ _ _ _ _)
   | (with_reducible exact ih3 _ _ _ _ _ _ _ _ _)
   | (with_reducible exact ih4 _ _ _ _ _ _ _)
   | (with_reducible exact ih5 _ _ _ _ _ _ _ _)
   | (with_reducible exact impl_RecBound.mono _ _ _)
   | (with_reducible exact impl_RecSlots.mono _ _ _)
   | (with_reducible exact laws_wAll.mono _ _ _)
   | (with_reducible exact laws_wReach.mono _ _ _ _)
   | (with_reducible exact laws_wTexts.mono _ _ _)
   | (with_reducible exact spec_DrawRecBound.mono _ _)
   | (with_reducible exact spec_RecBound.mono _ _ _)
   | (with_reducible exact spec_RecOk.mono _ _)
   | (with_reducible exact spec_RecSlots.mono _ _ _)
   | (with_reducible exact LeO.refl _)
   | (with_reducible exact LeO.none _)
   | (with_reducible refine LeO.ite ?_ ?_)
   | (with_reducible refine LeO.bind ?_ (fun _ => ?_))
   | exact ih0 _ _ _ _ _
   | exact ih1 _ _ _ _ _ _ _ _
   | exact ih2 _ _ _ _ _ _ _ _ _
   | exact ih3 _ _ _ _ _ _ _ _ _
   | exact ih4 _ _ _ _ _ _ _
   | exact ih5 _ _ _ _ _ _ _ _
   | exact impl_RecBound.mono _ _ _
   | exact impl_RecSlots.mono _ _ _
   | exact laws_wAll.mono _ _ _
   | exact laws_wReach.mono _ _ _ _
   | exact laws_wTexts.mono _ _ _
   | exact spec_DrawRecBound.mono _ _
   | exact spec_RecBound.mono _ _ _
   | exact spec_RecOk.mono _ _
   | exact spec_RecSlots.mono _ _ _
   | exact LeO.none _
   | refine LeO.ite ?_ ?_
   | refine LeO.bind ?_ (fun _ => ?_)
  ·intro y0 y1 y2 y3 y4 y5 y6 y7 y8
   unfold laws_FnBound.j2
   repeat' first
   | (with_reducible exact ih0 _ _ _ _ _)
   | (with_reducible exact ih1 _ _ _ _ _ _ _ _)
   | (with_reducible exact ih2 _ _ _ _ _ _ _ _ _)
   | (with_reducible exact ih3 _ _ _ _ _ _ _ _ _)
   | (with_reducible exact ih4 _ _ _ _ _ _ _)
   | (with_reducible exact ih5 _ _ _ _ _ _ _ _)
   | (with_reducible exact impl_RecBound.mono _ _ _)
   | (with_reducible exact impl_RecSlots.mono _ _ _)
   | (with_reducible exact laws_wAll.mono _ _ _)
   | (with_reducible exact laws_wReach.mono _ _ _ _)
   | (with_reducible exact laws_wTexts.mono _ _ _)
   | (with_reducible exact spec_DrawRecBound.mono _ _)
   | (with_reducible exact spec_RecBound.mono _ _ _)
   | (with_reducible exact spec_RecOk.mono _ _)
   | (with_reducible exact spec_RecSlots.mono _ _ _)
   | (with_reducible exact LeO.refl _)
   | (with_reducible exact LeO.none _)
   | (with_reducible refine LeO.ite ?_ ?_)
   | (with_reducible refine LeO.bind ?_ (fun _ => ?_))
   | exact ih0 _ _ _ _ _
   | exact ih1 _ _ _ _ _ _ _ _
   | exact ih2 _ _ _ _ _ _ _ _ _
   | exact ih3 _ _ _ _ _ _ _ _ _
   | exact ih4 _ _ _ _ _ _ _
   | exact ih5 _ _ _ _ _ _ _ _
   | exact impl_RecBound.mono _ _ _
   | exact impl_RecSlots.mono _ _ _
   | exact laws_wAll.mono _ _ _
   | exact laws_wReach.mono _ _ _ _
   | exact laws_wTexts.mono _ _ _
   | exact spec_DrawRecBound.mono _ _
   | exact spec_RecBound.mono _ _ _
   | exact spec_RecOk.mono _ _
   | exact spec_RecSlots.mono _ _ _
   | exact LeO.none _
   | refine LeO.ite ?_ ?_
   | refine LeO.bind ?_ (fun _ => ?_)
  ·intro y0 y1 y2 y3 y4 y5 y6 y7 y8
   unfold laws_FnBound.l1
   repeat' first
   | (with_reducible exact ih0 _ _ _ _ _)
   | (with_reducible exact ih1 _ _ _ _ _ _ _ _)
   | (with_reducible exact ih2 _ _ _ _ _ _ _ _ _)
   | (with_reducible exact ih3 _ _ _ _ _ _ _ _ _)
   | (with_reducible exact ih4 _ _ _ _ _ _ _)
   | (with_reducible exact ih5 _ _ _ _ _ _ _ _)
   | (with_reducible exact impl_RecBound.mono _ _ _)
   | (with_reducible exact impl_RecSlots.mono _ _ _)
   | (with_reducible exact laws_wAll.mono _ _ _)
   | (with_reducible exact laws_wReach.mono _ _ _ _)
   | (with_reducible exact laws_wTexts.mono _ _ _)
   | (with_reducible exact spec_DrawRecBound.mono _ _)
   | (with_reducible exact spec_RecBound.mono _ _ _)
   | (with_reducible exact spec_RecOk.mono _ _)
   | (with_reducible exact spec_RecSlots.mono _ _ _)
   | (with_reducible exact LeO.refl _)
   | (with_reducible exact LeO.none _)
   | (with_reducible refine LeO.ite ?_ ?_)
   | (with_reducible refine LeO.bind ?_ (fun _ => ?_))
   | exact ih0 _ _ _ _ _
   | exact ih1 _ _ _ _ _ _ _ _
   | exact ih2 _ _ _ _ _ _ _ _ _
   | exact ih3 _ _ _ _ _ _ _ _ _
   | exact ih4 _ _ _ _ _ _ _
   | exact ih5 _ _ _ _ _ _ _ _
   | exact impl_RecBound.mono _ _ _
   | exact impl_RecSlots.mono _ _ _
   | exact laws_wAll.mono _ _ _
   | exact laws_wReach.mono _ _ _ _
   | exact laws_wTexts.mono _ _ _
   | exact spec_DrawRecBound.mono _ _
   | exact spec_RecBound.mono _ _ _
   | exact spec_RecOk.mono _ _
   | exact spec_RecSlots.mono _ _ _
   | exact LeO.none _
   | refine LeO.ite ?_ ?_
   | refine LeO.bind ?_ (fun _ => ?_)
  ·intro y0 y1 y2 y3 y4 y5 y6
   unfold laws_FnBound.l2
   repeat' first
   | (with_reducible exact ih0 _ _ _ _ _)
   | (with_reducible exact ih1 _ _ _ _ _ _ _ _)
   | (with_reducible exact ih2 _ _ _ _ _ _ _ _ _)
   | (with_reducible exact ih3 _ _ _ _ _ _ _ _ _)
   | (with_reducible exact ih4 _ _ _ _ _ _ _)
   | (with_reducible exact ih5 _ _ _ _ _ _ _ _)
   | (with_reducible exact impl_RecBound.mono _ _ _)
   | (with_reducible exact impl_RecSlots.mono _ _ _)
   | (with_reducible exact laws_wAll.mono _ _ _)
   | (with_reducible exact laws_wReach.mono _ _ _ _)
   | (with_reducible exact laws_wTexts.mono _ _ _)
   | (with_reducible exact spec_DrawRecBound.mono _ _)
   | (with_reducible exact spec_RecBound.mono _ _ _)
   | (with_reducible exact spec_RecOk.mono _ _)
   | (with_reducible exact spec_RecSlots.mono _ _ _)
   | (with_reducible exact LeO.refl _)
   | (with_reducible exact LeO.none _)
   | (with_reducible refine LeO.ite ?_ ?_)
   | (with_reducible refine LeO.bind ?_ (fun _ => ?_))
   | exact ih0 _ _ _ _ _
   | exact ih1 _ _ _ _ _ _ _ _
   | exact ih2 _ _ _ _ _ _ _ _ _
   | exact ih3 _ _ _ _ _ _ _ _ _
   | exact ih4 _ _ _ _ _ _ _
   | exact ih5 _ _ _ _ _ _ _ _
   | exact impl_RecBound.mono _ _ _
   | exact impl_RecSlots.mono _ _ _
   | exact laws_wAll.mono _ _ _
   | exact laws_wReach.mono _ _ _ _
   | exact laws_wTexts.mono _ _ _
   | exact spec_DrawRecBound.mono _ _
   | exact spec_RecBound.mono _ _ _
   | exact spec_RecOk.mono _ _
   | exact spec_RecSlots.mono _ _ _
   | exact LeO.none _
   | refine LeO.ite ?_ ?_
   | refine LeO.bind ?_ (fun _ => ?_)
  ·intro y0 y1 y2 y3 y4 y5 y6 y7
   unfold laws_FnBound.j5
   repeat' first
   | (with_reducible exact ih0 _ _ _ _ _)
   | (with_reducible exact ih1 _ _ _ _ _ _ _ _)
   | (with_reducible exact ih2 _ _ _ _ _ _ _ _ _)
   | (with_reducible exact ih3 _ _ _ _ _ _ _ _ _)
   | (with_reducible exact ih4 _ _ _ _ _ _ _)
   | (with_reducible exact ih5 _ _ _ _ _ _ _ _)
   | (with_reducible exact impl_RecBound.mono _ _ _)
   | (with_reducible exact impl_RecSlots.mono _ _ _)
   | (with_reducible exact laws_wAll.mono _ _ _)
   | (with_reducible exact laws_wReach.mono _ _ _ _)
   | (with_reducible exact laws_wTexts.mono _ _ _)
   | (with_reducible exact spec_DrawRecBound.mono _ _)
   | (with_reducible exact spec_RecBound.mono _ _ _)
   | (with_reducible exact spec_RecOk.mono _ _)
   | (with_reducible exact spec_RecSlots.mono _ _ _)
   | (with_reducible exact LeO.refl _)
   | (with_reducible exact LeO.none _)
   | (with_reducible refine LeO.ite ?_ ?_)
   | (with_reducible refine LeO.bind ?_ (fun _ => ?_))
   | exact ih0 _ _ _ _ _
   | exact ih1 _ _ _ _ _ _ _ _
   | exact ih2 _ _ _ _ _ _ _ _ _
   | exact ih3 _ _ _ _ _ _ _ _ _
   | exact ih4 _ _ _ _ _ _ _
   | exact ih5 _ _ _ _ _ _ _ _
   | exact impl_RecBound.mono _ _ _
   | exact impl_RecSlots.mono _ _ _
   | exact laws_wAll.mono _ _ _
   | exact laws_wReach.mono _ _ _ _
   | exact laws_wTexts.mono _ _ _
   | exact spec_DrawRecBound.mono _ _
   | exact spec_RecBound.mono _ _ _
   | exact spec_RecOk.mono _ _
   | exact spec_RecSlots.mono _ _ _
   | exact LeO.none _
   | refine LeO.ite ?_ ?_
   | refine LeO.bind ?_ (fun _ => ?_)
theorem laws_FnBound.mono : ∀ a0 k, LeO (laws_FnBound.f k a0) (laws_FnBound.f (k + 1) a0) := by
 intro a0 k
 obtain ⟨ih0, ih1, ih2, ih3, ih4, ih5⟩ := laws_FnBound.mono_l k
 unfold laws_FnBound.f
 repeat' first
   | (with_reducible exact ih0 _ _ _ _ _)
   | (with_reducible exact ih1 _ _ _ _ _ _ _ _)
   | (with_reducible exact ih2 _ _ _ _ _ _ _ _ _)
   | (with_reducible exact ih3 _ _ _ _ _ _ _ _ _)
   | (with_reducible exact ih4 _ _ _ _ _ _ _)
   | (with_reducible exact ih5 _ _ _ _ _ _ _ _)
   | (with_reducible exact impl_RecBound.mono _ _ _)
   | (with_reducible exact impl_RecSlots.mono _ _ _)
   | (with_reducible exact laws_wAll.mono _ _ _)
   | (with_reducible exact laws_wReach.mono _ _ _ _)
   | (with_reducible exact laws_wTexts.mono _ _ _)
   | (with_reducible exact spec_DrawRecBound.mono _ _)
   | (with_reducible exact spec_RecBound.mono _ _ _)
   | (with_reducible exact spec_RecOk.mono _ _)
   | (with_reducible exact spec_RecSlots.mono _ _ _)
   | (with_reducible exact LeO.refl _)
   | (with_reducible exact LeO.none _)
   | (with_reducible refine LeO.ite ?_ ?_)
   | (with_reducible refine LeO.bind ?_ (fun _ => ?_))
   | exact ih0 _ _ _ _ _
   | exact ih1 _ _ _ _ _ _ _ _
   | exact ih2 _ _ _ _ _ _ _ _ _
   | exact ih3 _ _ _ _ _ _ _ _ _
   | exact ih4 _ _ _ _ _ _ _
   | exact ih5 _ _ _ _ _ _ _ _
   | exact impl_RecBound.mono _ _ _
   | exact impl_RecSlots.mono _ _ _
   | exact laws_wAll.mono _ _ _
   | exact laws_wReach.mono _ _ _ _
   | exact laws_wTexts.mono _ _ _
   | exact spec_DrawRecBound.mono _ _
   | exact spec_RecBound.mono _ _ _
   | exact spec_RecOk.mono _ _
   | exact spec_RecSlots.mono _ _ _
   | exact LeO.none _
   | refine LeO.ite ?_ ?_
   | refine LeO.bind ?_ (fun _ => ?_)
def laws_FnBound.T20 : Bool × List (List Nat × List Nat) := (true, [([], []), ([], []), ([], []), ([1, 2], [1, 2]), ([3], [3]), ([4], [4]), ([0, 5], [0, 5]), ([], []), ([], []), ([], []), ([8, 9], [8, 9]), ([10], [10]), ([11], [11]), ([7, 12, 6], [7, 12]), ([6, 13], [6, 13])])
def laws_FnBound.B20 : List Nat := [0, 0, 0, 6, 14, 30, 63, 0, 0, 0, 768, 1792, 3840, 8191, 16383]
theorem laws_FnBound.tab20 : rtab .any (opsOf Try.f17 20) = laws_FnBound.T20 := by kernel_rfl
theorem laws_FnBound.bits20 : waitsOk laws_FnBound.T20.2 laws_FnBound.B20 = true := by kernel_rfl
set_option maxHeartbeats 8000000 in
set_option maxRecDepth 100000 in
theorem laws_FnBound.calls (k : Nat) (A0 : Option Addr) (c0 : Nat) (l0 : List Int) (r : Bool) (w : World) (hr0 : Kd.C (Kd.int .u8) w A0 l0.length l0) (hc0 : l0.length ≤ c0) (h : laws_FnBound.f k l0 = some r) :
  Calls Try.prog 17 #[.slice A0 l0.length c0] w fun e w' => e = .returned (.bool r) ∧ Below w.heap.size w w' := by
 have HR0 := Aside0.mk hr0
 have HC0 := Aside0.mk hc0
 clear hr0 hc0
 have HB := Aside0.mk (Below.refl w.heap.size w)
 have H : (if (l0.length : Int) > 1048576 then (some true) else ((spec_DrawRecBound.f k l0).bind fun bt983 => ((impl_RecBound.f k bt983.1 bt983.2).bind fun t987 => ((impl_RecSlots.f k bt983.1 bt983.2).bind fun t988 => ((spec_RecBound.f k bt983.1 bt983.2).bind fun t991 => (if t987 = t991 then ((spec_RecSlots.f k bt983.1 bt983.2).bind fun t992 => ((laws_wTexts.f k t988 t992).bind fun t995 => (laws_FnBound.j0 k bt983.1 bt983.2 t987 t988 (!t995)))) else (laws_FnBound.j0 k bt983.1 bt983.2 t987 t988 true))))))) = some r := h
 clear h
 by_cases c2 : (l0.length : Int) > 1048576
 ·rw [if_pos c2] at H
  have c2b0 : decide (1048576 < (l0.length : Int)) = true := decide_eq_true c2
  have c2b1 : decide (1048576 < l0.length) = true := decide_eq_true (by omega)
  clear c2
  obtain rfl := Option.some.inj H
  go_enter Try.func17, Try.ntmps17
  go_wp2
  go_ret
  exact ⟨exq, bw HB.out⟩
 ·rw [if_neg c2] at H
  have c2b0 : decide (1048576 < (l0.length : Int)) = false := decide_eq_false c2
  have c2b1 : decide (1048576 < l0.length) = false := decide_eq_false (by omega)
  clear c2
  replace H := Option.bind_eq_some_iff.mp H
  obtain ⟨⟨t983, t984⟩, A30, H⟩ := H
  replace H : ((impl_RecBound.f k t983 t984).bind fun t987 => ((impl_RecSlots.f k t983 t984).bind fun t988 => ((spec_RecBound.f k t983 t984).bind fun t991 => (if t987 = t991 then ((spec_RecSlots.f k t983 t984).bind fun t992 => ((laws_wTexts.f k t988 t992).bind fun t995 => (laws_FnBound.j0 k t983 t984 t987 t988 (!t995)))) else (laws_FnBound.j0 k t983 t984 t987 t988 true))))) = some r := H
  have A3 := Aside0.mk A30
  clear A30
  replace H := Option.bind_eq_some_iff.mp H
  obtain ⟨t987, A40, H⟩ := H
  replace H : ((impl_RecSlots.f k t983 t984).bind fun t988 => ((spec_RecBound.f k t983 t984).bind fun t991 => (if t987 = t991 then ((spec_RecSlots.f k t983 t984).bind fun t992 => ((laws_wTexts.f k t988 t992).bind fun t995 => (laws_FnBound.j0 k t983 t984 t987 t988 (!t995)))) else (laws_FnBound.j0 k t983 t984 t987 t988 true)))) = some r := H
  have A4 := Aside0.mk A40
  clear A40
  replace H := Option.bind_eq_some_iff.mp H
  obtain ⟨t988, A50, H⟩ := H
  replace H : ((spec_RecBound.f k t983 t984).bind fun t991 => (if t987 = t991 then ((spec_RecSlots.f k t983 t984).bind fun t992 => ((laws_wTexts.f k t988 t992).bind fun t995 => (laws_FnBound.j0 k t983 t984 t987 t988 (!t995)))) else (laws_FnBound.j0 k t983 t984 t987 t988 true))) = some r := H
  have A5 := Aside0.mk A50
  clear A50
  have HC6 := Aside0.mk H
  clear H
  go_enter Try.func17, Try.ntmps17
  go_upto_region 6 with (first | ((with_reducible refine gate_callee (f := 60) rfl ?_); refine goesL_ (some 18) rfl rfl Try.func60 (by kernel_rfl) rfl #[.slice A0 l0.length c0] rfl mxp ?_; (with_reducible refine (spec_DrawRecBound.calls k _ _ l0 t983 t984 _ ?side1 ?side2 A3.out).mono ?_); (case side1 => exact cx HR0.out); (case side2 => exact HC0.out); rintro e w7 ⟨v985, rfl, ho0, hb⟩; refine ⟨_, rfl, ?_⟩; have n0_ := Aside0.mk (Kd.R_lower ho0 (below_size (bw HB.out))); have n1_ := bs HB hb; clear HB; have HO986 := n0_; have HB := n1_; clear n0_ n1_; (try clear hb); (try clear hb2); (try clear hk); (try clear hi); (try clear ho0); obtain ⟨Ao8, co8, eo8⟩ := Kd.R_slice HO986.out; subst eo8) | ((with_reducible refine gate_callee (f := 26) rfl ?_); refine goesL_ (some 23) rfl rfl Try.func26 (by kernel_rfl) rfl #[.slice Ao8 t983.length co8, .string t984] rfl mxp ?_; (with_reducible refine (impl_RecBound.calls k _ _ t983 t984 t987 _ ?side1 ?side2 A4.out).mono ?_); (case side1 => exact cx (Kd.R_reads' HO986.out).2.2); (case side2 => exact (Kd.R_reads' HO986.out).2.1); rintro e w9 ⟨rfl, hb⟩; refine ⟨_, rfl, ?_⟩; have n0_ := Aside0.mk (Kd.R_below (rx HO986.out) hb); have n1_ := bs HB hb; clear HO986; clear HB; have HO986 := n0_; have HB := n1_; clear n0_ n1_; (try clear hb); (try clear hb2); (try clear hk); (try clear hi)) | ((with_reducible refine gate_callee (f := 30) rfl ?_); refine goesL_ (some 26) rfl rfl Try.func30 (by kernel_rfl) rfl #[.slice Ao8 t983.length co8, .string t984] rfl mxp ?_; (with_reducible refine (impl_RecSlots.calls k _ _ t983 t984 t988 _ ?side1 ?side2 A5.out).mono ?_); (case side1 => exact cx (Kd.R_reads' HO986.out).2.2); (case side2 => exact (Kd.R_reads' HO986.out).2.1); rintro e w10 ⟨v989, rfl, ho0, hb⟩; refine ⟨_, rfl, ?_⟩; have n0_ := Aside0.mk (Kd.R_below (rx HO986.out) hb); have n1_ := Aside0.mk (Kd.R_lower ho0 (below_size (bw HB.out))); have n2_ := bs HB hb; clear HO986; clear HB; have HO986 := n0_; have HO990 := n1_; have HB := n2_; clear n0_ n1_ n2_; (try clear hb); (try clear hb2); (try clear hk); (try clear hi); (try clear ho0)))
  (try simp only [Act.put, List.setIfInBounds_toArray, List.set_cons_zero, List.set_cons_succ])
  go_cut [39] (fun v39 wc => ∃ (kq : Nat) (x39_5 : Bool), v39 = .bool x39_5 ∧ Aside0 (laws_FnBound.j0 kq t983 t984 t987 t988 x39_5 = some r) ∧ Aside0 (kq ≤ k) ∧ Aside0 (Kd.R k39 39 wc w.heap.size (fun _ => True) (.slice Ao8 t983.length co8) t983) ∧ Aside0 (Kd.R Kd.string 9 wc w.heap.size (fun _ => True) v989 t988) ∧ Aside0 (Below w.heap.size w wc))
  case first =>
   have H := HC6.out
   clear HC6
   replace H := Option.bind_eq_some_iff.mp H
   obtain ⟨t991, A110, H⟩ := H
   replace H : (if t987 = t991 then ((spec_RecSlots.f k t983 t984).bind fun t992 => ((laws_wTexts.f k t988 t992).bind fun t995 => (laws_FnBound.j0 k t983 t984 t987 t988 (!t995)))) else (laws_FnBound.j0 k t983 t984 t987 t988 true)) = some r := H
   have A11 := Aside0.mk A110
   clear A110
   by_cases c12 : t987 = t991
   ·rw [if_pos c12] at H
    have c12b0 : (t987 == t991) = true := beq_iff_eq.mpr c12
    have c12b1 : (t987 != t991) = false := bne_eq_false_iff_eq.mpr c12
    clear c12
    (first | rw [c12b0] | (simp only [i64_w, i32_w]; rw [c12b0]) | skip)
    replace H := Option.bind_eq_some_iff.mp H
    obtain ⟨t992, A130, H⟩ := H
    replace H : ((laws_wTexts.f k t988 t992).bind fun t995 => (laws_FnBound.j0 k t983 t984 t987 t988 (!t995))) = some r := H
    have A13 := Aside0.mk A130
    clear A130
    replace H := Option.bind_eq_some_iff.mp H
    obtain ⟨t995, A140, H⟩ := H
    replace H : (laws_FnBound.j0 k t983 t984 t987 t988 (!t995)) = some r := H
    have A14 := Aside0.mk A140
    clear A140
    have H' := Aside0.mk H
    clear H
    go_wp2_with (first | ((with_reducible refine gate_callee (f := 40) rfl ?_); refine goesL_ (some 30) rfl rfl Try.func40 (by kernel_rfl) rfl #[.slice Ao8 t983.length co8, .string t984] rfl mxp ?_; (with_reducible refine (spec_RecBound.calls k _ _ t983 t984 t991 _ ?side1 ?side2 A11.out).mono ?_); (case side1 => exact cx (Kd.R_reads' HO986.out).2.2); (case side2 => exact (Kd.R_reads' HO986.out).2.1); rintro e w15 ⟨rfl, hb⟩; refine ⟨_, rfl, ?_⟩; have n0_ := Aside0.mk (Kd.R_below (rx HO986.out) hb); have n1_ := Aside0.mk (Kd.R_below (rx HO990.out) hb); have n2_ := bs HB hb; clear HO986; clear HO990; clear HB; have HO986 := n0_; have HO990 := n1_; have HB := n2_; clear n0_ n1_ n2_; (try clear hb); (try clear hb2); (try clear hk); (try clear hi)) | (go_at_call 59; (with_reducible refine (spec_RecSlots.calls k _ _ t983 t984 t992 _ ?side1 ?side2 A13.out).mono ?_); (case side1 => exact cx (Kd.R_reads' HO986.out).2.2); (case side2 => exact (Kd.R_reads' HO986.out).2.1); rintro e w16 ⟨v993, rfl, ho0, hb⟩; have n0_ := Aside0.mk (Kd.R_below (rx HO986.out) hb); have n1_ := Aside0.mk (Kd.R_elder' (rx HO990.out) (Kd.R_base ho0) hb); have n2_ := Aside0.mk (Kd.R_lower (Kd.R_new' ho0 (Kd.R_lt (rx HO990.out))) (below_size (bw HB.out))); have n3_ := bs HB hb; clear HO986; clear HO990; clear HB; have HO986 := n0_; have HO990 := n1_; have HO994 := n2_; have HB := n3_; clear n0_ n1_ n2_ n3_; (try clear hb); (try clear hb2); (try clear hk); (try clear hi); (try clear ho0); obtain ⟨Ao17, co17, eo17⟩ := Kd.R_slice HO990.out; subst eo17; obtain ⟨Ao18, co18, eo18⟩ := Kd.R_slice HO994.out; subst eo18) | (go_at_call 23; (with_reducible refine (laws_wTexts.calls k _ _ t988 _ _ t992 t995 _ ?side1 ?side2 ?side3 ?side4 A14.out).mono ?_); (case side1 => exact cx (Kd.R_reads' HO990.out).2.2); (case side2 => exact (Kd.R_reads' HO990.out).2.1); (case side3 => exact cx (Kd.R_reads' HO994.out).2.2); (case side4 => exact (Kd.R_reads' HO994.out).2.1); rintro e w' ⟨rfl, ⟨nd, rfl⟩⟩))
    go_meet
    case rel => exact ⟨_, (!t995), (by first | rfl | (simp; done) | (simp [*]; done)), H', ⟨by first | omega | exact Nat.le_refl _⟩, ⟨by refine rx ?_; exact HO986.out⟩, ⟨by refine rx ?_; exact Kd.R_mono HO990.out (fun _ hk => trivial)⟩, (hbw HB)⟩
   ·rw [if_neg c12] at H
    have c12b0 : (t987 == t991) = false := beq_eq_false_iff_ne.mpr c12
    have c12b1 : (t987 != t991) = true := bne_iff_ne.mpr c12
    (first | rw [c12b0] | (simp only [i64_w, i32_w]; rw [c12b0]) | skip)
    have H' := Aside0.mk H
    clear H
    go_wp2_with (first | ((with_reducible refine gate_callee (f := 40) rfl ?_); refine goesL_ (some 30) rfl rfl Try.func40 (by kernel_rfl) rfl #[.slice Ao8 t983.length co8, .string t984] rfl mxp ?_; (with_reducible refine (spec_RecBound.calls k _ _ t983 t984 t991 _ ?side1 ?side2 A11.out).mono ?_); (case side1 => exact cx (Kd.R_reads' HO986.out).2.2); (case side2 => exact (Kd.R_reads' HO986.out).2.1); rintro e w19 ⟨rfl, hb⟩; refine ⟨_, rfl, ?_⟩; have n0_ := Aside0.mk (Kd.R_below (rx HO986.out) hb); have n1_ := Aside0.mk (Kd.R_below (rx HO990.out) hb); have n2_ := bs HB hb; clear HO986; clear HO990; clear HB; have HO986 := n0_; have HO990 := n1_; have HB := n2_; clear n0_ n1_ n2_; (try clear hb); (try clear hb2); (try clear hk); (try clear hi)))
    go_meet
    case rel => exact ⟨_, (true), (by first | rfl | (simp; done) | (simp [*]; done)), H', ⟨by first | omega | exact Nat.le_refl _⟩, ⟨by refine rx ?_; exact HO986.out⟩, ⟨by refine rx ?_; exact HO990.out⟩, (hbw HB)⟩
  case rest =>
   clear HC6
   try clear c1
   try clear c2
   try clear c2b0
   try clear c2b1
   try clear p2
   try clear c3
   try clear c4
   try clear c6
   try clear c12
   try clear c12b0
   try clear c12b1
   try clear c17
   obtain ⟨kq, x39_5, rfl, HA, HJ5, HO_3, HO_6, HB⟩ := hcut
   cases kq with
   | zero => exact absurd HA.out (by simp [laws_FnBound.j0])
   | succ kj5 =>
    have H := HA.out
    clear HA
    simp only [laws_FnBound.j0] at H
    by_cases c20 : x39_5 = true
    ·subst c20
     have H1 : (some false) = some r := by rw [if_pos rfl] at H; exact H
     clear H
     have H := H1
     clear H1
     obtain rfl := Option.some.inj H
     go_wp2
     go_ret
     exact ⟨exq, bw HB.out⟩
    ·replace c20 := Bool.eq_false_iff.mpr c20
     subst c20
     have H1 : (laws_FnBound.l0 kj5 t983 t984 t987 t988 0 (([] : List ByteArray)) t984 0) = some r := by rw [if_neg (show ¬ (false = true) by decide)] at H; exact H
     clear H
     have H := H1
     clear H1
     obtain ⟨y996, hy996⟩ : ∃ y_ : List ByteArray, y_ = (([] : List ByteArray)) := ⟨_, rfl⟩
     replace H : (laws_FnBound.l0 kj5 t983 t984 t987 t988 0 y996 t984 0) = some r := by first | (rw [hy996]; with_reducible exact H) | (have H2_ := (Option.bind_some _ _).symm.trans H; rw [hy996]; with_reducible exact H2_) | (have H2_ := (Option.bind_some _ _).symm.trans H; with_reducible exact H2_) | with_reducible exact H | (rw [hy996]; exact H) | exact H
     have Ny996 := Aside0.mk hy996
     clear hy996
     have H' := Aside0.mk H
     clear H
     go_wp2_with (first | ((with_reducible refine gate_dst (N := 40) rfl ?_); refine Kd.R_lit Kd.string _ 9 ?hg (N := 40) ?hd (xs := ([] : List ByteArray)) (inner := []) (ok := fun _ => True) (okp := fun _ => True) ?hr ?hp (fun _ hk => hk) trivial (Below.refl _ _) (Nat.le_refl _) (by simp) ?_; (case hd => rfl); (case hg => rfl); (case hr => first | (go_simp; done) | (go_simp; rfl)); (case hp => exact (Reps.none _ _)); intro v997 w21 ho22 hb hg_ hnew_; clear hg_ hnew_; (first | rw [← Ny996.out] at ho22 | (simp only [Int.reduceToNat] at ho22; rw [← Ny996.out] at ho22)); have n0_ := Aside0.mk (Kd.R_below (rx HO_3.out) hb); have n1_ := Aside0.mk (Kd.R_elder' (rx HO_6.out) (Kd.R_base ho22) hb); have n2_ := Aside0.mk (Kd.R_lower (Kd.R_new' ho22 (Kd.R_lt (rx HO_6.out))) (below_size (bw HB.out))); have n3_ := bs HB hb; clear HO_3; clear HO_6; clear HB; have HO_3 := n0_; have HO_6 := n1_; have HO998 := n2_; have HB := n3_; clear n0_ n1_ n2_ n3_; clear hb ho22))
     go_loopg [7, 9, 10] kj5 (fun kq v7 v9 v10 w' => ∃ (x7_2 : Int) (x9_2 : ByteArray) (x10_2 : Int), v7 = .int .i64 x7_2 ∧ v9 = .string x9_2 ∧ v10 = .int .i64 x10_2 ∧ Aside0 (laws_FnBound.l0 kq t983 t984 t987 t988 x7_2 y996 x9_2 x10_2 = some r) ∧ Aside0 (kq ≤ kj5) ∧ Aside0 (Kd.R k39 39 w' w.heap.size (fun _ => True) (.slice Ao8 t983.length co8) t983) ∧ Aside0 (Kd.R Kd.string 9 w' w.heap.size (fun k_ => some k_ ≠ (v997 : Value).ownBlock) v989 t988) ∧ Aside0 (Kd.R Kd.string 9 w' w.heap.size (fun k_ => some k_ ≠ (v989 : Value).ownBlock) v997 y996) ∧ Aside0 (Below w.heap.size w w'))
     case atStart => exact ⟨(0), (t984), (0), (by first | rfl | (simp; done) | (simp [*]; done)), (by first | rfl | (simp; done) | (simp [*]; done)), (by first | rfl | (simp; done) | (simp [*]; done)), H', ⟨Nat.le_refl _⟩, ⟨by refine rx ?_; exact HO_3.out⟩, ⟨by refine rx ?_; exact Kd.R_mono HO_6.out (fun _ hk => hk.2)⟩, ⟨by refine rx ?_; exact Kd.R_mono HO998.out (fun _ hk => hk.2)⟩, (hbw HB)⟩
     case round =>
      clear H'
      try clear c1
      try clear c2
      try clear c2b0
      try clear c2b1
      try clear p2
      try clear c3
      try clear c4
      try clear c6
      try clear c12
      try clear c12b0
      try clear c12b1
      try clear c17
      try clear c20
      try clear p2
      obtain ⟨x7_2, x9_2, x10_2, rfl, rfl, rfl, HA, HK2, HO_3, HO_6, HO_8, HB⟩ := hrel
      cases gk with
      | zero => exact absurd HA.out (by simp [laws_FnBound.l0])
      | succ k2 =>
       have H := HA.out
       clear HA
       simp only [laws_FnBound.l0] at H
       have HC23 := Aside0.mk H
       clear H
       go_upto_region 12 with (fail)
       go_cut [49] (fun v49 wc => ∃ (kq : Nat) (x49_22 : Bool), v49 = .bool x49_22 ∧ Aside0 (laws_FnBound.j2 kq t983 t984 t987 t988 x7_2 y996 x9_2 x10_2 x49_22 = some r) ∧ Aside0 (kq ≤ k2) ∧ Aside0 (Kd.R k39 39 wc w.heap.size (fun _ => True) (.slice Ao8 t983.length co8) t983) ∧ Aside0 (Kd.R Kd.string 9 wc w.heap.size (fun k_ => some k_ ≠ (v997 : Value).ownBlock) v989 t988) ∧ Aside0 (Kd.R Kd.string 9 wc w.heap.size (fun k_ => some k_ ≠ (v989 : Value).ownBlock) v997 y996) ∧ Aside0 (Below w.heap.size w wc))
       case first =>
        have H := HC23.out
        clear HC23
        by_cases c24 : x10_2 < (t983.length : Int)
        ·rw [if_pos c24] at H
         have c24b0 : decide (x10_2 < (t983.length : Int)) = true := decide_eq_true c24
         clear c24
         (first | rw [c24b0] | (simp only [i64_w, i32_w]; rw [c24b0]) | skip)
         replace H := Option.bind_eq_some_iff.mp H
         obtain ⟨t999, A250, H⟩ := H
         replace H : (laws_FnBound.j2 k2 t983 t984 t987 t988 x7_2 y996 x9_2 x10_2 t999) = some r := H
         have A25 := Aside0.mk A250
         clear A250
         have H' := Aside0.mk H
         clear H
         go_wp2_with (first | (go_at_call 24; (with_reducible refine (spec_RecOk.calls k2 _ _ t983 t999 _ ?side1 ?side2 A25.out).mono ?_); (case side1 => exact cx (Kd.R_reads' HO_3.out).2.2); (case side2 => exact (Kd.R_reads' HO_3.out).2.1); rintro e w26 ⟨rfl, hb⟩; have n0_ := Aside0.mk (Kd.R_below (rx HO_3.out) hb); have n1_ := Aside0.mk (Kd.R_below (rx HO_6.out) hb); have n2_ := Aside0.mk (Kd.R_below (rx HO_8.out) hb); have n3_ := bs HB hb; clear HO_3; clear HO_6; clear HO_8; clear HB; have HO_3 := n0_; have HO_6 := n1_; have HO_8 := n2_; have HB := n3_; clear n0_ n1_ n2_ n3_; (try clear hb); (try clear hb2); (try clear hk); (try clear hi)))
         go_meet
         case rel => exact ⟨_, (t999), (by first | rfl | (simp; done) | (simp [*]; done)), H', ⟨by have := HJ5.out; have := HK2.out; first | omega | exact Nat.le_refl _⟩, ⟨by refine rx ?_; exact HO_3.out⟩, ⟨by refine rx ?_; exact HO_6.out⟩, ⟨by refine rx ?_; exact HO_8.out⟩, (hbw HB)⟩
        ·rw [if_neg c24] at H
         have c24b0 : decide (x10_2 < (t983.length : Int)) = false := decide_eq_false c24
         clear c24
         (first | rw [c24b0] | (simp only [i64_w, i32_w]; rw [c24b0]) | skip)
         have H' := Aside0.mk H
         clear H
         go_wp2
         go_meet
         case rel => exact ⟨_, (false), (by first | rfl | (simp; done) | (simp [*]; done)), H', ⟨by have := HJ5.out; have := HK2.out; first | omega | exact Nat.le_refl _⟩, ⟨by refine rx ?_; exact HO_3.out⟩, ⟨by refine rx ?_; exact HO_6.out⟩, ⟨by refine rx ?_; exact HO_8.out⟩, (hbw HB)⟩
       case rest =>
        clear HC23
        try clear c1
        try clear c2
        try clear c2b0
        try clear c2b1
        try clear p2
        try clear c3
        try clear c4
        try clear c6
        try clear c12
        try clear c12b0
        try clear c12b1
        try clear c17
        try clear c20
        try clear c24
        try clear c24b0
        try clear c26
        try clear p2
        obtain ⟨kq, x49_22, rfl, HA, HJ22, HO_3, HO_6, HO_8, HB⟩ := hcut
        cases kq with
        | zero => exact absurd HA.out (by simp [laws_FnBound.j2])
        | succ kj22 =>
         have H := HA.out
         clear HA
         simp only [laws_FnBound.j2] at H
         by_cases c27 : x49_22 = true
         ·subst c27
          have H1 : (laws_FnBound.l1 kj22 t983 t984 t987 t988 x7_2 y996 x9_2 x10_2 0) = some r := by rw [if_pos rfl] at H; exact H
          clear H
          have H := H1
          clear H1
          have H' := Aside0.mk H
          clear H
          go_wp2
          go_loopg [7, 9, 11] kj22 (fun kq v7 v9 v11 w' => ∃ (x7_4 : Int) (x9_4 : ByteArray) (x11_4 : Int), v7 = .int .i64 x7_4 ∧ v9 = .string x9_4 ∧ v11 = .int .i64 x11_4 ∧ Aside0 (laws_FnBound.l1 kq t983 t984 t987 t988 x7_4 y996 x9_4 x10_2 x11_4 = some r) ∧ Aside0 (kq ≤ kj22) ∧ Aside0 (Kd.R k39 39 w' w.heap.size (fun _ => True) (.slice Ao8 t983.length co8) t983) ∧ Aside0 (Kd.R Kd.string 9 w' w.heap.size (fun k_ => some k_ ≠ (v997 : Value).ownBlock) v989 t988) ∧ Aside0 (Kd.R Kd.string 9 w' w.heap.size (fun k_ => some k_ ≠ (v989 : Value).ownBlock) v997 y996) ∧ Aside0 (Below w.heap.size w w'))
          case atStart => exact ⟨(x7_2), (x9_2), (0), (by first | rfl | (simp; done) | (simp [*]; done)), (by first | rfl | (simp; done) | (simp [*]; done)), (by first | rfl | (simp; done) | (simp [*]; done)), H', ⟨Nat.le_refl _⟩, ⟨by refine rx ?_; exact HO_3.out⟩, ⟨by refine rx ?_; exact HO_6.out⟩, ⟨by refine rx ?_; exact HO_8.out⟩, (hbw HB)⟩
          case round =>
           clear H'
           try clear c1
           try clear c2
           try clear c2b0
           try clear c2b1
           try clear p2
           try clear c3
           try clear c4
           try clear c6
           try clear c12
           try clear c12b0
           try clear c12b1
           try clear c17
           try clear c20
           try clear c24
           try clear c24b0
           try clear c26
           try clear c27
           try clear p2
           obtain ⟨x7_4, x9_4, x11_4, rfl, rfl, rfl, HA, HK4, HO_3, HO_6, HO_8, HB⟩ := hrel
           cases gk with
           | zero => exact absurd HA.out (by simp [laws_FnBound.l1])
           | succ k4 =>
            have H := HA.out
            clear HA
            simp only [laws_FnBound.l1] at H
            by_cases c28 : x11_4 < (t983.length : Int)
            ·rw [if_pos c28] at H
             have c28b0 : decide (x11_4 < (t983.length : Int)) = true := decide_eq_true c28
             clear c28
             by_cases c29 : 0 ≤ x11_4
             ·rw [if_pos c29] at H
              have c29b0 : decide (0 ≤ x11_4) = true := decide_eq_true c29
              clear c29
              by_cases c30 : ((rd_T39 t983 x11_4).f0).toList = x9_4.toList
              ·rw [if_pos c30] at H
               have c30b0 : (((rd_T39 t983 x11_4).f0).toList == x9_4.toList) = true := beq_iff_eq.mpr c30
               have c30b1 : (((rd_T39 t983 x11_4).f0).toList != x9_4.toList) = false := bne_eq_false_iff_eq.mpr c30
               clear c30
               replace H := Option.bind_eq_some_iff.mp H
               obtain ⟨t1004, A310, H⟩ := H
               replace H : ((impl_RecBound.f k4 t983 ((rd_T39 t983 x11_4).f7)).bind fun t1006 => (if t1004 > t1006 then (laws_FnBound.l0 k4 t983 t984 t987 t988 (wrap64 (x7_4 + ((rd_T39 t983 x11_4).f5))) y996 ((rd_T39 t983 x11_4).f6) (wrap64 (x10_2 + 1))) else (laws_FnBound.l0 k4 t983 t984 t987 t988 (wrap64 (x7_4 + ((rd_T39 t983 x11_4).f5))) y996 ((rd_T39 t983 x11_4).f7) (wrap64 (x10_2 + 1))))) = some r := H
               have A31 := Aside0.mk A310
               clear A310
               replace H := Option.bind_eq_some_iff.mp H
               obtain ⟨t1006, A320, H⟩ := H
               replace H : (if t1004 > t1006 then (laws_FnBound.l0 k4 t983 t984 t987 t988 (wrap64 (x7_4 + ((rd_T39 t983 x11_4).f5))) y996 ((rd_T39 t983 x11_4).f6) (wrap64 (x10_2 + 1))) else (laws_FnBound.l0 k4 t983 t984 t987 t988 (wrap64 (x7_4 + ((rd_T39 t983 x11_4).f5))) y996 ((rd_T39 t983 x11_4).f7) (wrap64 (x10_2 + 1)))) = some r := H
               have A32 := Aside0.mk A320
               clear A320
               by_cases c33 : t1004 > t1006
               ·rw [if_pos c33] at H
                have c33b0 : decide (t1006 < t1004) = true := decide_eq_true c33
                clear c33
                have H' := Aside0.mk H
                clear H
                have p1000 : 0 ≤ (x11_4 : Int) := oda
                have q1000 : x11_4 < (t983.length : Int) := oda
                obtain ⟨ad1000, e1000, hx1000_0, hx1000_1, hx1000_2, hx1000_3, hx1000_4, hx1000_5, hx1000_6, hx1000_7⟩ := at_T39 (Kd.R_reads' HO_3.out).2.2 x11_4 p1000 q1000
                cases e1000
                replace p1000 := eq_true p1000
                replace q1000 := eq_true q1000
                have p1001 : 0 ≤ (x11_4 : Int) := oda
                have q1001 : x11_4 < (t983.length : Int) := oda
                obtain ⟨ad1001, e1001, hx1001_0, hx1001_1, hx1001_2, hx1001_3, hx1001_4, hx1001_5, hx1001_6, hx1001_7⟩ := at_T39 (Kd.R_reads' HO_3.out).2.2 x11_4 p1001 q1001
                obtain rfl : ad1000 = ad1001 := (by injection e1001)
                replace p1001 := eq_true p1001
                replace q1001 := eq_true q1001
                have p1002 : 0 ≤ (x11_4 : Int) := oda
                have q1002 : x11_4 < (t983.length : Int) := oda
                obtain ⟨ad1002, e1002, hx1002_0, hx1002_1, hx1002_2, hx1002_3, hx1002_4, hx1002_5, hx1002_6, hx1002_7⟩ := at_T39 (Kd.R_reads' HO_3.out).2.2 x11_4 p1002 q1002
                obtain rfl : ad1000 = ad1002 := (by injection e1002)
                replace p1002 := eq_true p1002
                replace q1002 := eq_true q1002
                try go_wp2
                have n0_ := Aside0.mk (Kd.R_drew HO_3.out)
                have n1_ := Aside0.mk (Kd.R_drew HO_6.out)
                have n2_ := Aside0.mk (Kd.R_drew HO_8.out)
                have n3_ := Aside0.mk (below_drew1 HB.out)
                clear HO_3
                clear HO_6
                clear HO_8
                clear HB
                have HO_3 := n0_
                have HO_6 := n1_
                have HO_8 := n2_
                have HB := n3_
                clear n0_ n1_ n2_ n3_
                have p1003 : 0 ≤ (x11_4 : Int) := oda
                have q1003 : x11_4 < (t983.length : Int) := oda
                obtain ⟨ad1003, e1003, hx1003_0, hx1003_1, hx1003_2, hx1003_3, hx1003_4, hx1003_5, hx1003_6, hx1003_7⟩ := at_T39 (Kd.R_reads' HO_3.out).2.2 x11_4 p1003 q1003
                obtain rfl : ad1000 = ad1003 := (by injection e1003)
                replace p1003 := eq_true p1003
                replace q1003 := eq_true q1003
                have p1005 : 0 ≤ (x11_4 : Int) := oda
                have q1005 : x11_4 < (t983.length : Int) := oda
                obtain ⟨ad1005, e1005, hx1005_0, hx1005_1, hx1005_2, hx1005_3, hx1005_4, hx1005_5, hx1005_6, hx1005_7⟩ := at_T39 (Kd.R_reads' HO_3.out).2.2 x11_4 p1005 q1005
                obtain rfl : ad1000 = ad1005 := (by injection e1005)
                replace p1005 := eq_true p1005
                replace q1005 := eq_true q1005
                refine start_ (n := 15) (S := fun w' => w'.cell? (ad1000.add ((x11_4).toNat * 8)) = some (.string ((rd_T39 t983 x11_4).f0)) ∧ w'.cell? ⟨(ad1000.add ((x11_4).toNat * 8)).block, (ad1000.add ((x11_4).toNat * 8)).off + 1, none⟩ = some (.int .i64 ((rd_T39 t983 x11_4).f1)) ∧ w'.cell? ⟨(ad1000.add ((x11_4).toNat * 8)).block, (ad1000.add ((x11_4).toNat * 8)).off + 2, none⟩ = some (.string ((rd_T39 t983 x11_4).f2)) ∧ w'.cell? ⟨(ad1000.add ((x11_4).toNat * 8)).block, (ad1000.add ((x11_4).toNat * 8)).off + 3, none⟩ = some (.string ((rd_T39 t983 x11_4).f3)) ∧ w'.cell? ⟨(ad1000.add ((x11_4).toNat * 8)).block, (ad1000.add ((x11_4).toNat * 8)).off + 4, none⟩ = some (.int .i64 ((rd_T39 t983 x11_4).f4)) ∧ w'.cell? ⟨(ad1000.add ((x11_4).toNat * 8)).block, (ad1000.add ((x11_4).toNat * 8)).off + 5, none⟩ = some (.int .i64 ((rd_T39 t983 x11_4).f5)) ∧ w'.cell? ⟨(ad1000.add ((x11_4).toNat * 8)).block, (ad1000.add ((x11_4).toNat * 8)).off + 6, none⟩ = some (.string ((rd_T39 t983 x11_4).f6)) ∧ w'.cell? ⟨(ad1000.add ((x11_4).toNat * 8)).block, (ad1000.add ((x11_4).toNat * 8)).off + 7, none⟩ = some (.string ((rd_T39 t983 x11_4).f7)) ∧ w'.cell? (ad1000.add ((x11_4).toNat * 8)) = some (.string ((rd_T39 t983 x11_4).f0)) ∧ w'.cell? ⟨(ad1000.add ((x11_4).toNat * 8)).block, (ad1000.add ((x11_4).toNat * 8)).off + 1, none⟩ = some (.int .i64 ((rd_T39 t983 x11_4).f1)) ∧ w'.cell? ⟨(ad1000.add ((x11_4).toNat * 8)).block, (ad1000.add ((x11_4).toNat * 8)).off + 2, none⟩ = some (.string ((rd_T39 t983 x11_4).f2)) ∧ w'.cell? ⟨(ad1000.add ((x11_4).toNat * 8)).block, (ad1000.add ((x11_4).toNat * 8)).off + 3, none⟩ = some (.string ((rd_T39 t983 x11_4).f3)) ∧ w'.cell? ⟨(ad1000.add ((x11_4).toNat * 8)).block, (ad1000.add ((x11_4).toNat * 8)).off + 4, none⟩ = some (.int .i64 ((rd_T39 t983 x11_4).f4)) ∧ w'.cell? ⟨(ad1000.add ((x11_4).toNat * 8)).block, (ad1000.add ((x11_4).toNat * 8)).off + 5, none⟩ = some (.int .i64 ((rd_T39 t983 x11_4).f5)) ∧ w'.cell? ⟨(ad1000.add ((x11_4).toNat * 8)).block, (ad1000.add ((x11_4).toNat * 8)).off + 6, none⟩ = some (.string ((rd_T39 t983 x11_4).f6)) ∧ w'.cell? ⟨(ad1000.add ((x11_4).toNat * 8)).block, (ad1000.add ((x11_4).toNat * 8)).off + 7, none⟩ = some (.string ((rd_T39 t983 x11_4).f7))) (ds := []) #[false, false, false, false, false, false, false, false, false, false, false, false, false, false, false] (by kernel_rfl) rfl rfl ⟨hx1003_0, hx1003_1, hx1003_2, hx1003_3, hx1003_4, hx1003_5, hx1003_6, hx1003_7, hx1005_0, hx1005_1, hx1005_2, hx1005_3, hx1005_4, hx1005_5, hx1005_6, hx1005_7⟩ (fun hHeld => ?_); refine with_tabW laws_FnBound.tab20 laws_FnBound.bits20 (fun HT_ HW_ => ?_)
                generalize wr.drew = w34 at HO_3 HO_6 HO_8 HB hx1003_0 hx1003_1 hx1003_2 hx1003_3 hx1003_4 hx1003_5 hx1003_6 hx1003_7 hx1005_0 hx1005_1 hx1005_2 hx1005_3 hx1005_4 hx1005_5 hx1005_6 hx1005_7 hHeld ⊢
                refine pure_ (i := 0) (N := some 77) (v := ?_) (a' := ?_) #[true, false, false, false, false, false, false, false, false, false, false, false, false, false, false] rfl rfl (any_of HT_.out (by kernel_rfl)) (fun _ _ _ h => h) (Or.inl ⟨by rfl, ?_⟩) ?_ ?_
                rotate_left
                ·intro w'
                 go_simp
                 with_reducible rfl
                rotate_left
                ·simp only [Act.put, List.setIfInBounds_toArray, List.set_cons_zero, List.set_cons_succ, i64_w, i32_w]
                 rfl
                refine pure_ (i := 1) (N := some 78) (v := ?_) (a' := ?_) #[true, true, false, false, false, false, false, false, false, false, false, false, false, false, false] rfl rfl (any_of HT_.out (by kernel_rfl)) (fun _ _ _ h => h) (Or.inl ⟨by rfl, ?_⟩) ?_ ?_
                rotate_left
                ·intro w'
                 go_simp
                 with_reducible rfl
                rotate_left
                ·simp only [Act.put, List.setIfInBounds_toArray, List.set_cons_zero, List.set_cons_succ, i64_w, i32_w]
                 rfl
                refine pure_ (i := 2) (N := some 79) (v := ?_) (a' := ?_) #[true, true, true, false, false, false, false, false, false, false, false, false, false, false, false] rfl rfl (any_of HT_.out (by kernel_rfl)) (fun _ _ _ h => h) (Or.inl ⟨by rfl, ?_⟩) ?_ ?_
                rotate_left
                ·intro w'
                 go_simp
                 with_reducible rfl
                rotate_left
                ·simp only [Act.put, List.setIfInBounds_toArray, List.set_cons_zero, List.set_cons_succ, i64_w, i32_w]
                 rfl
                refine pure_ (i := 3) (N := some 80) (v := ?_) (a' := ?_) #[true, true, true, true, false, false, false, false, false, false, false, false, false, false, false] rfl rfl (any_of HT_.out (by kernel_rfl)) (fun _ _ _ h => h) (Or.inl ⟨by rfl, ?_⟩) ?_ ?_
                rotate_left
                ·intro w'
                 go_simp
                 with_reducible rfl
                rotate_left
                ·simp only [Act.put, List.setIfInBounds_toArray, List.set_cons_zero, List.set_cons_succ, i64_w, i32_w]
                 rfl
                refine pure_ (i := 4) (N := some 81) (v := ?_) (a' := ?_) #[true, true, true, true, true, false, false, false, false, false, false, false, false, false, false] rfl rfl (any_of HT_.out (by kernel_rfl)) (fun _ _ _ h => h) (Or.inl ⟨by rfl, ?_⟩) ?_ ?_
                rotate_left
                ·intro w'
                 go_simp
                 with_reducible rfl
                rotate_left
                ·simp only [Act.put, List.setIfInBounds_toArray, List.set_cons_zero, List.set_cons_succ, i64_w, i32_w]
                 rfl
                refine pure_ (i := 7) (N := some 84) (v := ?_) (a' := ?_) #[true, true, true, true, true, false, false, true, false, false, false, false, false, false, false] rfl rfl (any_of HT_.out (by kernel_rfl)) (fun _ _ _ h => h) (Or.inl ⟨by rfl, ?_⟩) ?_ ?_
                rotate_left
                ·intro w'
                 go_simp
                 with_reducible rfl
                rotate_left
                ·simp only [Act.put, List.setIfInBounds_toArray, List.set_cons_zero, List.set_cons_succ, i64_w, i32_w]
                 rfl
                refine pure_ (i := 8) (N := some 85) (v := ?_) (a' := ?_) #[true, true, true, true, true, false, false, true, true, false, false, false, false, false, false] rfl rfl (any_of HT_.out (by kernel_rfl)) (fun _ _ _ h => h) (Or.inl ⟨by rfl, ?_⟩) ?_ ?_
                rotate_left
                ·intro w'
                 go_simp
                 with_reducible rfl
                rotate_left
                ·simp only [Act.put, List.setIfInBounds_toArray, List.set_cons_zero, List.set_cons_succ, i64_w, i32_w]
                 rfl
                refine pure_ (i := 9) (N := some 86) (v := ?_) (a' := ?_) #[true, true, true, true, true, false, false, true, true, true, false, false, false, false, false] rfl rfl (any_of HT_.out (by kernel_rfl)) (fun _ _ _ h => h) (Or.inl ⟨by rfl, ?_⟩) ?_ ?_
                rotate_left
                ·intro w'
                 go_simp
                 with_reducible rfl
                rotate_left
                ·simp only [Act.put, List.setIfInBounds_toArray, List.set_cons_zero, List.set_cons_succ, i64_w, i32_w]
                 rfl
                refine pure_ (i := 10) (N := some 87) (v := ?_) (a' := ?_) #[true, true, true, true, true, false, false, true, true, true, true, false, false, false, false] rfl rfl (any_of HT_.out (by kernel_rfl)) (fun _ _ _ h => h) (Or.inl ⟨by rfl, ?_⟩) ?_ ?_
                rotate_left
                ·intro w'
                 go_simp
                 with_reducible rfl
                rotate_left
                ·simp only [Act.put, List.setIfInBounds_toArray, List.set_cons_zero, List.set_cons_succ, i64_w, i32_w]
                 rfl
                refine pure_ (i := 11) (N := some 88) (v := ?_) (a' := ?_) #[true, true, true, true, true, false, false, true, true, true, true, true, false, false, false] rfl rfl (any_of HT_.out (by kernel_rfl)) (fun _ _ _ h => h) (Or.inl ⟨by rfl, ?_⟩) ?_ ?_
                rotate_left
                ·intro w'
                 go_simp
                 with_reducible rfl
                rotate_left
                ·simp only [Act.put, List.setIfInBounds_toArray, List.set_cons_zero, List.set_cons_succ, i64_w, i32_w]
                 rfl
                refine take_ (i := 5) (N := some 82) (v := ?_) (a' := ?_) #[true, true, true, true, true, true, false, true, true, true, true, true, false, false, false] rfl rfl (take_ofW HT_.out HW_.out (by kernel_rfl)) (fun _ _ _ h => h) (Or.inl ⟨by rfl, ?_⟩) hHeld ?_ ?_
                rotate_left
                ·rintro w' ⟨s0, s1, s2, s3, s4, s5, s6, s7, s8, s9, s10, s11, s12, s13, s14, s15⟩
                 go_simp
                 with_reducible rfl
                rotate_left
                ·simp only [Act.put, List.setIfInBounds_toArray, List.set_cons_zero, List.set_cons_succ, i64_w, i32_w]
                 rfl
                refine take_ (i := 12) (N := some 89) (v := ?_) (a' := ?_) #[true, true, true, true, true, true, false, true, true, true, true, true, true, false, false] rfl rfl (take_ofW HT_.out HW_.out (by kernel_rfl)) (fun _ _ _ h => h) (Or.inl ⟨by rfl, ?_⟩) hHeld ?_ ?_
                rotate_left
                ·rintro w' ⟨s0, s1, s2, s3, s4, s5, s6, s7, s8, s9, s10, s11, s12, s13, s14, s15⟩
                 go_simp
                 with_reducible rfl
                rotate_left
                ·simp only [Act.put, List.setIfInBounds_toArray, List.set_cons_zero, List.set_cons_succ, i64_w, i32_w]
                 rfl
                refine one_ (i := 6) (N := some 83) #[true, true, true, true, true, true, true, true, true, true, true, true, true, false, false] rfl rfl (one_of HT_.out (by kernel_rfl)) (by decide) (fun K hK => ?_)
                refine goes_ Try.func26 (by kernel_rfl) rfl #[.slice (some ad1000) t983.length co8, .string ((rd_T39 t983 x11_4).f6)] (by rfl) rfl rfl mxp ?_
                with_reducible refine (impl_RecBound.calls k4 _ _ t983 ((rd_T39 t983 x11_4).f6) t1004 _ ?side1 ?side2 A31.out).mono ?_
                (case side1 => exact cx (Kd.R_reads' HO_3.out).2.2)
                (case side2 => exact (Kd.R_reads' HO_3.out).2.1)
                rintro e w35 ⟨rfl, hb⟩
                have HS0_ := (hb.cell (World.block_lt_of_cell? _ _ (hHeld.1))).trans (hHeld.1)
                have HS1_ := (hb.cell (World.block_lt_of_cell? _ _ (hHeld.2.1))).trans (hHeld.2.1)
                have HS2_ := (hb.cell (World.block_lt_of_cell? _ _ (hHeld.2.2.1))).trans (hHeld.2.2.1)
                have HS3_ := (hb.cell (World.block_lt_of_cell? _ _ (hHeld.2.2.2.1))).trans (hHeld.2.2.2.1)
                have HS4_ := (hb.cell (World.block_lt_of_cell? _ _ (hHeld.2.2.2.2.1))).trans (hHeld.2.2.2.2.1)
                have HS5_ := (hb.cell (World.block_lt_of_cell? _ _ (hHeld.2.2.2.2.2.1))).trans (hHeld.2.2.2.2.2.1)
                have HS6_ := (hb.cell (World.block_lt_of_cell? _ _ (hHeld.2.2.2.2.2.2.1))).trans (hHeld.2.2.2.2.2.2.1)
                have HS7_ := (hb.cell (World.block_lt_of_cell? _ _ (hHeld.2.2.2.2.2.2.2.1))).trans (hHeld.2.2.2.2.2.2.2.1)
                have HS8_ := (hb.cell (World.block_lt_of_cell? _ _ (hHeld.2.2.2.2.2.2.2.2.1))).trans (hHeld.2.2.2.2.2.2.2.2.1)
                have HS9_ := (hb.cell (World.block_lt_of_cell? _ _ (hHeld.2.2.2.2.2.2.2.2.2.1))).trans (hHeld.2.2.2.2.2.2.2.2.2.1)
                have HS10_ := (hb.cell (World.block_lt_of_cell? _ _ (hHeld.2.2.2.2.2.2.2.2.2.2.1))).trans (hHeld.2.2.2.2.2.2.2.2.2.2.1)
                have HS11_ := (hb.cell (World.block_lt_of_cell? _ _ (hHeld.2.2.2.2.2.2.2.2.2.2.2.1))).trans (hHeld.2.2.2.2.2.2.2.2.2.2.2.1)
                have HS12_ := (hb.cell (World.block_lt_of_cell? _ _ (hHeld.2.2.2.2.2.2.2.2.2.2.2.2.1))).trans (hHeld.2.2.2.2.2.2.2.2.2.2.2.2.1)
                have HS13_ := (hb.cell (World.block_lt_of_cell? _ _ (hHeld.2.2.2.2.2.2.2.2.2.2.2.2.2.1))).trans (hHeld.2.2.2.2.2.2.2.2.2.2.2.2.2.1)
                have HS14_ := (hb.cell (World.block_lt_of_cell? _ _ (hHeld.2.2.2.2.2.2.2.2.2.2.2.2.2.2.1))).trans (hHeld.2.2.2.2.2.2.2.2.2.2.2.2.2.2.1)
                have HS15_ := (hb.cell (World.block_lt_of_cell? _ _ (hHeld.2.2.2.2.2.2.2.2.2.2.2.2.2.2.2))).trans (hHeld.2.2.2.2.2.2.2.2.2.2.2.2.2.2.2)
                refine ⟨_, rfl, ?_⟩
                have n0_ := Aside0.mk (Kd.R_below (rx HO_3.out) hb)
                have n1_ := Aside0.mk (Kd.R_below (rx HO_6.out) hb)
                have n2_ := Aside0.mk (Kd.R_below (rx HO_8.out) hb)
                have n3_ := bs HB hb
                clear HO_3
                clear HO_6
                clear HO_8
                clear HB
                have HO_3 := n0_
                have HO_6 := n1_
                have HO_8 := n2_
                have HB := n3_
                clear n0_ n1_ n2_ n3_
                (try clear hb)
                (try clear hb2)
                (try clear hk)
                (try clear hi)
                refine hK.out _ _ ⟨HS0_, HS1_, HS2_, HS3_, HS4_, HS5_, HS6_, HS7_, HS8_, HS9_, HS10_, HS11_, HS12_, HS13_, HS14_, HS15_⟩ (fun hHeld => ?_)
                clear hK K
                refine norm_ (a' := ?_) ?_ ?_
                rotate_left
                ·show Act.put _ (some 83) _ = _
                 simp only [Act.put, List.setIfInBounds_toArray, List.set_cons_zero, List.set_cons_succ, i64_w, i32_w]
                 rfl
                refine one_ (i := 13) (N := some 90) #[true, true, true, true, true, true, true, true, true, true, true, true, true, true, false] rfl rfl (one_of HT_.out (by kernel_rfl)) (by decide) (fun K hK => ?_)
                refine goes_ Try.func26 (by kernel_rfl) rfl #[.slice (some ad1000) t983.length co8, .string ((rd_T39 t983 x11_4).f7)] (by rfl) rfl rfl mxp ?_
                with_reducible refine (impl_RecBound.calls k4 _ _ t983 ((rd_T39 t983 x11_4).f7) t1006 _ ?side1 ?side2 A32.out).mono ?_
                (case side1 => exact cx (Kd.R_reads' HO_3.out).2.2)
                (case side2 => exact (Kd.R_reads' HO_3.out).2.1)
                rintro e w36 ⟨rfl, hb⟩
                have HS0_ := (hb.cell (World.block_lt_of_cell? _ _ (hHeld.1))).trans (hHeld.1)
                have HS1_ := (hb.cell (World.block_lt_of_cell? _ _ (hHeld.2.1))).trans (hHeld.2.1)
                have HS2_ := (hb.cell (World.block_lt_of_cell? _ _ (hHeld.2.2.1))).trans (hHeld.2.2.1)
                have HS3_ := (hb.cell (World.block_lt_of_cell? _ _ (hHeld.2.2.2.1))).trans (hHeld.2.2.2.1)
                have HS4_ := (hb.cell (World.block_lt_of_cell? _ _ (hHeld.2.2.2.2.1))).trans (hHeld.2.2.2.2.1)
                have HS5_ := (hb.cell (World.block_lt_of_cell? _ _ (hHeld.2.2.2.2.2.1))).trans (hHeld.2.2.2.2.2.1)
                have HS6_ := (hb.cell (World.block_lt_of_cell? _ _ (hHeld.2.2.2.2.2.2.1))).trans (hHeld.2.2.2.2.2.2.1)
                have HS7_ := (hb.cell (World.block_lt_of_cell? _ _ (hHeld.2.2.2.2.2.2.2.1))).trans (hHeld.2.2.2.2.2.2.2.1)
                have HS8_ := (hb.cell (World.block_lt_of_cell? _ _ (hHeld.2.2.2.2.2.2.2.2.1))).trans (hHeld.2.2.2.2.2.2.2.2.1)
                have HS9_ := (hb.cell (World.block_lt_of_cell? _ _ (hHeld.2.2.2.2.2.2.2.2.2.1))).trans (hHeld.2.2.2.2.2.2.2.2.2.1)
                have HS10_ := (hb.cell (World.block_lt_of_cell? _ _ (hHeld.2.2.2.2.2.2.2.2.2.2.1))).trans (hHeld.2.2.2.2.2.2.2.2.2.2.1)
                have HS11_ := (hb.cell (World.block_lt_of_cell? _ _ (hHeld.2.2.2.2.2.2.2.2.2.2.2.1))).trans (hHeld.2.2.2.2.2.2.2.2.2.2.2.1)
                have HS12_ := (hb.cell (World.block_lt_of_cell? _ _ (hHeld.2.2.2.2.2.2.2.2.2.2.2.2.1))).trans (hHeld.2.2.2.2.2.2.2.2.2.2.2.2.1)
                have HS13_ := (hb.cell (World.block_lt_of_cell? _ _ (hHeld.2.2.2.2.2.2.2.2.2.2.2.2.2.1))).trans (hHeld.2.2.2.2.2.2.2.2.2.2.2.2.2.1)
                have HS14_ := (hb.cell (World.block_lt_of_cell? _ _ (hHeld.2.2.2.2.2.2.2.2.2.2.2.2.2.2.1))).trans (hHeld.2.2.2.2.2.2.2.2.2.2.2.2.2.2.1)
                have HS15_ := (hb.cell (World.block_lt_of_cell? _ _ (hHeld.2.2.2.2.2.2.2.2.2.2.2.2.2.2.2))).trans (hHeld.2.2.2.2.2.2.2.2.2.2.2.2.2.2.2)
                refine ⟨_, rfl, ?_⟩
                have n0_ := Aside0.mk (Kd.R_below (rx HO_3.out) hb)
                have n1_ := Aside0.mk (Kd.R_below (rx HO_6.out) hb)
                have n2_ := Aside0.mk (Kd.R_below (rx HO_8.out) hb)
                have n3_ := bs HB hb
                clear HO_3
                clear HO_6
                clear HO_8
                clear HB
                have HO_3 := n0_
                have HO_6 := n1_
                have HO_8 := n2_
                have HB := n3_
                clear n0_ n1_ n2_ n3_
                (try clear hb)
                (try clear hb2)
                (try clear hk)
                (try clear hi)
                refine hK.out _ _ ⟨HS0_, HS1_, HS2_, HS3_, HS4_, HS5_, HS6_, HS7_, HS8_, HS9_, HS10_, HS11_, HS12_, HS13_, HS14_, HS15_⟩ (fun hHeld => ?_)
                clear hK K
                refine norm_ (a' := ?_) ?_ ?_
                rotate_left
                ·show Act.put _ (some 90) _ = _
                 simp only [Act.put, List.setIfInBounds_toArray, List.set_cons_zero, List.set_cons_succ, i64_w, i32_w]
                 rfl
                refine pure_ (i := 14) (N := some 91) (v := ?_) (a' := ?_) #[true, true, true, true, true, true, true, true, true, true, true, true, true, true, true] rfl rfl (any_of HT_.out (by kernel_rfl)) (fun _ _ _ h => h) (Or.inl ⟨by rfl, ?_⟩) ?_ ?_
                rotate_left
                ·intro w'
                 go_simp
                 with_reducible rfl
                rotate_left
                ·simp only [Act.put, List.setIfInBounds_toArray, List.set_cons_zero, List.set_cons_succ, i64_w, i32_w]
                 rfl
                refine done_ (done_of HT_.out (by kernel_rfl)) ?_
                have p1007 : 0 ≤ (x11_4 : Int) := oda
                have q1007 : x11_4 < (t983.length : Int) := oda
                obtain ⟨ad1007, e1007, hx1007_0, hx1007_1, hx1007_2, hx1007_3, hx1007_4, hx1007_5, hx1007_6, hx1007_7⟩ := at_T39 (Kd.R_reads' HO_3.out).2.2 x11_4 p1007 q1007
                obtain rfl : ad1000 = ad1007 := (by injection e1007)
                replace p1007 := eq_true p1007
                replace q1007 := eq_true q1007
                try go_wp2
                go_roundg k4
                case measure => have := HJ5.out; have := HK2.out; have := HJ22.out; have := HK4.out; omega
                case rel => exact ⟨(wrap64 (x7_4 + ((rd_T39 t983 x11_4).f5))), ((rd_T39 t983 x11_4).f6), (wrap64 (x10_2 + 1)), (by first | rfl | (simp; done) | (simp [*]; done)), (by first | rfl | (simp; done) | (simp [*]; done)), (by first | rfl | (simp; done) | (simp [*]; done)), H', ⟨by have := HJ5.out; have := HK2.out; have := HJ22.out; have := HK4.out; omega⟩, ⟨by refine rx ?_; exact HO_3.out⟩, ⟨by refine rx ?_; exact HO_6.out⟩, ⟨by refine rx ?_; exact HO_8.out⟩, (hbw HB)⟩
               ·rw [if_neg c33] at H
                have c33b0 : decide (t1006 < t1004) = false := decide_eq_false c33
                clear c33
                have H' := Aside0.mk H
                clear H
                have p1000 : 0 ≤ (x11_4 : Int) := oda
                have q1000 : x11_4 < (t983.length : Int) := oda
                obtain ⟨ad1000, e1000, hx1000_0, hx1000_1, hx1000_2, hx1000_3, hx1000_4, hx1000_5, hx1000_6, hx1000_7⟩ := at_T39 (Kd.R_reads' HO_3.out).2.2 x11_4 p1000 q1000
                cases e1000
                replace p1000 := eq_true p1000
                replace q1000 := eq_true q1000
                have p1001 : 0 ≤ (x11_4 : Int) := oda
                have q1001 : x11_4 < (t983.length : Int) := oda
                obtain ⟨ad1001, e1001, hx1001_0, hx1001_1, hx1001_2, hx1001_3, hx1001_4, hx1001_5, hx1001_6, hx1001_7⟩ := at_T39 (Kd.R_reads' HO_3.out).2.2 x11_4 p1001 q1001
                obtain rfl : ad1000 = ad1001 := (by injection e1001)
                replace p1001 := eq_true p1001
                replace q1001 := eq_true q1001
                have p1002 : 0 ≤ (x11_4 : Int) := oda
                have q1002 : x11_4 < (t983.length : Int) := oda
                obtain ⟨ad1002, e1002, hx1002_0, hx1002_1, hx1002_2, hx1002_3, hx1002_4, hx1002_5, hx1002_6, hx1002_7⟩ := at_T39 (Kd.R_reads' HO_3.out).2.2 x11_4 p1002 q1002
                obtain rfl : ad1000 = ad1002 := (by injection e1002)
                replace p1002 := eq_true p1002
                replace q1002 := eq_true q1002
                try go_wp2
                have n0_ := Aside0.mk (Kd.R_drew HO_3.out)
                have n1_ := Aside0.mk (Kd.R_drew HO_6.out)
                have n2_ := Aside0.mk (Kd.R_drew HO_8.out)
                have n3_ := Aside0.mk (below_drew1 HB.out)
                clear HO_3
                clear HO_6
                clear HO_8
                clear HB
                have HO_3 := n0_
                have HO_6 := n1_
                have HO_8 := n2_
                have HB := n3_
                clear n0_ n1_ n2_ n3_
                have p1003 : 0 ≤ (x11_4 : Int) := oda
                have q1003 : x11_4 < (t983.length : Int) := oda
                obtain ⟨ad1003, e1003, hx1003_0, hx1003_1, hx1003_2, hx1003_3, hx1003_4, hx1003_5, hx1003_6, hx1003_7⟩ := at_T39 (Kd.R_reads' HO_3.out).2.2 x11_4 p1003 q1003
                obtain rfl : ad1000 = ad1003 := (by injection e1003)
                replace p1003 := eq_true p1003
                replace q1003 := eq_true q1003
                have p1005 : 0 ≤ (x11_4 : Int) := oda
                have q1005 : x11_4 < (t983.length : Int) := oda
                obtain ⟨ad1005, e1005, hx1005_0, hx1005_1, hx1005_2, hx1005_3, hx1005_4, hx1005_5, hx1005_6, hx1005_7⟩ := at_T39 (Kd.R_reads' HO_3.out).2.2 x11_4 p1005 q1005
                obtain rfl : ad1000 = ad1005 := (by injection e1005)
                replace p1005 := eq_true p1005
                replace q1005 := eq_true q1005
                refine start_ (n := 15) (S := fun w' => w'.cell? (ad1000.add ((x11_4).toNat * 8)) = some (.string ((rd_T39 t983 x11_4).f0)) ∧ w'.cell? ⟨(ad1000.add ((x11_4).toNat * 8)).block, (ad1000.add ((x11_4).toNat * 8)).off + 1, none⟩ = some (.int .i64 ((rd_T39 t983 x11_4).f1)) ∧ w'.cell? ⟨(ad1000.add ((x11_4).toNat * 8)).block, (ad1000.add ((x11_4).toNat * 8)).off + 2, none⟩ = some (.string ((rd_T39 t983 x11_4).f2)) ∧ w'.cell? ⟨(ad1000.add ((x11_4).toNat * 8)).block, (ad1000.add ((x11_4).toNat * 8)).off + 3, none⟩ = some (.string ((rd_T39 t983 x11_4).f3)) ∧ w'.cell? ⟨(ad1000.add ((x11_4).toNat * 8)).block, (ad1000.add ((x11_4).toNat * 8)).off + 4, none⟩ = some (.int .i64 ((rd_T39 t983 x11_4).f4)) ∧ w'.cell? ⟨(ad1000.add ((x11_4).toNat * 8)).block, (ad1000.add ((x11_4).toNat * 8)).off + 5, none⟩ = some (.int .i64 ((rd_T39 t983 x11_4).f5)) ∧ w'.cell? ⟨(ad1000.add ((x11_4).toNat * 8)).block, (ad1000.add ((x11_4).toNat * 8)).off + 6, none⟩ = some (.string ((rd_T39 t983 x11_4).f6)) ∧ w'.cell? ⟨(ad1000.add ((x11_4).toNat * 8)).block, (ad1000.add ((x11_4).toNat * 8)).off + 7, none⟩ = some (.string ((rd_T39 t983 x11_4).f7)) ∧ w'.cell? (ad1000.add ((x11_4).toNat * 8)) = some (.string ((rd_T39 t983 x11_4).f0)) ∧ w'.cell? ⟨(ad1000.add ((x11_4).toNat * 8)).block, (ad1000.add ((x11_4).toNat * 8)).off + 1, none⟩ = some (.int .i64 ((rd_T39 t983 x11_4).f1)) ∧ w'.cell? ⟨(ad1000.add ((x11_4).toNat * 8)).block, (ad1000.add ((x11_4).toNat * 8)).off + 2, none⟩ = some (.string ((rd_T39 t983 x11_4).f2)) ∧ w'.cell? ⟨(ad1000.add ((x11_4).toNat * 8)).block, (ad1000.add ((x11_4).toNat * 8)).off + 3, none⟩ = some (.string ((rd_T39 t983 x11_4).f3)) ∧ w'.cell? ⟨(ad1000.add ((x11_4).toNat * 8)).block, (ad1000.add ((x11_4).toNat * 8)).off + 4, none⟩ = some (.int .i64 ((rd_T39 t983 x11_4).f4)) ∧ w'.cell? ⟨(ad1000.add ((x11_4).toNat * 8)).block, (ad1000.add ((x11_4).toNat * 8)).off + 5, none⟩ = some (.int .i64 ((rd_T39 t983 x11_4).f5)) ∧ w'.cell? ⟨(ad1000.add ((x11_4).toNat * 8)).block, (ad1000.add ((x11_4).toNat * 8)).off + 6, none⟩ = some (.string ((rd_T39 t983 x11_4).f6)) ∧ w'.cell? ⟨(ad1000.add ((x11_4).toNat * 8)).block, (ad1000.add ((x11_4).toNat * 8)).off + 7, none⟩ = some (.string ((rd_T39 t983 x11_4).f7))) (ds := []) #[false, false, false, false, false, false, false, false, false, false, false, false, false, false, false] (by kernel_rfl) rfl rfl ⟨hx1003_0, hx1003_1, hx1003_2, hx1003_3, hx1003_4, hx1003_5, hx1003_6, hx1003_7, hx1005_0, hx1005_1, hx1005_2, hx1005_3, hx1005_4, hx1005_5, hx1005_6, hx1005_7⟩ (fun hHeld => ?_); refine with_tabW laws_FnBound.tab20 laws_FnBound.bits20 (fun HT_ HW_ => ?_)
                generalize wr.drew = w37 at HO_3 HO_6 HO_8 HB hx1003_0 hx1003_1 hx1003_2 hx1003_3 hx1003_4 hx1003_5 hx1003_6 hx1003_7 hx1005_0 hx1005_1 hx1005_2 hx1005_3 hx1005_4 hx1005_5 hx1005_6 hx1005_7 hHeld ⊢
                refine pure_ (i := 0) (N := some 77) (v := ?_) (a' := ?_) #[true, false, false, false, false, false, false, false, false, false, false, false, false, false, false] rfl rfl (any_of HT_.out (by kernel_rfl)) (fun _ _ _ h => h) (Or.inl ⟨by rfl, ?_⟩) ?_ ?_
                rotate_left
                ·intro w'
                 go_simp
                 with_reducible rfl
                rotate_left
                ·simp only [Act.put, List.setIfInBounds_toArray, List.set_cons_zero, List.set_cons_succ, i64_w, i32_w]
                 rfl
                refine pure_ (i := 1) (N := some 78) (v := ?_) (a' := ?_) #[true, true, false, false, false, false, false, false, false, false, false, false, false, false, false] rfl rfl (any_of HT_.out (by kernel_rfl)) (fun _ _ _ h => h) (Or.inl ⟨by rfl, ?_⟩) ?_ ?_
                rotate_left
                ·intro w'
                 go_simp
                 with_reducible rfl
                rotate_left
                ·simp only [Act.put, List.setIfInBounds_toArray, List.set_cons_zero, List.set_cons_succ, i64_w, i32_w]
                 rfl
                refine pure_ (i := 2) (N := some 79) (v := ?_) (a' := ?_) #[true, true, true, false, false, false, false, false, false, false, false, false, false, false, false] rfl rfl (any_of HT_.out (by kernel_rfl)) (fun _ _ _ h => h) (Or.inl ⟨by rfl, ?_⟩) ?_ ?_
                rotate_left
                ·intro w'
                 go_simp
                 with_reducible rfl
                rotate_left
                ·simp only [Act.put, List.setIfInBounds_toArray, List.set_cons_zero, List.set_cons_succ, i64_w, i32_w]
                 rfl
                refine pure_ (i := 3) (N := some 80) (v := ?_) (a' := ?_) #[true, true, true, true, false, false, false, false, false, false, false, false, false, false, false] rfl rfl (any_of HT_.out (by kernel_rfl)) (fun _ _ _ h => h) (Or.inl ⟨by rfl, ?_⟩) ?_ ?_
                rotate_left
                ·intro w'
                 go_simp
                 with_reducible rfl
                rotate_left
                ·simp only [Act.put, List.setIfInBounds_toArray, List.set_cons_zero, List.set_cons_succ, i64_w, i32_w]
                 rfl
                refine pure_ (i := 4) (N := some 81) (v := ?_) (a' := ?_) #[true, true, true, true, true, false, false, false, false, false, false, false, false, false, false] rfl rfl (any_of HT_.out (by kernel_rfl)) (fun _ _ _ h => h) (Or.inl ⟨by rfl, ?_⟩) ?_ ?_
                rotate_left
                ·intro w'
                 go_simp
                 with_reducible rfl
                rotate_left
                ·simp only [Act.put, List.setIfInBounds_toArray, List.set_cons_zero, List.set_cons_succ, i64_w, i32_w]
                 rfl
                refine pure_ (i := 7) (N := some 84) (v := ?_) (a' := ?_) #[true, true, true, true, true, false, false, true, false, false, false, false, false, false, false] rfl rfl (any_of HT_.out (by kernel_rfl)) (fun _ _ _ h => h) (Or.inl ⟨by rfl, ?_⟩) ?_ ?_
                rotate_left
                ·intro w'
                 go_simp
                 with_reducible rfl
                rotate_left
                ·simp only [Act.put, List.setIfInBounds_toArray, List.set_cons_zero, List.set_cons_succ, i64_w, i32_w]
                 rfl
                refine pure_ (i := 8) (N := some 85) (v := ?_) (a' := ?_) #[true, true, true, true, true, false, false, true, true, false, false, false, false, false, false] rfl rfl (any_of HT_.out (by kernel_rfl)) (fun _ _ _ h => h) (Or.inl ⟨by rfl, ?_⟩) ?_ ?_
                rotate_left
                ·intro w'
                 go_simp
                 with_reducible rfl
                rotate_left
                ·simp only [Act.put, List.setIfInBounds_toArray, List.set_cons_zero, List.set_cons_succ, i64_w, i32_w]
                 rfl
                refine pure_ (i := 9) (N := some 86) (v := ?_) (a' := ?_) #[true, true, true, true, true, false, false, true, true, true, false, false, false, false, false] rfl rfl (any_of HT_.out (by kernel_rfl)) (fun _ _ _ h => h) (Or.inl ⟨by rfl, ?_⟩) ?_ ?_
                rotate_left
                ·intro w'
                 go_simp
                 with_reducible rfl
                rotate_left
                ·simp only [Act.put, List.setIfInBounds_toArray, List.set_cons_zero, List.set_cons_succ, i64_w, i32_w]
                 rfl
                refine pure_ (i := 10) (N := some 87) (v := ?_) (a' := ?_) #[true, true, true, true, true, false, false, true, true, true, true, false, false, false, false] rfl rfl (any_of HT_.out (by kernel_rfl)) (fun _ _ _ h => h) (Or.inl ⟨by rfl, ?_⟩) ?_ ?_
                rotate_left
                ·intro w'
                 go_simp
                 with_reducible rfl
                rotate_left
                ·simp only [Act.put, List.setIfInBounds_toArray, List.set_cons_zero, List.set_cons_succ, i64_w, i32_w]
                 rfl
                refine pure_ (i := 11) (N := some 88) (v := ?_) (a' := ?_) #[true, true, true, true, true, false, false, true, true, true, true, true, false, false, false] rfl rfl (any_of HT_.out (by kernel_rfl)) (fun _ _ _ h => h) (Or.inl ⟨by rfl, ?_⟩) ?_ ?_
                rotate_left
                ·intro w'
                 go_simp
                 with_reducible rfl
                rotate_left
                ·simp only [Act.put, List.setIfInBounds_toArray, List.set_cons_zero, List.set_cons_succ, i64_w, i32_w]
                 rfl
                refine take_ (i := 5) (N := some 82) (v := ?_) (a' := ?_) #[true, true, true, true, true, true, false, true, true, true, true, true, false, false, false] rfl rfl (take_ofW HT_.out HW_.out (by kernel_rfl)) (fun _ _ _ h => h) (Or.inl ⟨by rfl, ?_⟩) hHeld ?_ ?_
                rotate_left
                ·rintro w' ⟨s0, s1, s2, s3, s4, s5, s6, s7, s8, s9, s10, s11, s12, s13, s14, s15⟩
                 go_simp
                 with_reducible rfl
                rotate_left
                ·simp only [Act.put, List.setIfInBounds_toArray, List.set_cons_zero, List.set_cons_succ, i64_w, i32_w]
                 rfl
                refine take_ (i := 12) (N := some 89) (v := ?_) (a' := ?_) #[true, true, true, true, true, true, false, true, true, true, true, true, true, false, false] rfl rfl (take_ofW HT_.out HW_.out (by kernel_rfl)) (fun _ _ _ h => h) (Or.inl ⟨by rfl, ?_⟩) hHeld ?_ ?_
                rotate_left
                ·rintro w' ⟨s0, s1, s2, s3, s4, s5, s6, s7, s8, s9, s10, s11, s12, s13, s14, s15⟩
                 go_simp
                 with_reducible rfl
                rotate_left
                ·simp only [Act.put, List.setIfInBounds_toArray, List.set_cons_zero, List.set_cons_succ, i64_w, i32_w]
                 rfl
                refine one_ (i := 6) (N := some 83) #[true, true, true, true, true, true, true, true, true, true, true, true, true, false, false] rfl rfl (one_of HT_.out (by kernel_rfl)) (by decide) (fun K hK => ?_)
                refine goes_ Try.func26 (by kernel_rfl) rfl #[.slice (some ad1000) t983.length co8, .string ((rd_T39 t983 x11_4).f6)] (by rfl) rfl rfl mxp ?_
                with_reducible refine (impl_RecBound.calls k4 _ _ t983 ((rd_T39 t983 x11_4).f6) t1004 _ ?side1 ?side2 A31.out).mono ?_
                (case side1 => exact cx (Kd.R_reads' HO_3.out).2.2)
                (case side2 => exact (Kd.R_reads' HO_3.out).2.1)
                rintro e w38 ⟨rfl, hb⟩
                have HS0_ := (hb.cell (World.block_lt_of_cell? _ _ (hHeld.1))).trans (hHeld.1)
                have HS1_ := (hb.cell (World.block_lt_of_cell? _ _ (hHeld.2.1))).trans (hHeld.2.1)
                have HS2_ := (hb.cell (World.block_lt_of_cell? _ _ (hHeld.2.2.1))).trans (hHeld.2.2.1)
                have HS3_ := (hb.cell (World.block_lt_of_cell? _ _ (hHeld.2.2.2.1))).trans (hHeld.2.2.2.1)
                have HS4_ := (hb.cell (World.block_lt_of_cell? _ _ (hHeld.2.2.2.2.1))).trans (hHeld.2.2.2.2.1)
                have HS5_ := (hb.cell (World.block_lt_of_cell? _ _ (hHeld.2.2.2.2.2.1))).trans (hHeld.2.2.2.2.2.1)
                have HS6_ := (hb.cell (World.block_lt_of_cell? _ _ (hHeld.2.2.2.2.2.2.1))).trans (hHeld.2.2.2.2.2.2.1)
                have HS7_ := (hb.cell (World.block_lt_of_cell? _ _ (hHeld.2.2.2.2.2.2.2.1))).trans (hHeld.2.2.2.2.2.2.2.1)
                have HS8_ := (hb.cell (World.block_lt_of_cell? _ _ (hHeld.2.2.2.2.2.2.2.2.1))).trans (hHeld.2.2.2.2.2.2.2.2.1)
                have HS9_ := (hb.cell (World.block_lt_of_cell? _ _ (hHeld.2.2.2.2.2.2.2.2.2.1))).trans (hHeld.2.2.2.2.2.2.2.2.2.1)
                have HS10_ := (hb.cell (World.block_lt_of_cell? _ _ (hHeld.2.2.2.2.2.2.2.2.2.2.1))).trans (hHeld.2.2.2.2.2.2.2.2.2.2.1)
                have HS11_ := (hb.cell (World.block_lt_of_cell? _ _ (hHeld.2.2.2.2.2.2.2.2.2.2.2.1))).trans (hHeld.2.2.2.2.2.2.2.2.2.2.2.1)
                have HS12_ := (hb.cell (World.block_lt_of_cell? _ _ (hHeld.2.2.2.2.2.2.2.2.2.2.2.2.1))).trans (hHeld.2.2.2.2.2.2.2.2.2.2.2.2.1)
                have HS13_ := (hb.cell (World.block_lt_of_cell? _ _ (hHeld.2.2.2.2.2.2.2.2.2.2.2.2.2.1))).trans (hHeld.2.2.2.2.2.2.2.2.2.2.2.2.2.1)
                have HS14_ := (hb.cell (World.block_lt_of_cell? _ _ (hHeld.2.2.2.2.2.2.2.2.2.2.2.2.2.2.1))).trans (hHeld.2.2.2.2.2.2.2.2.2.2.2.2.2.2.1)
                have HS15_ := (hb.cell (World.block_lt_of_cell? _ _ (hHeld.2.2.2.2.2.2.2.2.2.2.2.2.2.2.2))).trans (hHeld.2.2.2.2.2.2.2.2.2.2.2.2.2.2.2)
                refine ⟨_, rfl, ?_⟩
                have n0_ := Aside0.mk (Kd.R_below (rx HO_3.out) hb)
                have n1_ := Aside0.mk (Kd.R_below (rx HO_6.out) hb)
                have n2_ := Aside0.mk (Kd.R_below (rx HO_8.out) hb)
                have n3_ := bs HB hb
                clear HO_3
                clear HO_6
                clear HO_8
                clear HB
                have HO_3 := n0_
                have HO_6 := n1_
                have HO_8 := n2_
                have HB := n3_
                clear n0_ n1_ n2_ n3_
                (try clear hb)
                (try clear hb2)
                (try clear hk)
                (try clear hi)
                refine hK.out _ _ ⟨HS0_, HS1_, HS2_, HS3_, HS4_, HS5_, HS6_, HS7_, HS8_, HS9_, HS10_, HS11_, HS12_, HS13_, HS14_, HS15_⟩ (fun hHeld => ?_)
                clear hK K
                refine norm_ (a' := ?_) ?_ ?_
                rotate_left
                ·show Act.put _ (some 83) _ = _
                 simp only [Act.put, List.setIfInBounds_toArray, List.set_cons_zero, List.set_cons_succ, i64_w, i32_w]
                 rfl
                refine one_ (i := 13) (N := some 90) #[true, true, true, true, true, true, true, true, true, true, true, true, true, true, false] rfl rfl (one_of HT_.out (by kernel_rfl)) (by decide) (fun K hK => ?_)
                refine goes_ Try.func26 (by kernel_rfl) rfl #[.slice (some ad1000) t983.length co8, .string ((rd_T39 t983 x11_4).f7)] (by rfl) rfl rfl mxp ?_
                with_reducible refine (impl_RecBound.calls k4 _ _ t983 ((rd_T39 t983 x11_4).f7) t1006 _ ?side1 ?side2 A32.out).mono ?_
                (case side1 => exact cx (Kd.R_reads' HO_3.out).2.2)
                (case side2 => exact (Kd.R_reads' HO_3.out).2.1)
                rintro e w39 ⟨rfl, hb⟩
                have HS0_ := (hb.cell (World.block_lt_of_cell? _ _ (hHeld.1))).trans (hHeld.1)
                have HS1_ := (hb.cell (World.block_lt_of_cell? _ _ (hHeld.2.1))).trans (hHeld.2.1)
                have HS2_ := (hb.cell (World.block_lt_of_cell? _ _ (hHeld.2.2.1))).trans (hHeld.2.2.1)
                have HS3_ := (hb.cell (World.block_lt_of_cell? _ _ (hHeld.2.2.2.1))).trans (hHeld.2.2.2.1)
                have HS4_ := (hb.cell (World.block_lt_of_cell? _ _ (hHeld.2.2.2.2.1))).trans (hHeld.2.2.2.2.1)
                have HS5_ := (hb.cell (World.block_lt_of_cell? _ _ (hHeld.2.2.2.2.2.1))).trans (hHeld.2.2.2.2.2.1)
                have HS6_ := (hb.cell (World.block_lt_of_cell? _ _ (hHeld.2.2.2.2.2.2.1))).trans (hHeld.2.2.2.2.2.2.1)
                have HS7_ := (hb.cell (World.block_lt_of_cell? _ _ (hHeld.2.2.2.2.2.2.2.1))).trans (hHeld.2.2.2.2.2.2.2.1)
                have HS8_ := (hb.cell (World.block_lt_of_cell? _ _ (hHeld.2.2.2.2.2.2.2.2.1))).trans (hHeld.2.2.2.2.2.2.2.2.1)
                have HS9_ := (hb.cell (World.block_lt_of_cell? _ _ (hHeld.2.2.2.2.2.2.2.2.2.1))).trans (hHeld.2.2.2.2.2.2.2.2.2.1)
                have HS10_ := (hb.cell (World.block_lt_of_cell? _ _ (hHeld.2.2.2.2.2.2.2.2.2.2.1))).trans (hHeld.2.2.2.2.2.2.2.2.2.2.1)
                have HS11_ := (hb.cell (World.block_lt_of_cell? _ _ (hHeld.2.2.2.2.2.2.2.2.2.2.2.1))).trans (hHeld.2.2.2.2.2.2.2.2.2.2.2.1)
                have HS12_ := (hb.cell (World.block_lt_of_cell? _ _ (hHeld.2.2.2.2.2.2.2.2.2.2.2.2.1))).trans (hHeld.2.2.2.2.2.2.2.2.2.2.2.2.1)
                have HS13_ := (hb.cell (World.block_lt_of_cell? _ _ (hHeld.2.2.2.2.2.2.2.2.2.2.2.2.2.1))).trans (hHeld.2.2.2.2.2.2.2.2.2.2.2.2.2.1)
                have HS14_ := (hb.cell (World.block_lt_of_cell? _ _ (hHeld.2.2.2.2.2.2.2.2.2.2.2.2.2.2.1))).trans (hHeld.2.2.2.2.2.2.2.2.2.2.2.2.2.2.1)
                have HS15_ := (hb.cell (World.block_lt_of_cell? _ _ (hHeld.2.2.2.2.2.2.2.2.2.2.2.2.2.2.2))).trans (hHeld.2.2.2.2.2.2.2.2.2.2.2.2.2.2.2)
                refine ⟨_, rfl, ?_⟩
                have n0_ := Aside0.mk (Kd.R_below (rx HO_3.out) hb)
                have n1_ := Aside0.mk (Kd.R_below (rx HO_6.out) hb)
                have n2_ := Aside0.mk (Kd.R_below (rx HO_8.out) hb)
                have n3_ := bs HB hb
                clear HO_3
                clear HO_6
                clear HO_8
                clear HB
                have HO_3 := n0_
                have HO_6 := n1_
                have HO_8 := n2_
                have HB := n3_
                clear n0_ n1_ n2_ n3_
                (try clear hb)
                (try clear hb2)
                (try clear hk)
                (try clear hi)
                refine hK.out _ _ ⟨HS0_, HS1_, HS2_, HS3_, HS4_, HS5_, HS6_, HS7_, HS8_, HS9_, HS10_, HS11_, HS12_, HS13_, HS14_, HS15_⟩ (fun hHeld => ?_)
                clear hK K
                refine norm_ (a' := ?_) ?_ ?_
                rotate_left
                ·show Act.put _ (some 90) _ = _
                 simp only [Act.put, List.setIfInBounds_toArray, List.set_cons_zero, List.set_cons_succ, i64_w, i32_w]
                 rfl
                refine pure_ (i := 14) (N := some 91) (v := ?_) (a' := ?_) #[true, true, true, true, true, true, true, true, true, true, true, true, true, true, true] rfl rfl (any_of HT_.out (by kernel_rfl)) (fun _ _ _ h => h) (Or.inl ⟨by rfl, ?_⟩) ?_ ?_
                rotate_left
                ·intro w'
                 go_simp
                 with_reducible rfl
                rotate_left
                ·simp only [Act.put, List.setIfInBounds_toArray, List.set_cons_zero, List.set_cons_succ, i64_w, i32_w]
                 rfl
                refine done_ (done_of HT_.out (by kernel_rfl)) ?_
                try go_wp2
                go_roundg k4
                case measure => have := HJ5.out; have := HK2.out; have := HJ22.out; have := HK4.out; omega
                case rel => exact ⟨(wrap64 (x7_4 + ((rd_T39 t983 x11_4).f5))), ((rd_T39 t983 x11_4).f7), (wrap64 (x10_2 + 1)), (by first | rfl | (simp; done) | (simp [*]; done)), (by first | rfl | (simp; done) | (simp [*]; done)), (by first | rfl | (simp; done) | (simp [*]; done)), H', ⟨by have := HJ5.out; have := HK2.out; have := HJ22.out; have := HK4.out; omega⟩, ⟨by refine rx ?_; exact HO_3.out⟩, ⟨by refine rx ?_; exact HO_6.out⟩, ⟨by refine rx ?_; exact HO_8.out⟩, (hbw HB)⟩
              ·rw [if_neg c30] at H
               have c30b0 : (((rd_T39 t983 x11_4).f0).toList == x9_4.toList) = false := beq_eq_false_iff_ne.mpr c30
               have c30b1 : (((rd_T39 t983 x11_4).f0).toList != x9_4.toList) = true := bne_iff_ne.mpr c30
               have H' := Aside0.mk H
               clear H
               have p1000 : 0 ≤ (x11_4 : Int) := oda
               have q1000 : x11_4 < (t983.length : Int) := oda
               obtain ⟨ad1000, e1000, hx1000_0, hx1000_1, hx1000_2, hx1000_3, hx1000_4, hx1000_5, hx1000_6, hx1000_7⟩ := at_T39 (Kd.R_reads' HO_3.out).2.2 x11_4 p1000 q1000
               cases e1000
               replace p1000 := eq_true p1000
               replace q1000 := eq_true q1000
               go_wp2
               go_roundg k4
               case measure => have := HJ5.out; have := HK2.out; have := HJ22.out; have := HK4.out; omega
               case rel => exact ⟨(x7_4), (x9_4), (wrap64 (x11_4 + 1)), (by first | rfl | (simp; done) | (simp [*]; done)), (by first | rfl | (simp; done) | (simp [*]; done)), (by first | rfl | (simp; done) | (simp [*]; done)), H', ⟨by have := HJ5.out; have := HK2.out; have := HJ22.out; have := HK4.out; omega⟩, ⟨by refine rx ?_; exact HO_3.out⟩, ⟨by refine rx ?_; exact HO_6.out⟩, ⟨by refine rx ?_; exact HO_8.out⟩, (hbw HB)⟩
             ·rw [if_neg c29] at H
              exact absurd H (by simp)
            ·rw [if_neg c28] at H
             have c28b0 : decide (x11_4 < (t983.length : Int)) = false := decide_eq_false c28
             clear c28
             have H' := Aside0.mk H
             clear H
             go_wp2
             go_roundg k4
             case measure => have := HJ5.out; have := HK2.out; have := HJ22.out; have := HK4.out; omega
             case rel => exact ⟨(x7_4), (x9_4), (wrap64 (x10_2 + 1)), (by first | rfl | (simp; done) | (simp [*]; done)), (by first | rfl | (simp; done) | (simp [*]; done)), (by first | rfl | (simp; done) | (simp [*]; done)), H', ⟨by have := HJ5.out; have := HK2.out; have := HJ22.out; have := HK4.out; omega⟩, ⟨by refine rx ?_; exact HO_3.out⟩, ⟨by refine rx ?_; exact HO_6.out⟩, ⟨by refine rx ?_; exact HO_8.out⟩, (hbw HB)⟩
         ·replace c27 := Bool.eq_false_iff.mpr c27
          subst c27
          have H1 : (laws_FnBound.l2 kj22 t983 t984 t987 t988 x7_2 y996 0) = some r := by rw [if_neg (show ¬ (false = true) by decide)] at H; exact H
          clear H
          have H := H1
          clear H1
          have H' := Aside0.mk H
          clear H
          go_wp2
          go_loopg [8, 12] kj22 (fun kq v8 v12 w' => ∃ (x8_4 : List ByteArray) (x12_4 : Int), v12 = .int .i64 x12_4 ∧ Aside0 (laws_FnBound.l2 kq t983 t984 t987 t988 x7_2 x8_4 x12_4 = some r) ∧ Aside0 (kq ≤ kj22) ∧ Aside0 (Kd.R k39 39 w' w.heap.size (fun _ => True) (.slice Ao8 t983.length co8) t983) ∧ Aside0 (Kd.R Kd.string 9 w' w.heap.size (fun k_ => some k_ ≠ (v8 : Value).ownBlock) v989 t988) ∧ Aside0 (Kd.R Kd.string 9 w' w.heap.size (fun k_ => some k_ ≠ (v989 : Value).ownBlock) v8 x8_4) ∧ Aside0 (Below w.heap.size w w'))
          case atStart => exact ⟨(y996), (0), (by first | rfl | (simp; done) | (simp [*]; done)), H', ⟨Nat.le_refl _⟩, ⟨by refine rx ?_; exact HO_3.out⟩, ⟨by refine rx ?_; exact HO_6.out⟩, ⟨by refine rx ?_; exact HO_8.out⟩, (hbw HB)⟩
          case round =>
           clear H'
           try clear c1
           try clear p1
           try clear q1
           try clear hx1
           try clear c2
           try clear c2b0
           try clear c2b1
           try clear p2
           try clear c3
           try clear c4
           try clear c6
           try clear p6
           try clear p10
           try clear q10
           try clear hx10
           try clear c12
           try clear c12b0
           try clear c12b1
           try clear c17
           try clear c20
           try clear c24
           try clear c24b0
           try clear c26
           try clear c27
           try clear c28
           try clear c28b0
           try clear c29
           try clear c29b0
           try clear c30
           try clear c30b0
           try clear c30b1
           try clear c33
           try clear c33b0
           try clear hx1000_0
           try clear hx1000_1
           try clear hx1000_2
           try clear hx1000_3
           try clear hx1000_4
           try clear hx1000_5
           try clear hx1000_6
           try clear hx1000_7
           try clear hx1001_0
           try clear hx1001_1
           try clear hx1001_2
           try clear hx1001_3
           try clear hx1001_4
           try clear hx1001_5
           try clear hx1001_6
           try clear hx1001_7
           try clear hx1002_0
           try clear hx1002_1
           try clear hx1002_2
           try clear hx1002_3
           try clear hx1002_4
           try clear hx1002_5
           try clear hx1002_6
           try clear hx1002_7
           try clear hx1003_0
           try clear hx1003_1
           try clear hx1003_2
           try clear hx1003_3
           try clear hx1003_4
           try clear hx1003_5
           try clear hx1003_6
           try clear hx1003_7
           try clear hx1005_0
           try clear hx1005_1
           try clear hx1005_2
           try clear hx1005_3
           try clear hx1005_4
           try clear hx1005_5
           try clear hx1005_6
           try clear hx1005_7
           try clear hx1007_0
           try clear hx1007_1
           try clear hx1007_2
           try clear hx1007_3
           try clear hx1007_4
           try clear hx1007_5
           try clear hx1007_6
           try clear hx1007_7
           try clear p1000
           try clear p1001
           try clear p1002
           try clear p1003
           try clear p1005
           try clear p1007
           try clear p2
           try clear q1000
           try clear q1001
           try clear q1002
           try clear q1003
           try clear q1005
           try clear q1007
           obtain ⟨x8_4, x12_4, rfl, HA, HK4, HO_3, HO_6, HO_8, HB⟩ := hrel
           cases gk with
           | zero => exact absurd HA.out (by simp [laws_FnBound.l2])
           | succ k4 =>
            have H := HA.out
            clear HA
            simp only [laws_FnBound.l2] at H
            have HC40 := Aside0.mk H
            clear H
            go_upto_region 23 with (fail)
            go_cut [104] (fun v104 wc => ∃ (kq : Nat) (x104_39 : Bool), v104 = .bool x104_39 ∧ Aside0 (laws_FnBound.j5 kq t983 t984 t987 t988 x7_2 x8_4 x12_4 x104_39 = some r) ∧ Aside0 (kq ≤ k4) ∧ Aside0 (Kd.R k39 39 wc w.heap.size (fun _ => True) (.slice Ao8 t983.length co8) t983) ∧ Aside0 (Kd.R Kd.string 9 wc w.heap.size (fun k_ => some k_ ≠ (u8 : Value).ownBlock) v989 t988) ∧ Aside0 (Kd.R Kd.string 9 wc w.heap.size (fun k_ => some k_ ≠ (v989 : Value).ownBlock) u8 x8_4) ∧ Aside0 (Below w.heap.size w wc))
            case first =>
             have H := HC40.out
             clear HC40
             by_cases c41 : x12_4 < (t983.length : Int)
             ·rw [if_pos c41] at H
              have c41b0 : decide (x12_4 < (t983.length : Int)) = true := decide_eq_true c41
              clear c41
              (first | rw [c41b0] | (simp only [i64_w, i32_w]; rw [c41b0]) | skip)
              replace H := Option.bind_eq_some_iff.mp H
              obtain ⟨t1008, A420, H⟩ := H
              replace H : (laws_FnBound.j5 k4 t983 t984 t987 t988 x7_2 x8_4 x12_4 t1008) = some r := H
              have A42 := Aside0.mk A420
              clear A420
              have H' := Aside0.mk H
              clear H
              go_wp2_with (first | (go_at_call 24; (with_reducible refine (spec_RecOk.calls k4 _ _ t983 t1008 _ ?side1 ?side2 A42.out).mono ?_); (case side1 => exact cx (Kd.R_reads' HO_3.out).2.2); (case side2 => exact (Kd.R_reads' HO_3.out).2.1); rintro e w43 ⟨rfl, hb⟩; have n0_ := Aside0.mk (Kd.R_below (rx HO_3.out) hb); have n1_ := Aside0.mk (Kd.R_below (rx HO_6.out) hb); have n2_ := Aside0.mk (Kd.R_below (rx HO_8.out) hb); have n3_ := bs HB hb; clear HO_3; clear HO_6; clear HO_8; clear HB; have HO_3 := n0_; have HO_6 := n1_; have HO_8 := n2_; have HB := n3_; clear n0_ n1_ n2_ n3_; (try clear hb); (try clear hb2); (try clear hk); (try clear hi)))
              go_meet
              case rel => exact ⟨_, (t1008), (by first | rfl | (simp; done) | (simp [*]; done)), H', ⟨by have := HJ5.out; have := HK2.out; have := HJ22.out; have := HK4.out; first | omega | exact Nat.le_refl _⟩, ⟨by refine rx ?_; exact HO_3.out⟩, ⟨by refine rx ?_; exact HO_6.out⟩, ⟨by refine rx ?_; exact HO_8.out⟩, (hbw HB)⟩
             ·rw [if_neg c41] at H
              have c41b0 : decide (x12_4 < (t983.length : Int)) = false := decide_eq_false c41
              clear c41
              (first | rw [c41b0] | (simp only [i64_w, i32_w]; rw [c41b0]) | skip)
              have H' := Aside0.mk H
              clear H
              go_wp2
              go_meet
              case rel => exact ⟨_, (false), (by first | rfl | (simp; done) | (simp [*]; done)), H', ⟨by have := HJ5.out; have := HK2.out; have := HJ22.out; have := HK4.out; first | omega | exact Nat.le_refl _⟩, ⟨by refine rx ?_; exact HO_3.out⟩, ⟨by refine rx ?_; exact HO_6.out⟩, ⟨by refine rx ?_; exact HO_8.out⟩, (hbw HB)⟩
            case rest =>
             clear HC40
             try clear c1
             try clear p1
             try clear q1
             try clear hx1
             try clear c2
             try clear c2b0
             try clear c2b1
             try clear p2
             try clear c3
             try clear c4
             try clear c6
             try clear p6
             try clear p10
             try clear q10
             try clear hx10
             try clear c12
             try clear c12b0
             try clear c12b1
             try clear c17
             try clear c20
             try clear c24
             try clear c24b0
             try clear c26
             try clear c27
             try clear c28
             try clear c28b0
             try clear c29
             try clear c29b0
             try clear c30
             try clear c30b0
             try clear c30b1
             try clear c33
             try clear c33b0
             try clear c41
             try clear c41b0
             try clear hx1000_0
             try clear hx1000_1
             try clear hx1000_2
             try clear hx1000_3
             try clear hx1000_4
             try clear hx1000_5
             try clear hx1000_6
             try clear hx1000_7
             try clear hx1001_0
             try clear hx1001_1
             try clear hx1001_2
             try clear hx1001_3
             try clear hx1001_4
             try clear hx1001_5
             try clear hx1001_6
             try clear hx1001_7
             try clear hx1002_0
             try clear hx1002_1
             try clear hx1002_2
             try clear hx1002_3
             try clear hx1002_4
             try clear hx1002_5
             try clear hx1002_6
             try clear hx1002_7
             try clear hx1003_0
             try clear hx1003_1
             try clear hx1003_2
             try clear hx1003_3
             try clear hx1003_4
             try clear hx1003_5
             try clear hx1003_6
             try clear hx1003_7
             try clear hx1005_0
             try clear hx1005_1
             try clear hx1005_2
             try clear hx1005_3
             try clear hx1005_4
             try clear hx1005_5
             try clear hx1005_6
             try clear hx1005_7
             try clear hx1007_0
             try clear hx1007_1
             try clear hx1007_2
             try clear hx1007_3
             try clear hx1007_4
             try clear hx1007_5
             try clear hx1007_6
             try clear hx1007_7
             try clear p1
             try clear p10
             try clear p1000
             try clear p1001
             try clear p1002
             try clear p1003
             try clear p1005
             try clear p1007
             try clear p2
             try clear p6
             try clear q1
             try clear q10
             try clear q1000
             try clear q1001
             try clear q1002
             try clear q1003
             try clear q1005
             try clear q1007
             obtain ⟨kq, x104_39, rfl, HA, HJ39, HO_3, HO_6, HO_8, HB⟩ := hcut
             cases kq with
             | zero => exact absurd HA.out (by simp [laws_FnBound.j5])
             | succ kj39 =>
              have H := HA.out
              clear HA
              simp only [laws_FnBound.j5] at H
              by_cases c44 : x104_39 = true
              ·subst c44
               have H1 : (if 0 ≤ x12_4 then (if x12_4 < (t983.length : Int) then ((laws_wReach.f kj39 t983 t984 ((rd_T39 t983 x12_4).f0)).bind fun t1012 => (if t1012 = true then (if x8_4.length < 8796093022208 then ((some (x8_4 ++ [(rd_T39 t983 x12_4).f2] : List ByteArray)).bind fun y1014 => (if ((rd_T39 t983 x12_4).f1) = 2 then (if y1014.length < 8796093022208 then (laws_FnBound.l2 kj39 t983 t984 t987 t988 x7_2 (y1014 ++ [(rd_T39 t983 x12_4).f3]) (wrap64 (x12_4 + 1))) else (none)) else (laws_FnBound.l2 kj39 t983 t984 t987 t988 x7_2 y1014 (wrap64 (x12_4 + 1))))) else (none)) else (laws_FnBound.l2 kj39 t983 t984 t987 t988 x7_2 x8_4 (wrap64 (x12_4 + 1))))) else (none)) else (none)) = some r := by rw [if_pos rfl] at H; exact H
               clear H
               have H := H1
               clear H1
               by_cases c45 : 0 ≤ x12_4
               ·rw [if_pos c45] at H
                have c45b0 : decide (0 ≤ x12_4) = true := decide_eq_true c45
                clear c45
                by_cases c46 : x12_4 < (t983.length : Int)
                ·rw [if_pos c46] at H
                 have c46b0 : decide (x12_4 < (t983.length : Int)) = true := decide_eq_true c46
                 clear c46
                 replace H := Option.bind_eq_some_iff.mp H
                 obtain ⟨t1012, A470, H⟩ := H
                 replace H : (if t1012 = true then (if x8_4.length < 8796093022208 then ((some (x8_4 ++ [(rd_T39 t983 x12_4).f2] : List ByteArray)).bind fun y1014 => (if ((rd_T39 t983 x12_4).f1) = 2 then (if y1014.length < 8796093022208 then (laws_FnBound.l2 kj39 t983 t984 t987 t988 x7_2 (y1014 ++ [(rd_T39 t983 x12_4).f3]) (wrap64 (x12_4 + 1))) else (none)) else (laws_FnBound.l2 kj39 t983 t984 t987 t988 x7_2 y1014 (wrap64 (x12_4 + 1))))) else (none)) else (laws_FnBound.l2 kj39 t983 t984 t987 t988 x7_2 x8_4 (wrap64 (x12_4 + 1)))) = some r := H
                 have A47 := Aside0.mk A470
                 clear A470
                 by_cases c48 : t1012 = true
                 ·subst c48
                  have H1 : (if x8_4.length < 8796093022208 then ((some (x8_4 ++ [(rd_T39 t983 x12_4).f2] : List ByteArray)).bind fun y1014 => (if ((rd_T39 t983 x12_4).f1) = 2 then (if y1014.length < 8796093022208 then (laws_FnBound.l2 kj39 t983 t984 t987 t988 x7_2 (y1014 ++ [(rd_T39 t983 x12_4).f3]) (wrap64 (x12_4 + 1))) else (none)) else (laws_FnBound.l2 kj39 t983 t984 t987 t988 x7_2 y1014 (wrap64 (x12_4 + 1))))) else (none)) = some r := by rw [if_pos rfl] at H; exact H
                  clear H
                  have H := H1
                  clear H1
                  by_cases c49 : x8_4.length < 8796093022208
                  ·rw [if_pos c49] at H
                   have LMc49 := Aside0.mk c49
                   clear c49
                   obtain ⟨y1014, hy1014⟩ : ∃ y_ : List ByteArray, y_ = (x8_4 ++ [(rd_T39 t983 x12_4).f2]) := ⟨_, rfl⟩
                   replace H : (if ((rd_T39 t983 x12_4).f1) = 2 then (if y1014.length < 8796093022208 then (laws_FnBound.l2 kj39 t983 t984 t987 t988 x7_2 (y1014 ++ [(rd_T39 t983 x12_4).f3]) (wrap64 (x12_4 + 1))) else (none)) else (laws_FnBound.l2 kj39 t983 t984 t987 t988 x7_2 y1014 (wrap64 (x12_4 + 1)))) = some r := by first | (rw [hy1014]; with_reducible exact H) | (have H2_ := (Option.bind_some _ _).symm.trans H; rw [hy1014]; with_reducible exact H2_) | (have H2_ := (Option.bind_some _ _).symm.trans H; with_reducible exact H2_) | with_reducible exact H | (rw [hy1014]; exact H) | exact H
                   have Ny1014 := Aside0.mk hy1014
                   clear hy1014
                   by_cases c50 : ((rd_T39 t983 x12_4).f1) = 2
                   ·rw [if_pos c50] at H
                    have c50b0 : (((rd_T39 t983 x12_4).f1) == 2) = true := beq_iff_eq.mpr c50
                    have c50b1 : (((rd_T39 t983 x12_4).f1) != 2) = false := bne_eq_false_iff_eq.mpr c50
                    clear c50
                    by_cases c51 : y1014.length < 8796093022208
                    ·rw [if_pos c51] at H
                     have LMc51 := Aside0.mk c51
                     clear c51
                     obtain ⟨y1019, hy1019⟩ : ∃ y_ : List ByteArray, y_ = (y1014 ++ [(rd_T39 t983 x12_4).f3]) := ⟨_, rfl⟩
                     replace H : (laws_FnBound.l2 kj39 t983 t984 t987 t988 x7_2 y1019 (wrap64 (x12_4 + 1))) = some r := by first | (rw [hy1019]; with_reducible exact H) | (have H2_ := (Option.bind_some _ _).symm.trans H; rw [hy1019]; with_reducible exact H2_) | (have H2_ := (Option.bind_some _ _).symm.trans H; with_reducible exact H2_) | with_reducible exact H | (rw [hy1019]; exact H) | exact H
                     have Ny1019 := Aside0.mk hy1019
                     clear hy1019
                     have H' := Aside0.mk H
                     clear H
                     have p1011 : 0 ≤ (x12_4 : Int) := oda
                     have q1011 : x12_4 < (t983.length : Int) := oda
                     obtain ⟨ad1011, e1011, hx1011_0, hx1011_1, hx1011_2, hx1011_3, hx1011_4, hx1011_5, hx1011_6, hx1011_7⟩ := at_T39 (Kd.R_reads' HO_3.out).2.2 x12_4 p1011 q1011
                     cases e1011
                     replace p1011 := eq_true p1011
                     replace q1011 := eq_true q1011
                     go_wp2_with (first | ((with_reducible refine gate_callee (f := 45) rfl ?_); refine goesL_ (some 114) rfl rfl Try.func45 (by kernel_rfl) rfl #[.slice (some ad1011) t983.length co8, .string t984, .string ((rd_T39 t983 x12_4).f0)] rfl mxp ?_; (with_reducible refine (laws_wReach.calls kj39 _ _ t983 t984 ((rd_T39 t983 x12_4).f0) true _ ?side1 ?side2 A47.out).mono ?_); (case side1 => exact cx (Kd.R_reads' HO_3.out).2.2); (case side2 => exact (Kd.R_reads' HO_3.out).2.1); rintro e w' ⟨rfl, ⟨nd, rfl⟩⟩; refine ⟨_, rfl, ?_⟩; have p1013 : 0 ≤ (x12_4 : Int) := oda; have q1013 : x12_4 < (t983.length : Int) := oda; obtain ⟨ad1013, e1013, hx1013_0, hx1013_1, hx1013_2, hx1013_3, hx1013_4, hx1013_5, hx1013_6, hx1013_7⟩ := at_T39 (Kd.R_reads' HO_3.out).2.2 x12_4 p1013 q1013; obtain rfl : ad1011 = ad1013 := (by injection e1013); replace p1013 := eq_true p1013; replace q1013 := eq_true q1013) | ((with_reducible refine gate_builtin (b := .append) (xs := #[.tmp 115, .tmp 121]) rfl ?_); at_builtin; refine Kd.R_append Kd.string (w0 := w) w.heap.size rfl (.tmp 115) (.tmp 121) 32 9 (.string ⟨#[]⟩) 16 rfl Try.underlying32 info9 rfl (by decide) (by omega) u8 x8_4 ((rd_T39 t983 x12_4).f2) [.string ((rd_T39 t983 x12_4).f2)] (fun k_ => some k_ ≠ (v989 : Value).ownBlock) (fun _ => False) rfl rfl ?aP (fun _ hk => hk.elim) ?aF ?aO ?aB ?aS ?aL ?_; (case aP => exact rfl); (case aB => exact (bw HB.out)); (case aF => exact (fun k_ hk => Kd.fresh' (Kd.R_lt (rx HO_6.out)) k_ hk)); (case aO => exact (rx HO_8.out)); (case aS => exact (below_size (bw HB.out))); (case aL => have := LMc49.out; omega); intro v1015 w52 ho hb hg hat; rw [← Ny1014.out] at ho; have n0_ := Aside0.mk (Kd.R_over' (rx HO_3.out) (Kd.R_typed (rx HO_8.out)) (by decide) hg); have n1_ := Aside0.mk (Kd.R_after (ok := (fun _ => True)) (by refine rx ?_; exact Kd.R_mono HO_6.out (fun _ hk => ⟨trivial, hk⟩)) hg hat); have n2_ := Aside0.mk (hb); have n3_ := Aside0.mk (ho); clear HO_3; clear HO_6; clear HB; clear HO_8; have HO_3 := n0_; have HO_6 := n1_; have HB := n2_; have HO1016 := n3_; clear n0_ n1_ n2_ n3_; clear ho hb hg hat; have p1017 : 0 ≤ (x12_4 : Int) := oda; have q1017 : x12_4 < (t983.length : Int) := oda; obtain ⟨ad1017, e1017, hx1017_0, hx1017_1, hx1017_2, hx1017_3, hx1017_4, hx1017_5, hx1017_6, hx1017_7⟩ := at_T39 (Kd.R_reads' HO_3.out).2.2 x12_4 p1017 q1017; obtain rfl : ad1011 = ad1017 := (by injection e1017); replace p1017 := eq_true p1017; replace q1017 := eq_true q1017; have p1018 : 0 ≤ (x12_4 : Int) := oda; have q1018 : x12_4 < (t983.length : Int) := oda; obtain ⟨ad1018, e1018, hx1018_0, hx1018_1, hx1018_2, hx1018_3, hx1018_4, hx1018_5, hx1018_6, hx1018_7⟩ := at_T39 (Kd.R_reads' HO_3.out).2.2 x12_4 p1018 q1018; obtain rfl : ad1011 = ad1018 := (by injection e1018); replace p1018 := eq_true p1018; replace q1018 := eq_true q1018) | ((with_reducible refine gate_builtin (b := .append) (xs := #[.tmp 129, .tmp 135]) rfl ?_); at_builtin; refine Kd.R_append Kd.string (w0 := w) w.heap.size rfl (.tmp 129) (.tmp 135) 32 9 (.string ⟨#[]⟩) 16 rfl Try.underlying32 info9 rfl (by decide) (by omega) v1015 y1014 ((rd_T39 t983 x12_4).f3) [.string ((rd_T39 t983 x12_4).f3)] (fun k_ => some k_ ≠ (v989 : Value).ownBlock) (fun _ => False) rfl rfl ?aP (fun _ hk => hk.elim) ?aF ?aO ?aB ?aS ?aL ?_; (case aP => exact rfl); (case aB => exact (bw HB.out)); (case aF => exact (fun k_ hk => Kd.fresh' (Kd.R_lt (rx HO_6.out)) k_ hk)); (case aO => exact (rx HO1016.out)); (case aS => exact (below_size (bw HB.out))); (case aL => have := LMc51.out; omega); intro v1020 w53 ho hb hg hat; rw [← Ny1019.out] at ho; have n0_ := Aside0.mk (Kd.R_over' (rx HO_3.out) (Kd.R_typed (rx HO1016.out)) (by decide) hg); have n1_ := Aside0.mk (Kd.R_after (ok := (fun _ => True)) (rx HO_6.out) hg hat); have n2_ := Aside0.mk (hb); have n3_ := Aside0.mk (ho); clear HO_3; clear HO_6; clear HB; clear HO1016; have HO_3 := n0_; have HO_6 := n1_; have HB := n2_; have HO1021 := n3_; clear n0_ n1_ n2_ n3_; clear ho hb hg hat))
                     go_roundg kj39
                     case measure => have := HJ5.out; have := HK2.out; have := HJ22.out; have := HK4.out; have := HJ39.out; omega
                     case rel => exact ⟨(y1019), (wrap64 (x12_4 + 1)), (by first | rfl | (simp; done) | (simp [*]; done)), H', ⟨by have := HJ5.out; have := HK2.out; have := HJ22.out; have := HK4.out; have := HJ39.out; omega⟩, ⟨by refine rx ?_; exact HO_3.out⟩, ⟨by refine rx ?_; exact Kd.R_mono HO_6.out (fun _ hk => hk.2)⟩, ⟨by refine rx ?_; exact HO1021.out⟩, (hbw HB)⟩
                    ·rw [if_neg c51] at H
                     exact absurd H (by simp)
                   ·rw [if_neg c50] at H
                    have c50b0 : (((rd_T39 t983 x12_4).f1) == 2) = false := beq_eq_false_iff_ne.mpr c50
                    have c50b1 : (((rd_T39 t983 x12_4).f1) != 2) = true := bne_iff_ne.mpr c50
                    have H' := Aside0.mk H
                    clear H
                    have p1011 : 0 ≤ (x12_4 : Int) := oda
                    have q1011 : x12_4 < (t983.length : Int) := oda
                    obtain ⟨ad1011, e1011, hx1011_0, hx1011_1, hx1011_2, hx1011_3, hx1011_4, hx1011_5, hx1011_6, hx1011_7⟩ := at_T39 (Kd.R_reads' HO_3.out).2.2 x12_4 p1011 q1011
                    cases e1011
                    replace p1011 := eq_true p1011
                    replace q1011 := eq_true q1011
                    go_wp2_with (first | ((with_reducible refine gate_callee (f := 45) rfl ?_); refine goesL_ (some 114) rfl rfl Try.func45 (by kernel_rfl) rfl #[.slice (some ad1011) t983.length co8, .string t984, .string ((rd_T39 t983 x12_4).f0)] rfl mxp ?_; (with_reducible refine (laws_wReach.calls kj39 _ _ t983 t984 ((rd_T39 t983 x12_4).f0) true _ ?side1 ?side2 A47.out).mono ?_); (case side1 => exact cx (Kd.R_reads' HO_3.out).2.2); (case side2 => exact (Kd.R_reads' HO_3.out).2.1); rintro e w' ⟨rfl, ⟨nd, rfl⟩⟩; refine ⟨_, rfl, ?_⟩; have p1013 : 0 ≤ (x12_4 : Int) := oda; have q1013 : x12_4 < (t983.length : Int) := oda; obtain ⟨ad1013, e1013, hx1013_0, hx1013_1, hx1013_2, hx1013_3, hx1013_4, hx1013_5, hx1013_6, hx1013_7⟩ := at_T39 (Kd.R_reads' HO_3.out).2.2 x12_4 p1013 q1013; obtain rfl : ad1011 = ad1013 := (by injection e1013); replace p1013 := eq_true p1013; replace q1013 := eq_true q1013) | ((with_reducible refine gate_builtin (b := .append) (xs := #[.tmp 115, .tmp 121]) rfl ?_); at_builtin; refine Kd.R_append Kd.string (w0 := w) w.heap.size rfl (.tmp 115) (.tmp 121) 32 9 (.string ⟨#[]⟩) 16 rfl Try.underlying32 info9 rfl (by decide) (by omega) u8 x8_4 ((rd_T39 t983 x12_4).f2) [.string ((rd_T39 t983 x12_4).f2)] (fun k_ => some k_ ≠ (v989 : Value).ownBlock) (fun _ => False) rfl rfl ?aP (fun _ hk => hk.elim) ?aF ?aO ?aB ?aS ?aL ?_; (case aP => exact rfl); (case aB => exact (bw HB.out)); (case aF => exact (fun k_ hk => Kd.fresh' (Kd.R_lt (rx HO_6.out)) k_ hk)); (case aO => exact (rx HO_8.out)); (case aS => exact (below_size (bw HB.out))); (case aL => have := LMc49.out; omega); intro v1015 w54 ho hb hg hat; rw [← Ny1014.out] at ho; have n0_ := Aside0.mk (Kd.R_over' (rx HO_3.out) (Kd.R_typed (rx HO_8.out)) (by decide) hg); have n1_ := Aside0.mk (Kd.R_after (ok := (fun _ => True)) (by refine rx ?_; exact Kd.R_mono HO_6.out (fun _ hk => ⟨trivial, hk⟩)) hg hat); have n2_ := Aside0.mk (hb); have n3_ := Aside0.mk (ho); clear HO_3; clear HO_6; clear HB; clear HO_8; have HO_3 := n0_; have HO_6 := n1_; have HB := n2_; have HO1016 := n3_; clear n0_ n1_ n2_ n3_; clear ho hb hg hat; have p1017 : 0 ≤ (x12_4 : Int) := oda; have q1017 : x12_4 < (t983.length : Int) := oda; obtain ⟨ad1017, e1017, hx1017_0, hx1017_1, hx1017_2, hx1017_3, hx1017_4, hx1017_5, hx1017_6, hx1017_7⟩ := at_T39 (Kd.R_reads' HO_3.out).2.2 x12_4 p1017 q1017; obtain rfl : ad1011 = ad1017 := (by injection e1017); replace p1017 := eq_true p1017; replace q1017 := eq_true q1017))
                    go_roundg kj39
                    case measure => have := HJ5.out; have := HK2.out; have := HJ22.out; have := HK4.out; have := HJ39.out; omega
                    case rel => exact ⟨(y1014), (wrap64 (x12_4 + 1)), (by first | rfl | (simp; done) | (simp [*]; done)), H', ⟨by have := HJ5.out; have := HK2.out; have := HJ22.out; have := HK4.out; have := HJ39.out; omega⟩, ⟨by refine rx ?_; exact HO_3.out⟩, ⟨by refine rx ?_; exact Kd.R_mono HO_6.out (fun _ hk => hk.2)⟩, ⟨by refine rx ?_; exact HO1016.out⟩, (hbw HB)⟩
                  ·rw [if_neg c49] at H
                   exact absurd H (by simp)
                 ·replace c48 := Bool.eq_false_iff.mpr c48
                  subst c48
                  have H1 : (laws_FnBound.l2 kj39 t983 t984 t987 t988 x7_2 x8_4 (wrap64 (x12_4 + 1))) = some r := by rw [if_neg (show ¬ (false = true) by decide)] at H; exact H
                  clear H
                  have H := H1
                  clear H1
                  have H' := Aside0.mk H
                  clear H
                  have p1011 : 0 ≤ (x12_4 : Int) := oda
                  have q1011 : x12_4 < (t983.length : Int) := oda
                  obtain ⟨ad1011, e1011, hx1011_0, hx1011_1, hx1011_2, hx1011_3, hx1011_4, hx1011_5, hx1011_6, hx1011_7⟩ := at_T39 (Kd.R_reads' HO_3.out).2.2 x12_4 p1011 q1011
                  cases e1011
                  replace p1011 := eq_true p1011
                  replace q1011 := eq_true q1011
                  go_wp2_with (first | ((with_reducible refine gate_callee (f := 45) rfl ?_); refine goesL_ (some 114) rfl rfl Try.func45 (by kernel_rfl) rfl #[.slice (some ad1011) t983.length co8, .string t984, .string ((rd_T39 t983 x12_4).f0)] rfl mxp ?_; (with_reducible refine (laws_wReach.calls kj39 _ _ t983 t984 ((rd_T39 t983 x12_4).f0) false _ ?side1 ?side2 A47.out).mono ?_); (case side1 => exact cx (Kd.R_reads' HO_3.out).2.2); (case side2 => exact (Kd.R_reads' HO_3.out).2.1); rintro e w' ⟨rfl, ⟨nd, rfl⟩⟩; refine ⟨_, rfl, ?_⟩))
                  go_roundg kj39
                  case measure => have := HJ5.out; have := HK2.out; have := HJ22.out; have := HK4.out; have := HJ39.out; omega
                  case rel => exact ⟨(x8_4), (wrap64 (x12_4 + 1)), (by first | rfl | (simp; done) | (simp [*]; done)), H', ⟨by have := HJ5.out; have := HK2.out; have := HJ22.out; have := HK4.out; have := HJ39.out; omega⟩, ⟨by refine rx ?_; exact HO_3.out⟩, ⟨by refine rx ?_; exact HO_6.out⟩, ⟨by refine rx ?_; exact HO_8.out⟩, (hbw HB)⟩
                ·rw [if_neg c46] at H
                 exact absurd H (by simp)
               ·rw [if_neg c45] at H
                exact absurd H (by simp)
              ·replace c44 := Bool.eq_false_iff.mpr c44
               subst c44
               have H1 : (if x7_2 = t987 then ((laws_wAll.f kj39 x8_4 t988).bind fun t1009 => (if t1009 = true then ((laws_wAll.f kj39 t988 x8_4).bind fun t1010 => (some t1010)) else (some false))) else (some false)) = some r := by rw [if_neg (show ¬ (false = true) by decide)] at H; exact H
               clear H
               have H := H1
               clear H1
               by_cases c55 : x7_2 = t987
               ·rw [if_pos c55] at H
                have c55b0 : (x7_2 == t987) = true := beq_iff_eq.mpr c55
                have c55b1 : (x7_2 != t987) = false := bne_eq_false_iff_eq.mpr c55
                clear c55
                replace H := Option.bind_eq_some_iff.mp H
                obtain ⟨t1009, A560, H⟩ := H
                replace H : (if t1009 = true then ((laws_wAll.f kj39 t988 x8_4).bind fun t1010 => (some t1010)) else (some false)) = some r := H
                have A56 := Aside0.mk A560
                clear A560
                by_cases c57 : t1009 = true
                ·subst c57
                 have H1 : ((laws_wAll.f kj39 t988 x8_4).bind fun t1010 => (some t1010)) = some r := by rw [if_pos rfl] at H; exact H
                 clear H
                 have H := H1
                 clear H1
                 replace H := Option.bind_eq_some_iff.mp H
                 obtain ⟨t1010, A580, H⟩ := H
                 replace H : (some t1010) = some r := H
                 have A58 := Aside0.mk A580
                 clear A580
                 obtain rfl := Option.some.inj H
                 obtain ⟨Ao59, co59, eo59⟩ := Kd.R_slice HO_8.out
                 subst eo59
                 obtain ⟨Ao60, co60, eo60⟩ := Kd.R_slice HO_6.out
                 subst eo60
                 go_wp2_with (first | (go_at_call 29; (with_reducible refine (laws_wAll.calls kj39 _ _ x8_4 _ _ t988 true _ ?side1 ?side2 ?side3 ?side4 A56.out).mono ?_); (case side1 => exact cx (Kd.R_reads' HO_8.out).2.2); (case side2 => exact (Kd.R_reads' HO_8.out).2.1); (case side3 => exact cx (Kd.R_reads' HO_6.out).2.2); (case side4 => exact (Kd.R_reads' HO_6.out).2.1); rintro e w' ⟨rfl, ⟨nd, rfl⟩⟩) | (go_at_call 29; (with_reducible refine (laws_wAll.calls kj39 _ _ t988 _ _ x8_4 t1010 _ ?side1 ?side2 ?side3 ?side4 A58.out).mono ?_); (case side1 => exact cx (Kd.R_reads' HO_6.out).2.2); (case side2 => exact (Kd.R_reads' HO_6.out).2.1); (case side3 => exact cx (Kd.R_reads' HO_8.out).2.2); (case side4 => exact (Kd.R_reads' HO_8.out).2.1); rintro e w' ⟨rfl, ⟨nd, rfl⟩⟩))
                 go_ret
                 exact ⟨exq, bw HB.out⟩
                ·replace c57 := Bool.eq_false_iff.mpr c57
                 subst c57
                 have H1 : (some false) = some r := by rw [if_neg (show ¬ (false = true) by decide)] at H; exact H
                 clear H
                 have H := H1
                 clear H1
                 obtain rfl := Option.some.inj H
                 obtain ⟨Ao61, co61, eo61⟩ := Kd.R_slice HO_8.out
                 subst eo61
                 obtain ⟨Ao62, co62, eo62⟩ := Kd.R_slice HO_6.out
                 subst eo62
                 go_wp2_with (first | (go_at_call 29; (with_reducible refine (laws_wAll.calls kj39 _ _ x8_4 _ _ t988 false _ ?side1 ?side2 ?side3 ?side4 A56.out).mono ?_); (case side1 => exact cx (Kd.R_reads' HO_8.out).2.2); (case side2 => exact (Kd.R_reads' HO_8.out).2.1); (case side3 => exact cx (Kd.R_reads' HO_6.out).2.2); (case side4 => exact (Kd.R_reads' HO_6.out).2.1); rintro e w' ⟨rfl, ⟨nd, rfl⟩⟩))
                 go_ret
                 exact ⟨exq, bw HB.out⟩
               ·rw [if_neg c55] at H
                have c55b0 : (x7_2 == t987) = false := beq_eq_false_iff_ne.mpr c55
                have c55b1 : (x7_2 != t987) = true := bne_iff_ne.mpr c55
                obtain rfl := Option.some.inj H
                go_wp2
                go_ret
                exact ⟨exq, bw HB.out⟩

/-- THE ONE PURE STATEMENT of laws_FnBound: yours. -/
def laws_FnBound.Pure : Prop := ∀ (l0 : List Int), l0.length ≤ maxLen → l0.length * 1 ≤ 140737488351232 → (∀ x ∈ l0, (Lit.int .u8 x).wf = true) → ∃ k, laws_FnBound.f k l0 = some true
theorem laws_FnBound.walk (P : laws_FnBound.Pure) (a0 : Option Addr) (len0 cap0 : Nat) (z0 : List Int) (w : World) (w0 : (a0 = none ∧ len0 = 0 ∧ cap0 = 0 ∧ z0 = []) ∨ ∃ x, a0 = some x ∧ len0 ≤ cap0 ∧ cap0 ≤ maxLen ∧ z0.length = cap0 ∧ (∀ i, i < z0.length → w.cell? (x.add i) = some (.int .u8 (z0.getD i 0))) ∧ ∀ n ∈ z0, (Lit.int .u8 n).wf = true) (y0 : len0 * 1 ≤ 140737488351232) :
  Calls Try.prog 17 #[.slice a0 len0 cap0] w fun e w' => e = .returned (.bool true) ∧ Below w.heap.size w w' := by
 obtain ⟨l0, rfl, hr0, hm0, hw0, hc0⟩ := ReadsInt.ofRowC w0
 obtain ⟨k, h⟩ := P l0 hm0 y0 hw0
 refine (laws_FnBound.calls k _ _ l0 true w (Kd.C_of_reads (d := (0 : Int)) (h1 := fun _ => rfl) hr0) hc0 h).mono ?_
 rintro e w' ⟨rfl, hd⟩
 exact ⟨rfl, hd⟩

end Go.Proofs.Ytdkologncoofdaa.P
-- Q7
namespace Go.Proofs.Ytdkologncoofdaa.P
open Go.RowKit Go.Proofs.YtdkologncoofdaaW.PrintWords Go.Proofs.YtdkologncoofdaaW.PrintLast
set_option linter.unusedVariables false
set_option linter.unusedSimpArgs false

theorem xor64 (a b : Int) (h1 : 0 ≤ a) (h2 : a < 4611686018427387904) (h3 : 0 ≤ b) (h4 : b < 4611686018427387904) : 0 ≤ Go.bits .xor .i64 a b ∧ Go.bits .xor .i64 a b < 4611686018427387904 := by
  obtain ⟨A, rfl⟩ := Int.eq_ofNat_of_zero_le h1
  obtain ⟨B, rfl⟩ := Int.eq_ofNat_of_zero_le h3
  have hx : A ^^^ B < 2 ^ 62 := Nat.xor_lt_two_pow (by omega) (by omega)
  have e : Go.bits .xor .i64 (A : Int) (B : Int) = ((A ^^^ B : Nat) : Int) := by
    show IntKind.i64.wrap ((BitVec.ofInt 64 (A : Int) ^^^ BitVec.ofInt 64 (B : Int)).toNat : Int) = _
    rw [i64_w, BitVec.toNat_xor, show (BitVec.ofInt 64 (A : Int)).toNat = A from by simp [BitVec.toNat_ofInt]; omega, show (BitVec.ofInt 64 (B : Int)).toNat = B from by simp [BitVec.toNat_ofInt]; omega]
    exact wrap_id (by omega) (by omega)
  rw [e]
  omega

/-- A reader's bytes. -/
def Bytes (b : List Int) : Prop := b.length ≤ 2000 ∧ ∀ x ∈ b, 0 ≤ x ∧ x ≤ 255
theorem Bytes.rd_ok {b : List Int} (h : Bytes b) (i : Int) : 0 ≤ rd b i ∧ rd b i ≤ 255 := by
  unfold rd
  rw [List.getD_eq_getElem?_getD]
  cases e : b[i.toNat]? with
  | none => simp
  | some x => simpa using h.2 x (List.mem_of_getElem? e)
theorem tmod_pos {x n : Int} (h : 0 ≤ x) (hn : 1 ≤ n) : 0 ≤ Int.tmod x n ∧ Int.tmod x n < n := ⟨Int.tmod_nonneg _ h, Int.tmod_lt_of_pos _ (by omega)⟩

theorem pick_ok {b : List Int} (hb : Bytes b) {p : Int} (h0 : 0 ≤ p) (h1 : p ≤ 1000000000) (n : Int) (k : Nat) (hk : 1 ≤ k) :
    ∃ v, spec_l1Rd_pick.f k b p n = some (v, p + 1) ∧ 0 ≤ v ∧ (1 ≤ n → v < n) := by
  obtain ⟨k, rfl⟩ : ∃ m, k = m + 1 := ⟨k - 1, by omega⟩
  have hl := hb.1
  unfold spec_l1Rd_pick.f
  rw [wrap_id (x := p + 1) (by omega) (by omega)]
  by_cases c : n < 1
  · rw [if_pos c]
    simp only [spec_l1Rd_pick.j0]
    rw [if_pos trivial]
    exact ⟨0, rfl, by omega, fun z => by omega⟩
  · rw [if_neg c]
    simp only [spec_l1Rd_pick.j0]
    by_cases e : (b.length : Int) = 0
    · rw [if_pos (by simpa using e)]
      exact ⟨0, rfl, by omega, fun z => by omega⟩
    · rw [if_neg (by simpa using e), show wrap64 (p + 1 - 1) = p from by rw [wrap_id (by omega) (by omega)]; omega]
      by_cases hp : p < (b.length : Int)
      · rw [if_pos hp, if_pos h0, if_neg (by omega)]
        have hr := hb.rd_ok p
        rw [wrap_id (by omega) (by omega)]
        have := tmod_pos hr.1 (show 1 ≤ n by omega)
        exact ⟨_, rfl, this.1, fun _ => this.2⟩
      · have hL : 1 ≤ (b.length : Int) := by omega
        have m1 := tmod_pos h0 hL
        have w7 : wrap64 (p * 7) = p * 7 := wrap_id (by omega) (by omega)
        have w73 : wrap64 (p * 7 + 3) = p * 7 + 3 := wrap_id (by omega) (by omega)
        have m2 := tmod_pos (show 0 ≤ p * 7 + 3 by omega) hL
        rw [if_neg hp, if_neg e, w7, w73, if_pos m1.1, if_pos m1.2, if_pos m2.1, if_pos m2.2, if_neg (by omega)]
        have r1 := hb.rd_ok (Int.tmod p b.length)
        have r2 := hb.rd_ok (Int.tmod (p * 7 + 3) b.length)
        generalize rd b (Int.tmod p b.length) = x1 at r1 ⊢
        generalize rd b (Int.tmod (p * 7 + 3) b.length) = x2 at r2 ⊢
        have d1 : 0 ≤ Int.tdiv p b.length ∧ Int.tdiv p b.length ≤ p := ⟨Int.tdiv_nonneg h0 (by omega), by rw [Int.tdiv_eq_ediv_of_nonneg h0]; exact Int.ediv_le_self _ h0⟩
        generalize Int.tdiv p b.length = dd at d1 ⊢
        have e1 : wrap64 x1 = x1 := wrap_id (by omega) (by omega)
        have e2 : wrap64 x2 = x2 := wrap_id (by omega) (by omega)
        have e3 : wrap64 dd = dd := wrap_id (by omega) (by omega)
        have e4 : wrap64 (x1 * 131) = x1 * 131 := wrap_id (by omega) (by omega)
        have e5 : wrap64 (x2 * 1117) = x2 * 1117 := wrap_id (by omega) (by omega)
        have e6 : wrap64 (x1 * 131 + x2 * 1117) = x1 * 131 + x2 * 1117 := wrap_id (by omega) (by omega)
        have e7 : wrap64 (p * 29) = p * 29 := wrap_id (by omega) (by omega)
        have e8 : wrap64 (x1 * 131 + x2 * 1117 + p * 29) = x1 * 131 + x2 * 1117 + p * 29 := wrap_id (by omega) (by omega)
        have e9 : wrap64 (dd * 53) = dd * 53 := wrap_id (by omega) (by omega)
        have e10 : wrap64 (x1 * 131 + x2 * 1117 + p * 29 + dd * 53) = x1 * 131 + x2 * 1117 + p * 29 + dd * 53 := wrap_id (by omega) (by omega)
        rw [e1, e2, e3, e4, e5, e6, e7, e8, e9, e10]
        have hy : 0 ≤ x1 * 131 + x2 * 1117 + p * 29 + dd * 53 ∧ x1 * 131 + x2 * 1117 + p * 29 + dd * 53 < 4611686018427387904 := by omega
        generalize x1 * 131 + x2 * 1117 + p * 29 + dd * 53 = y at hy ⊢
        have hq : 0 ≤ Int.tdiv y 64 ∧ Int.tdiv y 64 ≤ y := ⟨Int.tdiv_nonneg hy.1 (by omega), by rw [Int.tdiv_eq_ediv_of_nonneg hy.1]; exact Int.ediv_le_self _ hy.1⟩
        rw [wrap_id (x := Int.tdiv y 64) (by omega) (by omega)]
        have hxor := xor64 y (Int.tdiv y 64) hy.1 hy.2 hq.1 (by omega)
        have := tmod_pos hxor.1 (show 1 ≤ n by omega)
        exact ⟨_, rfl, this.1, fun _ => this.2⟩
theorem of_ok {b : List Int} (hb : Bytes b) {p : Int} (h0 : 0 ≤ p) (h1 : p ≤ 1000000000) (l : List ByteArray) (hl : 1 ≤ l.length) (k : Nat) (hk : 1 ≤ k) :
    ∃ v, spec_l1Rd_of.f k b p l = some (v, p + 1) ∧ v ∈ l := by
  obtain ⟨v, hv, h2, h3⟩ := pick_ok hb h0 h1 (l.length : Int) k hk
  have h3 := h3 (by omega)
  unfold spec_l1Rd_of.f
  rw [hv, Option.bind_some, if_pos h2, if_pos h3]
  refine ⟨_, rfl, ?_⟩
  simp only [rdOf]
  rw [List.getD_eq_getElem?_getD, List.getElem?_eq_getElem (show v.toNat < l.length by omega)]
  exact List.getElem_mem _
theorem slot_ok {b : List Int} (hb : Bytes b) {p : Int} (h0 : 0 ≤ p) (h1 : p ≤ 1000000000) (k : Nat) (hk : 1 ≤ k) : ∃ v, spec_l5Slot.f k b p = some (v, p + 1) := by
  unfold spec_l5Slot.f
  obtain ⟨v, hv, _⟩ := of_ok hb h0 h1 ([(⟨#[115, 49]⟩ : ByteArray), (⟨#[115, 49]⟩ : ByteArray), (⟨#[115, 50]⟩ : ByteArray), (⟨#[115, 51]⟩ : ByteArray), (⟨#[107, 101, 103]⟩ : ByteArray)]) (by simp) k hk
  exact ⟨v, by rw [hv]; rfl⟩
/-- The eight cells of a phase beside where the reader then is. -/
def tup (x : S39) (p : Int) : ByteArray × Int × ByteArray × ByteArray × Int × Int × ByteArray × ByteArray × Int := (x.f0, x.f1, x.f2, x.f3, x.f4, x.f5, x.f6, x.f7, p)
theorem ph_j0 {b : List Int} (hb : Bytes b) {p : Int} (h0 : 0 ≤ p) (h1 : p ≤ 900000000) (l : List ByteArray) (hl : l.length ≤ 1000) (n : ByteArray) (kd : Int) (A B : ByteArray) (N W : Int) (T E : ByteArray) (k : Nat) (hk : 2 ≤ k) :
    ∃ (x : S39) (q : Int), spec_l5Phase.j0 k l b p n kd A B N W T E = some (tup x q) ∧ p ≤ q ∧ q ≤ p + 3 := by
  obtain ⟨k, rfl⟩ : ∃ m, k = m + 1 := ⟨k - 1, by omega⟩
  simp only [spec_l5Phase.j0, Option.bind_some]
  rw [if_pos (by simp; omega)]
  generalize hy : ([(⟨#[103, 111, 111, 100]⟩ : ByteArray), (⟨#[115, 97, 118, 101, 100]⟩ : ByteArray), (⟨#[115, 99, 114, 97, 112, 112, 101, 100]⟩ : ByteArray)] ++ l) = y
  have hyl : 1 ≤ y.length := by rw [← hy]; simp
  obtain ⟨v1, e1, _⟩ := of_ok hb h0 (show p ≤ 1000000000 by omega) y hyl k (by omega)
  obtain ⟨v2, e2, _⟩ := of_ok hb (show 0 ≤ p + 1 by omega) (by omega) y hyl k (by omega)
  rw [e1]
  simp only [Option.bind_some]
  rw [e2]
  simp only [Option.bind_some]
  by_cases c : (l.length : Int) > 0
  · rw [if_pos c]
    obtain ⟨v3, e3, _, _⟩ := pick_ok hb (show 0 ≤ p + 1 + 1 by omega) (by omega) 4 k (by omega)
    rw [e3]
    simp only [Option.bind_some]
    by_cases c2 : v3 > 0
    · rw [if_pos c2, if_pos c]
      exact ⟨⟨n, kd, A, B, N, W, _, v2⟩, _, rfl, by omega, by omega⟩
    · rw [if_neg c2]
      exact ⟨⟨n, kd, A, B, N, W, v1, v2⟩, _, rfl, by omega, by omega⟩
  · rw [if_neg c]
    exact ⟨⟨n, kd, A, B, N, W, v1, v2⟩, _, rfl, by omega, by omega⟩
theorem drawn_phase {b : List Int} (hb : Bytes b) {p : Int} (h0 : 0 ≤ p) (h1 : p ≤ 800000000) (n : ByteArray) (l : List ByteArray) (hl : l.length ≤ 1000) (k : Nat) (hk : 2 ≤ k) :
    ∃ (x : S39) (q : Int), spec_l5Phase.f k b p n l = some (tup x q) ∧ p ≤ q ∧ q ≤ p + 20 := by
  unfold spec_l5Phase.f
  obtain ⟨v1, e1, r1, s1⟩ := pick_ok hb h0 (show p ≤ 1000000000 by omega) 5 k (by omega)
  obtain ⟨v2, e2⟩ := slot_ok hb (show 0 ≤ p + 1 by omega) (by omega) k (by omega)
  obtain ⟨v3, e3, r3, s3⟩ := pick_ok hb (show 0 ≤ p + 1 + 1 by omega) (by omega) 20 k (by omega)
  rw [e1]; simp only [Option.bind_some]
  rw [e2]; simp only [Option.bind_some]
  rw [e3]; simp only [Option.bind_some]
  have hj := fun (q : Int) (hq : p ≤ q) (hq2 : q ≤ p + 17) n kd A B N W T E => ph_j0 hb (show 0 ≤ q by omega) (show q ≤ 900000000 by omega) l hl n kd A B N W T E k hk
  split
  · obtain ⟨v4, e4, _⟩ := of_ok hb (show 0 ≤ p + 1 + 1 + 1 by omega) (by omega) [(⟨#[97, 108, 101]⟩ : ByteArray), (⟨#[109, 97, 108, 116]⟩ : ByteArray)] (by simp) k (by omega)
    obtain ⟨v5, e5, _, _⟩ := pick_ok hb (show 0 ≤ p + 1 + 1 + 1 + 1 by omega) (by omega) 30 k (by omega)
    rw [e4]; simp only [Option.bind_some]
    rw [e5]; simp only [Option.bind_some]
    obtain ⟨x, q, hx, ha, hz⟩ := hj (p + 1 + 1 + 1 + 1 + 1) (by omega) (by omega) n (wrap64 (1 + v1)) v2 v4 (wrap64 (1 + v5)) (wrap64 (1 + v3)) ⟨#[]⟩ ⟨#[]⟩
    exact ⟨x, q, hx, by omega, by omega⟩
  · split
    · obtain ⟨v4, e4⟩ := slot_ok hb (show 0 ≤ p + 1 + 1 + 1 by omega) (by omega) k (by omega)
      obtain ⟨v5, e5, _, _⟩ := pick_ok hb (show 0 ≤ p + 1 + 1 + 1 + 1 by omega) (by omega) 30 k (by omega)
      rw [e4]; simp only [Option.bind_some]
      rw [e5]; simp only [Option.bind_some]
      split
      · obtain ⟨x, q, hx, ha, hz⟩ := hj (p + 1 + 1 + 1 + 1 + 1) (by omega) (by omega) n (wrap64 (1 + v1)) v2 ⟨#[118, 97, 116]⟩ (wrap64 (1 + v5)) (wrap64 (1 + v3)) ⟨#[]⟩ ⟨#[]⟩
        exact ⟨x, q, hx, by omega, by omega⟩
      · obtain ⟨x, q, hx, ha, hz⟩ := hj (p + 1 + 1 + 1 + 1 + 1) (by omega) (by omega) n (wrap64 (1 + v1)) v2 v4 (wrap64 (1 + v5)) (wrap64 (1 + v3)) ⟨#[]⟩ ⟨#[]⟩
        exact ⟨x, q, hx, by omega, by omega⟩
    · split
      · obtain ⟨v5, e5, _, _⟩ := pick_ok hb (show 0 ≤ p + 1 + 1 + 1 by omega) (by omega) (wrap64 (1 + v3)) k (by omega)
        rw [e5]; simp only [Option.bind_some]
        obtain ⟨x, q, hx, ha, hz⟩ := hj (p + 1 + 1 + 1 + 1) (by omega) (by omega) n (wrap64 (1 + v1)) v2 ⟨#[]⟩ (wrap64 (1 + v5)) (wrap64 (1 + v3)) ⟨#[]⟩ ⟨#[]⟩
        exact ⟨x, q, hx, by omega, by omega⟩
      · obtain ⟨x, q, hx, ha, hz⟩ := hj (p + 1 + 1 + 1) (by omega) (by omega) n (wrap64 (1 + v1)) v2 ⟨#[]⟩ 0 (wrap64 (1 + v3)) ⟨#[]⟩ ⟨#[]⟩
        exact ⟨x, q, hx, by omega, by omega⟩
theorem open_ok (l : List Int) (hb : ∀ x ∈ l, 0 ≤ x ∧ x ≤ 255) : ∃ b, spec_l1Open.f l = some (b, 0) ∧ Bytes b := by
  unfold spec_l1Open.f
  by_cases h : (l.length : Int) > 2000
  · rw [if_pos h, if_pos (by omega)]
    exact ⟨_, rfl, by rw [List.length_take]; omega, fun x hx => hb x (List.mem_of_mem_take hx)⟩
  · rw [if_neg h]
    exact ⟨_, rfl, by omega, hb⟩

end Go.Proofs.Ytdkologncoofdaa.P
-- Q8
namespace Go.Proofs.Ytdkologncoofdaa.P
open Go.RowKit Go.Proofs.YtdkologncoofdaaW.PrintWords Go.Proofs.YtdkologncoofdaaW.PrintLast
set_option linter.unusedVariables false
set_option linter.unusedSimpArgs false

theorem spoilt_phase {b : List Int} (hb : Bytes b) {p : Int} (h0 : 0 ≤ p) (h1 : p ≤ 800000000) (x : S39) (k : Nat) (hk : 2 ≤ k) :
    ∃ (y : S39) (q : Int), spec_l5SpoilPhase.f k b p x.f0 x.f1 x.f2 x.f3 x.f4 x.f5 x.f6 x.f7 = some (tup y q) ∧ p ≤ q ∧ q ≤ p + 5 := by
  unfold spec_l5SpoilPhase.f
  obtain ⟨v1, e1, r1, s1⟩ := pick_ok hb h0 (show p ≤ 1000000000 by omega) 8 k (by omega)
  rw [e1]; simp only [Option.bind_some]
  have ho := fun (l : List ByteArray) (hl : 1 ≤ l.length) => of_ok hb (show 0 ≤ p + 1 by omega) (by omega) l hl k (by omega)
  have hp := fun (n : Int) => pick_ok hb (show 0 ≤ p + 1 by omega) (by omega) n k (by omega)
  split
  · obtain ⟨v, e, _⟩ := ho ([(⟨#[]⟩ : ByteArray), (⟨#[65]⟩ : ByteArray), (⟨#[103, 111, 111, 100]⟩ : ByteArray), (⟨#[102, 49]⟩ : ByteArray), (⟨#[110, 105, 110, 101, 45, 98, 121, 116, 101, 115]⟩ : ByteArray)]) (by simp)
    rw [e]
    exact ⟨⟨v, x.f1, x.f2, x.f3, x.f4, x.f5, x.f6, x.f7⟩, _, rfl, by omega, by omega⟩
  · split
    · obtain ⟨v, e, _⟩ := hp 8
      rw [e]
      exact ⟨⟨x.f0, wrap64 (v - 1), x.f2, x.f3, x.f4, x.f5, x.f6, x.f7⟩, _, rfl, by omega, by omega⟩
    · split
      · obtain ⟨v, e, _⟩ := ho ([(⟨#[]⟩ : ByteArray), (⟨#[65]⟩ : ByteArray), x.f3, (⟨#[103, 111, 111, 100]⟩ : ByteArray)]) (by simp)
        rw [e]
        exact ⟨⟨x.f0, x.f1, v, x.f3, x.f4, x.f5, x.f6, x.f7⟩, _, rfl, by omega, by omega⟩
      · split
        · obtain ⟨v, e, _⟩ := ho ([(⟨#[]⟩ : ByteArray), (⟨#[65]⟩ : ByteArray), x.f2, (⟨#[103, 111, 111, 100]⟩ : ByteArray)]) (by simp)
          rw [e]
          exact ⟨⟨x.f0, x.f1, x.f2, v, x.f4, x.f5, x.f6, x.f7⟩, _, rfl, by omega, by omega⟩
        · split
          · obtain ⟨v, e, r, s⟩ := hp 7
            rw [e]; simp only [Option.bind_some]
            rw [if_pos r, if_pos (by simpa using s (by omega))]
            exact ⟨⟨x.f0, x.f1, x.f2, x.f3, rd [-1, 0, 1, x.f5, wrap64 (x.f5 + 1), 1000, 1001] v, x.f5, x.f6, x.f7⟩, p + 1 + 1, rfl, by omega, by omega⟩
          · split
            · obtain ⟨v, e, r, s⟩ := hp 5
              rw [e]; simp only [Option.bind_some]
              rw [if_pos r, if_pos (by simpa using s (by omega))]
              exact ⟨⟨x.f0, x.f1, x.f2, x.f3, x.f4, rd [-1, 0, 1, 1000, 1001] v, x.f6, x.f7⟩, p + 1 + 1, rfl, by omega, by omega⟩
            · split
              · obtain ⟨v, e, _⟩ := ho ([(⟨#[]⟩ : ByteArray), (⟨#[98, 114, 101, 119]⟩ : ByteArray), (⟨#[102, 49]⟩ : ByteArray), (⟨#[114, 101, 115, 116]⟩ : ByteArray), (⟨#[110, 111, 110, 101]⟩ : ByteArray)]) (by simp)
                rw [e]
                exact ⟨⟨x.f0, x.f1, x.f2, x.f3, x.f4, x.f5, v, x.f7⟩, _, rfl, by omega, by omega⟩
              · obtain ⟨v, e, _⟩ := ho ([(⟨#[]⟩ : ByteArray), (⟨#[98, 114, 101, 119]⟩ : ByteArray), (⟨#[102, 49]⟩ : ByteArray), (⟨#[114, 101, 115, 116]⟩ : ByteArray), (⟨#[110, 111, 110, 101]⟩ : ByteArray)]) (by simp)
                rw [e]
                exact ⟨⟨x.f0, x.f1, x.f2, x.f3, x.f4, x.f5, x.f6, v⟩, _, rfl, by omega, by omega⟩

end Go.Proofs.Ytdkologncoofdaa.P
-- Q14
namespace Go.Proofs.Ytdkologncoofdaa.P
open Go.RowKit Go.Proofs.YtdkologncoofdaaW.PrintWords Go.Proofs.YtdkologncoofdaaW.PrintLast
set_option linter.unusedVariables false
set_option linter.unusedSimpArgs false

theorem dec_ok (n : Int) (h0 : 0 ≤ n) (h : n ≤ 12) (k : Nat) (hk : 2 ≤ k) : ∃ t, spec_l3Dec.f k n = some t ∧ t.size ≤ 100 := by
  obtain ⟨k, rfl⟩ : ∃ m, k = m + 2 := ⟨k - 2, by omega⟩
  rw [spec_l3Dec.f]
  by_cases h10 : n < 10
  · rw [if_pos h10]
    exact ⟨_, rfl, by rw [strOfNums_size]; simp⟩
  · have ht : wrap64 (Int.tdiv n 10) = 1 := by
      rcases (show n = 10 ∨ n = 11 ∨ n = 12 by omega) with rfl | rfl | rfl
      · rw [show Int.tdiv 10 10 = 1 by decide]; exact wrap_id (by omega) (by omega)
      · rw [show Int.tdiv 11 10 = 1 by decide]; exact wrap_id (by omega) (by omega)
      · rw [show Int.tdiv 12 10 = 1 by decide]; exact wrap_id (by omega) (by omega)
    rw [if_neg h10, ht, spec_l3Dec.f, if_pos (by omega)]
    simp only [Option.bind_some]
    rw [if_pos (by rw [strOfNums_size, strOfNums_size]; simp)]
    exact ⟨_, rfl, by rw [ByteArray.size_append, strOfNums_size, strOfNums_size]; simp⟩

theorem rec_l1 {b : List Int} (hb : Bytes b) (d : Nat) : ∀ (x : List S39) (i p : Int) (k : Nat), 12 - x.length = d → x.length ≤ 12 → 0 ≤ i → i + d ≤ 12 → 0 ≤ p → p ≤ 700000000 - 20 * d → d + 3 ≤ k →
    ∃ y q, spec_l5Recipe.l1 k x i b p = some (y, q) ∧ x.length ≤ y.length ∧ y.length ≤ 12 ∧ p ≤ q ∧ q ≤ p + 20 * d := by
  induction d with
  | zero =>
    intro x i p k hd hx hi hi2 h0 h1 hk
    obtain ⟨k, rfl⟩ : ∃ m, k = m + 1 := ⟨k - 1, by omega⟩
    rw [spec_l5Recipe.l1, if_neg (by omega)]
    exact ⟨x, p, rfl, by omega, by omega, by omega, by omega⟩
  | succ d ih =>
    intro x i p k hd hx hi hi2 h0 h1 hk
    obtain ⟨k, rfl⟩ : ∃ m, k = m + 1 := ⟨k - 1, by omega⟩
    obtain ⟨t, et, ht⟩ := dec_ok i hi (by omega) k (by omega)
    obtain ⟨z, q, ez, h2, h3⟩ := drawn_phase hb h0 (show p ≤ 800000000 by omega) ((⟨#[121]⟩ : ByteArray) ++ t) [] (by simp) k (by omega)
    rw [spec_l5Recipe.l1, if_pos (by omega), et, Option.bind_some, if_pos (by omega), ez, Option.bind_some, if_pos (by omega), wrap_id (by omega) (by omega)]
    obtain ⟨y, q2, ey, a1, a2, a3, a4⟩ := ih (x ++ [z]) (i + 1) q k (by simp; omega) (by simp; omega) (by omega) (by omega) (by omega) (by omega) (by omega)
    simp only [List.length_append, List.length_singleton] at a1
    exact ⟨y, q2, ey, by omega, a2, by omega, by omega⟩

theorem rec_l0 {b : List Int} (hb : Bytes b) (ns : List ByteArray) (hns : ns.length ≤ 100) (n : Nat) (hn : n ≤ ns.length) (hn12 : n ≤ 12) (hn1 : 1 ≤ n) (d : Nat) : ∀ (x : List S39) (i : Nat) (p : Int) (k : Nat), n - i = d → i ≤ n → x.length = i → 0 ≤ p → p ≤ 600000000 - 20 * d → d + 40 ≤ k →
    ∃ y q, spec_l5Recipe.l0 k ns (n : Int) x (i : Int) b p = some (y, q) ∧ 1 ≤ y.length ∧ y.length ≤ 12 ∧ p ≤ q ∧ q ≤ p + 20 * d + 300 := by
  induction d with
  | zero =>
    intro x i p k hd hx hi h0 h1 hk
    obtain ⟨k, rfl⟩ : ∃ m, k = m + 1 := ⟨k - 1, by omega⟩
    rw [spec_l5Recipe.l0, if_neg (by omega)]
    obtain ⟨v, ev, _, _⟩ := pick_ok hb h0 (show p ≤ 1000000000 by omega) 20 k (by omega)
    rw [ev, Option.bind_some]
    by_cases hv : v = 0
    · rw [if_pos hv]
      obtain ⟨y, q, ey, a1, a2, a3, a4⟩ := rec_l1 hb (12 - x.length) x 0 (p + 1) k rfl (by omega) (by omega) (by omega) (by omega) (by omega) (by omega)
      exact ⟨y, q, ey, by omega, a2, by omega, by omega⟩
    · rw [if_neg hv]
      exact ⟨x, p + 1, rfl, by omega, by omega, by omega, by omega⟩
  | succ d ih =>
    intro x i p k hd hx hi h0 h1 hk
    obtain ⟨k, rfl⟩ : ∃ m, k = m + 1 := ⟨k - 1, by omega⟩
    obtain ⟨z, q, ez, h2, h3⟩ := drawn_phase hb h0 (show p ≤ 800000000 by omega) (rdOf ByteArray.empty ns (i : Int)) ((ns.take ((n : Nat) : Int).toNat).drop (((i : Int) + 1) : Int).toNat) (by simp; omega) k (by omega)
    have hw : wrap64 ((i : Int) + 1) = (i : Int) + 1 := wrap_id (by omega) (by omega)
    rw [spec_l5Recipe.l0, if_pos (by omega), if_pos (by omega), if_pos (by omega), hw, if_pos (by omega), if_pos (by omega), if_pos (by omega), ez, Option.bind_some, if_pos (by omega)]
    obtain ⟨y, q2, ey, a1, a2, a3, a4⟩ := ih (x ++ [z]) (i + 1) q k (by omega) (by omega) (by simp; omega) (by omega) (by omega) (by omega)
    refine ⟨y, q2, ?_, a1, a2, by omega, by omega⟩
    rw [← ey]
    simp [tup]

theorem recipe_ok {b : List Int} (hb : Bytes b) {p : Int} (h0 : 0 ≤ p) (h1 : p ≤ 500000000) (k : Nat) (hk : 60 ≤ k) :
    ∃ x q, spec_l5Recipe.f k b p = some (x, q) ∧ 1 ≤ x.length ∧ x.length ≤ 12 ∧ p ≤ q ∧ q ≤ p + 500 := by
  unfold spec_l5Recipe.f spec_l5Names.f
  simp only [Option.bind_some]
  generalize hns : ([(⟨#[98, 114, 101, 119]⟩ : ByteArray), (⟨#[102, 49]⟩ : ByteArray), (⟨#[102, 50]⟩ : ByteArray), (⟨#[103]⟩ : ByteArray), (⟨#[104]⟩ : ByteArray), (⟨#[109, 97, 115, 104]⟩ : ByteArray), (⟨#[114, 101, 115, 116]⟩ : ByteArray), (⟨#[120, 45, 57]⟩ : ByteArray)] : List ByteArray) = ns
  have hl : ns.length = 8 := by rw [← hns]; rfl
  clear hns
  obtain ⟨v, ev, v0, v1⟩ := pick_ok hb h0 (show p ≤ 1000000000 by omega) (ns.length : Int) k (by omega)
  rw [ev, Option.bind_some]
  have hv := v1 (by omega)
  obtain ⟨m, rfl⟩ := Int.eq_ofNat_of_zero_le v0
  have hw : wrap64 (1 + (m : Int)) = ((1 + m : Nat) : Int) := by rw [wrap_id (by omega) (by omega)]; omega
  simp only [hw]
  obtain ⟨y, q, ey, a1, a2, a3, a4⟩ := rec_l0 hb ns (by omega) (1 + m) (by omega) (by omega) (by omega) (1 + m) [] 0 (p + 1) k (by omega) (by omega) rfl (by omega) (by omega) (by omega)
  exact ⟨y, q, ey, a1, a2, by omega, by omega⟩

theorem spoil_l0 {b : List Int} (hb : Bytes b) (n : Nat) (hn : n ≤ 13) (d : Nat) : ∀ (x : List S39) (i p : Int) (k : Nat), n - x.length = d → x.length ≤ 13 → 0 ≤ i → i + d ≤ 12 → 0 ≤ p → p ≤ 700000000 - 20 * d → d + 3 ≤ k →
    ∃ y q, spec_l5Spoil.l0 k x (n : Int) i b p = some (y, q) ∧ y.length ≤ 13 ∧ p ≤ q ∧ q ≤ p + 20 * d := by
  induction d with
  | zero =>
    intro x i p k hd hx hi hi2 h0 h1 hk
    obtain ⟨k, rfl⟩ : ∃ m, k = m + 1 := ⟨k - 1, by omega⟩
    rw [spec_l5Spoil.l0, if_neg (by omega)]
    exact ⟨x, p, rfl, by omega, by omega, by omega⟩
  | succ d ih =>
    intro x i p k hd hx hi hi2 h0 h1 hk
    obtain ⟨k, rfl⟩ : ∃ m, k = m + 1 := ⟨k - 1, by omega⟩
    obtain ⟨t, et, ht⟩ := dec_ok i hi (by omega) k (by omega)
    obtain ⟨z, q, ez, h2, h3⟩ := drawn_phase hb h0 (show p ≤ 800000000 by omega) ((⟨#[122]⟩ : ByteArray) ++ t) [] (by simp) k (by omega)
    rw [spec_l5Spoil.l0, if_pos (by omega), et, Option.bind_some, if_pos (by omega), ez, Option.bind_some, if_pos (by omega), wrap_id (by omega) (by omega)]
    obtain ⟨y, q2, ey, a2, a3, a4⟩ := ih (x ++ [z]) (i + 1) q k (by simp; omega) (by simp; omega) (by omega) (by omega) (by omega) (by omega) (by omega)
    exact ⟨y, q2, ey, a2, by omega, by omega⟩

theorem spoil_ok {b : List Int} (hb : Bytes b) {p : Int} (h0 : 0 ≤ p) (h1 : p ≤ 500000000) (l : List S39) (hl1 : 1 ≤ l.length) (hl2 : l.length ≤ 12) (k : Nat) (hk : 60 ≤ k) :
    ∃ x q, spec_l5Spoil.f k b p l = some (x, q) ∧ x.length ≤ 13 ∧ p ≤ q ∧ q ≤ p + 500 := by
  unfold spec_l5Spoil.f
  simp only [Option.bind_some, List.nil_append]
  rw [if_pos (by simp; omega)]
  obtain ⟨v, ev, v0, v1⟩ := pick_ok hb h0 (show p ≤ 1000000000 by omega) (l.length : Int) k (by omega)
  obtain ⟨u, eu, u0, u1⟩ := pick_ok hb (show 0 ≤ p + 1 by omega) (show p + 1 ≤ 1000000000 by omega) 6 k (by omega)
  rw [ev, Option.bind_some, eu, Option.bind_some]
  have hv := v1 (by omega)
  split
  · simp only [v0, hv, if_true]
    rw [if_pos (by omega)]
    exact ⟨_, _, rfl, by simp; omega, by omega, by omega⟩
  · split
    · simp only [v0, hv, if_true]
      rw [if_pos (by omega)]
      exact ⟨_, _, rfl, by simp; omega, by omega, by omega⟩
    · split
      · obtain ⟨m, em, m0, m1⟩ := pick_ok hb (show 0 ≤ p + 1 + 1 by omega) (show p + 1 + 1 ≤ 1000000000 by omega) 2 k (by omega)
        rw [em, Option.bind_some]
        have hm := m1 (by omega)
        obtain ⟨j, rfl⟩ := Int.eq_ofNat_of_zero_le m0
        have hw : wrap64 (12 + (j : Int)) = ((12 + j : Nat) : Int) := by rw [wrap_id (by omega) (by omega)]; omega
        simp only [hw]
        obtain ⟨y, q, ey, a1, a2, a3⟩ := spoil_l0 hb (12 + j) (by omega) (12 + j - l.length) l 0 (p + 1 + 1 + 1) k rfl (by omega) (by omega) (by omega) (by omega) (by omega) (by omega)
        exact ⟨y, q, ey, by omega, by omega, by omega⟩
      · simp only [v0, hv, if_true]
        obtain ⟨y, q, ey, a1, a2⟩ := spoilt_phase hb (show 0 ≤ p + 1 + 1 by omega) (by omega) (rd_T39 l v) k (by omega)
        rw [ey]
        exact ⟨_, q, rfl, by simp; omega, by omega, by omega⟩

theorem any_ok {b : List Int} (hb : Bytes b) {p : Int} (h0 : 0 ≤ p) (h1 : p ≤ 400000000) (k : Nat) (hk : 60 ≤ k) :
    ∃ x q, spec_l5Any.f k b p = some (x, q) ∧ x.length ≤ 13 ∧ p ≤ q ∧ q ≤ p + 1100 := by
  unfold spec_l5Any.f
  obtain ⟨x, q, ex, x1, x2, x3, x4⟩ := recipe_ok hb h0 (by omega) k hk
  rw [ex, Option.bind_some]
  obtain ⟨v, ev, v0, v1⟩ := pick_ok hb (show 0 ≤ q by omega) (by omega) 24 k (by omega)
  simp only [ev, Option.bind_some]
  split
  · obtain ⟨y, q2, ey, y1, y2, y3⟩ := spoil_ok hb (show 0 ≤ q + 1 by omega) (by omega) x x1 x2 k hk
    rw [ey]
    exact ⟨y, q2, rfl, y1, by omega, by omega⟩
  · split
    · exact ⟨[], q + 1, rfl, by simp, by omega, by omega⟩
    · exact ⟨x, q + 1, rfl, by omega, by omega, by omega⟩
theorem from_ok {b : List Int} (hb : Bytes b) {p : Int} (h0 : 0 ≤ p) (h1 : p ≤ 500000000) (l : List S39) (hl : l.length ≤ 1000) (k : Nat) (hk : 60 ≤ k) :
    ∃ x q, spec_l5From.f k b p l = some (x, q) ∧ p ≤ q ∧ q ≤ p + 5 := by
  have hj : ∀ (c : Bool) (p : Int), 0 ≤ p → p ≤ 500000001 → (c = true → 1 ≤ l.length) → ∃ x q, spec_l5From.j0 k l c b p = some (x, q) ∧ p ≤ q ∧ q ≤ p + 1 := by
    intro c p h0 h1 hc
    obtain ⟨k, rfl⟩ : ∃ m, k = m + 1 := ⟨k - 1, by omega⟩
    rw [spec_l5From.j0]
    cases c with
    | true =>
      rw [if_pos rfl]
      obtain ⟨v, ev, v0, v1⟩ := pick_ok hb h0 (show p ≤ 1000000000 by omega) (l.length : Int) k (by omega)
      have := hc rfl
      rw [ev, Option.bind_some, if_pos v0, if_pos (v1 (by omega))]
      exact ⟨_, _, rfl, by omega, by omega⟩
    | false =>
      rw [if_neg (by decide)]
      obtain ⟨v, ev, _⟩ := of_ok hb h0 (show p ≤ 1000000000 by omega) ([(⟨#[103, 111, 111, 100]⟩ : ByteArray), (⟨#[115, 99, 114, 97, 112, 112, 101, 100]⟩ : ByteArray), (⟨#[110, 111, 110, 101]⟩ : ByteArray), (⟨#[]⟩ : ByteArray)] : List ByteArray) (by simp) k (by omega)
      rw [ev]
      exact ⟨_, _, rfl, by omega, by omega⟩
  unfold spec_l5From.f
  split
  · obtain ⟨v, ev, v0, v1⟩ := pick_ok hb h0 (show p ≤ 1000000000 by omega) 8 k (by omega)
    rw [ev, Option.bind_some]
    obtain ⟨x, q, e, a1, a2⟩ := hj (decide (v > 0)) (p + 1) (by omega) (by omega) (fun _ => by omega)
    exact ⟨x, q, e, by omega, by omega⟩
  · obtain ⟨x, q, e, a1, a2⟩ := hj false p (by omega) (by omega) (fun h => by cases h)
    exact ⟨x, q, e, by omega, by omega⟩
end Go.Proofs.Ytdkologncoofdaa.P
-- Px42
namespace Go.Proofs.Ytdkologncoofdaa.P
open Go.RowKit Go.Proofs.YtdkologncoofdaaW.PrintWords Go.Proofs.YtdkologncoofdaaW.PrintLast Go.Proofs.YtdkologncoofdaaW.PrintMore
attribute [local go_sem] max2_int min2_int max_two min_two max_three min_three max_four min_four   -- for this text's walks alone
set_option linter.unusedVariables false
set_option linter.unusedSimpArgs false

/-! ### spec_l2Can: function 85 -/
def spec_l2Can.f : Nat → List (S39) → ByteArray → Int → Option (Bool)
 | 0, _, _, _ => none
 | k + 1, l0, a1, a2 => (spec_l2At.f k l0 a1).bind fun t411 => (if t411 < 0 then ((spec_RecEnd.f a1).bind fun t412 => (some (t412 == a2))) else (if 0 ≤ t411 then (if t411 < (l0.length : Int) then ((spec_l2Can.f k l0 ((rd_T39 l0 t411).f6) a2).bind fun t414 => (if t414 = true then (some true) else ((spec_l2Can.f k l0 ((rd_T39 l0 t411).f7) a2).bind fun t416 => (some t416)))) else (none)) else (none)))
theorem spec_l2Can.mono_l : ∀ k, (∀ y0 y1 y2, LeO (spec_l2Can.f k y0 y1 y2) (spec_l2Can.f (k + 1) y0 y1 y2))
 | 0 => fun _ _ _ r h => by simp [spec_l2Can.f] at h
 | k + 1 => by
  have ih0 := spec_l2Can.mono_l k
  ·intro y0 y1 y2
   unfold spec_l2Can.f
   repeat' first
   | (with_reducible exact ih0 _ _ _)
   | (with_reducible exact spec_l2At.mono _ _ _)
   | (with_reducible exact LeO.refl _)
   | (with_reducible exact LeO.none _)
   | (with_reducible refine LeO.ite ?_ ?_)
   | (with_reducible refine LeO.bind ?_ (fun _ => ?_))
   | exact ih0 _ _ _
   | exact spec_l2At.mono _ _ _
   | exact LeO.none _
   | refine LeO.ite ?_ ?_
   | refine LeO.bind ?_ (fun _ => ?_)
theorem spec_l2Can.mono : ∀ a0 a1 a2 k, LeO (spec_l2Can.f k a0 a1 a2) (spec_l2Can.f (k + 1) a0 a1 a2) := by
 intro a0 a1 a2 k
 have ih0 := spec_l2Can.mono_l k
 exact ih0 a0 a1 a2
set_option maxHeartbeats 8000000 in
set_option maxRecDepth 100000 in
theorem spec_l2Can.calls (k : Nat) : ∀ (A0 : Option Addr) (c0 : Nat) (l0 : List (S39)) (a1 : ByteArray) (a2 : Int) (r : Bool) (w : World) (hr0 : Kd.C k39 w A0 l0.length l0) (hc0 : l0.length ≤ c0) (h : spec_l2Can.f k l0 a1 a2 = some r),
  Calls Try.prog 85 #[.slice A0 l0.length c0, .string a1, .int .i64 a2] w fun e w' => e = .returned (.bool r) ∧ Drawn0 w w' := by
 induction k using Nat.strongRecOn with
 | _ k ih =>
 intro A0 c0 l0 a1 a2 r w hr0 hc0 h
 cases k with
 | zero => exact absurd h (by simp [spec_l2Can.f])
 | succ k =>
 simp only [spec_l2Can.f] at h
 have HR0 := Aside0.mk hr0
 have HC0 := Aside0.mk hc0
 clear hr0 hc0
 have H : ((spec_l2At.f k l0 a1).bind fun t411 => (if t411 < 0 then ((spec_RecEnd.f a1).bind fun t412 => (some (t412 == a2))) else (if 0 ≤ t411 then (if t411 < (l0.length : Int) then ((spec_l2Can.f k l0 ((rd_T39 l0 t411).f6) a2).bind fun t414 => (if t414 = true then (some true) else ((spec_l2Can.f k l0 ((rd_T39 l0 t411).f7) a2).bind fun t416 => (some t416)))) else (none)) else (none)))) = some r := h
 clear h
 replace H := Option.bind_eq_some_iff.mp H
 obtain ⟨t411, A40, H⟩ := H
 replace H : (if t411 < 0 then ((spec_RecEnd.f a1).bind fun t412 => (some (t412 == a2))) else (if 0 ≤ t411 then (if t411 < (l0.length : Int) then ((spec_l2Can.f k l0 ((rd_T39 l0 t411).f6) a2).bind fun t414 => (if t414 = true then (some true) else ((spec_l2Can.f k l0 ((rd_T39 l0 t411).f7) a2).bind fun t416 => (some t416)))) else (none)) else (none))) = some r := H
 have A4 := Aside0.mk A40
 clear A40
 by_cases c5 : t411 < 0
 ·rw [if_pos c5] at H
  have c5b0 : decide (t411 < 0) = true := decide_eq_true c5
  clear c5
  replace H := Option.bind_eq_some_iff.mp H
  obtain ⟨t412, A60, H⟩ := H
  replace H : (some (t412 == a2)) = some r := H
  have A6 := Aside0.mk A60
  clear A60
  obtain rfl := Option.some.inj H
  go_enter Try.func85, Try.ntmps85
  go_wp2_with (first | ((with_reducible refine gate_callee (f := 66) rfl ?_); refine goesL_ (some 10) rfl rfl Try.func66 (by kernel_rfl) rfl #[.slice A0 l0.length c0, .string a1] rfl mxp ?_; (with_reducible refine (spec_l2At.calls k _ _ l0 a1 t411 _ ?side1 ?side2 A4.out).mono ?_); (case side1 => exact cx HR0.out); (case side2 => exact HC0.out); rintro e w' ⟨rfl, ⟨nd, rfl⟩⟩; refine ⟨_, rfl, ?_⟩) | ((with_reducible refine gate_callee (f := 18) rfl ?_); refine goesL_ (some 14) rfl rfl Try.func18 (by kernel_rfl) rfl #[.string a1] rfl mxp ?_; (with_reducible refine (spec_RecEnd.calls a1 t412 _ A6.out).mono ?_); rintro e w' ⟨rfl, ⟨nd, rfl⟩⟩; refine ⟨_, rfl, ?_⟩))
  go_ret
  exact ⟨by first | rfl | (simp; done) | (simp [*]; done), by repeat (first | exact Drawn0.refl _ | apply Drawn0.step)⟩
 ·rw [if_neg c5] at H
  have c5b0 : decide (t411 < 0) = false := decide_eq_false c5
  clear c5
  by_cases c7 : 0 ≤ t411
  ·rw [if_pos c7] at H
   have c7b0 : decide (0 ≤ t411) = true := decide_eq_true c7
   clear c7
   by_cases c8 : t411 < (l0.length : Int)
   ·rw [if_pos c8] at H
    have c8b0 : decide (t411 < (l0.length : Int)) = true := decide_eq_true c8
    clear c8
    replace H := Option.bind_eq_some_iff.mp H
    obtain ⟨t414, A90, H⟩ := H
    replace H : (if t414 = true then (some true) else ((spec_l2Can.f k l0 ((rd_T39 l0 t411).f7) a2).bind fun t416 => (some t416))) = some r := H
    have A9 := Aside0.mk A90
    clear A90
    by_cases c10 : t414 = true
    ·subst c10
     have H1 : (some true) = some r := by rw [if_pos rfl] at H; exact H
     clear H
     have H := H1
     clear H1
     obtain rfl := Option.some.inj H
     go_enter Try.func85, Try.ntmps85
     go_wp2_with (first | ((with_reducible refine gate_callee (f := 66) rfl ?_); refine goesL_ (some 10) rfl rfl Try.func66 (by kernel_rfl) rfl #[.slice A0 l0.length c0, .string a1] rfl mxp ?_; (with_reducible refine (spec_l2At.calls k _ _ l0 a1 t411 _ ?side1 ?side2 A4.out).mono ?_); (case side1 => exact cx HR0.out); (case side2 => exact HC0.out); rintro e w' ⟨rfl, ⟨nd, rfl⟩⟩; refine ⟨_, rfl, ?_⟩; have p413 : 0 ≤ (t411 : Int) := oda; have q413 : t411 < (l0.length : Int) := oda; obtain ⟨ad413, e413, hx413_0, hx413_1, hx413_2, hx413_3, hx413_4, hx413_5, hx413_6, hx413_7⟩ := at_T39 HR0.out t411 p413 q413; cases e413; replace p413 := eq_true p413; replace q413 := eq_true q413) | ((with_reducible refine gate_callee (f := 85) rfl ?_); refine goesL_ (some 24) rfl rfl Try.func85 (by kernel_rfl) rfl #[.slice (some ad413) l0.length c0, .string ((rd_T39 l0 t411).f6), .int .i64 a2] rfl mxp ?_; (with_reducible refine (ih k (by omega) _ _ l0 ((rd_T39 l0 t411).f6) a2 true _ ?side1 ?side2 A9.out).mono ?_); (case side1 => exact cx HR0.out); (case side2 => exact HC0.out); rintro e w' ⟨rfl, ⟨nd, rfl⟩⟩; refine ⟨_, rfl, ?_⟩))
     go_ret
     exact ⟨by first | rfl | (simp; done) | (simp [*]; done), by repeat (first | exact Drawn0.refl _ | apply Drawn0.step)⟩
    ·replace c10 := Bool.eq_false_iff.mpr c10
     subst c10
     have H1 : ((spec_l2Can.f k l0 ((rd_T39 l0 t411).f7) a2).bind fun t416 => (some t416)) = some r := by rw [if_neg (show ¬ (false = true) by decide)] at H; exact H
     clear H
     have H := H1
     clear H1
     replace H := Option.bind_eq_some_iff.mp H
     obtain ⟨t416, A110, H⟩ := H
     replace H : (some t416) = some r := H
     have A11 := Aside0.mk A110
     clear A110
     obtain rfl := Option.some.inj H
     go_enter Try.func85, Try.ntmps85
     go_wp2_with (first | ((with_reducible refine gate_callee (f := 66) rfl ?_); refine goesL_ (some 10) rfl rfl Try.func66 (by kernel_rfl) rfl #[.slice A0 l0.length c0, .string a1] rfl mxp ?_; (with_reducible refine (spec_l2At.calls k _ _ l0 a1 t411 _ ?side1 ?side2 A4.out).mono ?_); (case side1 => exact cx HR0.out); (case side2 => exact HC0.out); rintro e w' ⟨rfl, ⟨nd, rfl⟩⟩; refine ⟨_, rfl, ?_⟩; have p413 : 0 ≤ (t411 : Int) := oda; have q413 : t411 < (l0.length : Int) := oda; obtain ⟨ad413, e413, hx413_0, hx413_1, hx413_2, hx413_3, hx413_4, hx413_5, hx413_6, hx413_7⟩ := at_T39 HR0.out t411 p413 q413; cases e413; replace p413 := eq_true p413; replace q413 := eq_true q413) | ((with_reducible refine gate_callee (f := 85) rfl ?_); refine goesL_ (some 24) rfl rfl Try.func85 (by kernel_rfl) rfl #[.slice (some ad413) l0.length c0, .string ((rd_T39 l0 t411).f6), .int .i64 a2] rfl mxp ?_; (with_reducible refine (ih k (by omega) _ _ l0 ((rd_T39 l0 t411).f6) a2 false _ ?side1 ?side2 A9.out).mono ?_); (case side1 => exact cx HR0.out); (case side2 => exact HC0.out); rintro e w' ⟨rfl, ⟨nd, rfl⟩⟩; refine ⟨_, rfl, ?_⟩; have p415 : 0 ≤ (t411 : Int) := oda; have q415 : t411 < (l0.length : Int) := oda; obtain ⟨ad415, e415, hx415_0, hx415_1, hx415_2, hx415_3, hx415_4, hx415_5, hx415_6, hx415_7⟩ := at_T39 HR0.out t411 p415 q415; obtain rfl : ad413 = ad415 := (by injection e415); replace p415 := eq_true p415; replace q415 := eq_true q415) | (go_at_call 85; (with_reducible refine (ih k (by omega) _ _ l0 ((rd_T39 l0 t411).f7) a2 t416 _ ?side1 ?side2 A11.out).mono ?_); (case side1 => exact cx HR0.out); (case side2 => exact HC0.out); rintro e w' ⟨rfl, ⟨nd, rfl⟩⟩))
     go_ret
     exact ⟨by first | rfl | (simp; done) | (simp [*]; done), by repeat (first | exact Drawn0.refl _ | apply Drawn0.step)⟩
   ·rw [if_neg c8] at H
    exact absurd H (by simp)
  ·rw [if_neg c7] at H
   exact absurd H (by simp)


/-! ### spec_RecCan: function 41 -/
def spec_RecCan.f (k : Nat) (l0 : List (S39)) (a1 : ByteArray) (a2 : Int) : Option (Bool) := (spec_RecOk.f k l0).bind fun t417 => (if t417 = true then ((spec_l1In.f a2 1 3).bind fun t418 => (if t418 = true then ((spec_l2Can.f k l0 a1 a2).bind fun t419 => (some t419)) else (some false))) else (some false))
theorem spec_RecCan.mono : ∀ a0 a1 a2 k, LeO (spec_RecCan.f k a0 a1 a2) (spec_RecCan.f (k + 1) a0 a1 a2) := by
 intro a0 a1 a2 k
 unfold spec_RecCan.f
 repeat' first
   | (with_reducible exact spec_RecOk.mono _ _)
   | (with_reducible exact spec_l2Can.mono _ _ _ _)
   | (with_reducible exact LeO.refl _)
   | (with_reducible exact LeO.none _)
   | (with_reducible refine LeO.ite ?_ ?_)
   | (with_reducible refine LeO.bind ?_ (fun _ => ?_))
   | exact spec_RecOk.mono _ _
   | exact spec_l2Can.mono _ _ _ _
   | exact LeO.none _
   | refine LeO.ite ?_ ?_
   | refine LeO.bind ?_ (fun _ => ?_)
set_option maxHeartbeats 8000000 in
set_option maxRecDepth 100000 in
theorem spec_RecCan.calls (k : Nat) (A0 : Option Addr) (c0 : Nat) (l0 : List (S39)) (a1 : ByteArray) (a2 : Int) (r : Bool) (w : World) (hr0 : Kd.C k39 w A0 l0.length l0) (hc0 : l0.length ≤ c0) (h : spec_RecCan.f k l0 a1 a2 = some r) :
  Calls Try.prog 41 #[.slice A0 l0.length c0, .string a1, .int .i64 a2] w fun e w' => e = .returned (.bool r) ∧ Below w.heap.size w w' := by
 have HR0 := Aside0.mk hr0
 have HC0 := Aside0.mk hc0
 clear hr0 hc0
 have HB := Aside0.mk (Below.refl w.heap.size w)
 have H : ((spec_RecOk.f k l0).bind fun t417 => (if t417 = true then ((spec_l1In.f a2 1 3).bind fun t418 => (if t418 = true then ((spec_l2Can.f k l0 a1 a2).bind fun t419 => (some t419)) else (some false))) else (some false))) = some r := h
 clear h
 replace H := Option.bind_eq_some_iff.mp H
 obtain ⟨t417, A40, H⟩ := H
 replace H : (if t417 = true then ((spec_l1In.f a2 1 3).bind fun t418 => (if t418 = true then ((spec_l2Can.f k l0 a1 a2).bind fun t419 => (some t419)) else (some false))) else (some false)) = some r := H
 have A4 := Aside0.mk A40
 clear A40
 by_cases c5 : t417 = true
 ·subst c5
  have H1 : ((spec_l1In.f a2 1 3).bind fun t418 => (if t418 = true then ((spec_l2Can.f k l0 a1 a2).bind fun t419 => (some t419)) else (some false))) = some r := by rw [if_pos rfl] at H; exact H
  clear H
  have H := H1
  clear H1
  replace H := Option.bind_eq_some_iff.mp H
  obtain ⟨t418, A60, H⟩ := H
  replace H : (if t418 = true then ((spec_l2Can.f k l0 a1 a2).bind fun t419 => (some t419)) else (some false)) = some r := H
  have A6 := Aside0.mk A60
  clear A60
  by_cases c7 : t418 = true
  ·subst c7
   have H1 : ((spec_l2Can.f k l0 a1 a2).bind fun t419 => (some t419)) = some r := by rw [if_pos rfl] at H; exact H
   clear H
   have H := H1
   clear H1
   replace H := Option.bind_eq_some_iff.mp H
   obtain ⟨t419, A80, H⟩ := H
   replace H : (some t419) = some r := H
   have A8 := Aside0.mk A80
   clear A80
   obtain rfl := Option.some.inj H
   go_enter Try.func41, Try.ntmps41
   go_wp2_with (first | ((with_reducible refine gate_callee (f := 24) rfl ?_); refine goesL_ (some 8) rfl rfl Try.func24 (by kernel_rfl) rfl #[.slice A0 l0.length c0] rfl mxp ?_; (with_reducible refine (spec_RecOk.calls k _ _ l0 true _ ?side1 ?side2 A4.out).mono ?_); (case side1 => exact cx HR0.out); (case side2 => exact HC0.out); rintro e w9 ⟨rfl, hb⟩; refine ⟨_, rfl, ?_⟩; replace HB := bs HB hb; (try clear hb); (try clear hb2); (try clear hk); (try clear hi)) | (go_at_call 67; (with_reducible refine (spec_l1In.calls a2 1 3 true _ A6.out).mono ?_); rintro e w' ⟨rfl, ⟨nd, rfl⟩⟩) | (go_at_call 85; (with_reducible refine (spec_l2Can.calls k _ _ l0 a1 a2 t419 _ ?side1 ?side2 A8.out).mono ?_); (case side1 => repeat (first | exact (Kd.C_below HR0.out (bw HB.out)) | (with_reducible refine Kd.C_alloc ?_ _) | (with_reducible refine Kd.C_drewN ?_ _) | (with_reducible refine Kd.C_drew ?_))); (case side2 => exact HC0.out); rintro e w' ⟨rfl, ⟨nd, rfl⟩⟩))
   go_ret
   exact ⟨exq, bw HB.out⟩
  ·replace c7 := Bool.eq_false_iff.mpr c7
   subst c7
   have H1 : (some false) = some r := by rw [if_neg (show ¬ (false = true) by decide)] at H; exact H
   clear H
   have H := H1
   clear H1
   obtain rfl := Option.some.inj H
   go_enter Try.func41, Try.ntmps41
   go_wp2_with (first | ((with_reducible refine gate_callee (f := 24) rfl ?_); refine goesL_ (some 8) rfl rfl Try.func24 (by kernel_rfl) rfl #[.slice A0 l0.length c0] rfl mxp ?_; (with_reducible refine (spec_RecOk.calls k _ _ l0 true _ ?side1 ?side2 A4.out).mono ?_); (case side1 => exact cx HR0.out); (case side2 => exact HC0.out); rintro e w10 ⟨rfl, hb⟩; refine ⟨_, rfl, ?_⟩; replace HB := bs HB hb; (try clear hb); (try clear hb2); (try clear hk); (try clear hi)) | (go_at_call 67; (with_reducible refine (spec_l1In.calls a2 1 3 false _ A6.out).mono ?_); rintro e w' ⟨rfl, ⟨nd, rfl⟩⟩))
   go_ret
   exact ⟨exq, bw HB.out⟩
 ·replace c5 := Bool.eq_false_iff.mpr c5
  subst c5
  have H1 : (some false) = some r := by rw [if_neg (show ¬ (false = true) by decide)] at H; exact H
  clear H
  have H := H1
  clear H1
  obtain rfl := Option.some.inj H
  go_enter Try.func41, Try.ntmps41
  go_wp2_with (first | ((with_reducible refine gate_callee (f := 24) rfl ?_); refine goesL_ (some 8) rfl rfl Try.func24 (by kernel_rfl) rfl #[.slice A0 l0.length c0] rfl mxp ?_; (with_reducible refine (spec_RecOk.calls k _ _ l0 false _ ?side1 ?side2 A4.out).mono ?_); (case side1 => exact cx HR0.out); (case side2 => exact HC0.out); rintro e w11 ⟨rfl, hb⟩; refine ⟨_, rfl, ?_⟩; replace HB := bs HB hb; (try clear hb); (try clear hb2); (try clear hk); (try clear hi)))
  go_ret
  exact ⟨exq, bw HB.out⟩

end Go.Proofs.Ytdkologncoofdaa.P
-- Q13
namespace Go.Proofs.Ytdkologncoofdaa.P
open Go.RowKit Go.Proofs.YtdkologncoofdaaW.PrintWords Go.Proofs.YtdkologncoofdaaW.PrintLast
theorem spec_cn (l : List S39) (h : recOk l = true) (e : Int) (n : Nat) : ∀ a k, n ≤ 100 → rk l a ≤ n → n + 15 ≤ k → spec_l2Can.f k l a e = some (canB l n a e) := by
  induction n with
  | zero =>
    intro a k _ hn hk
    obtain ⟨k, rfl⟩ : ∃ m, k = m + 1 := ⟨k - 1, by omega⟩
    have hlen := recOk_len l h
    have hr := atOf_range l a
    have h0 : atOf l a < 0 := by
      unfold rk at hn
      split at hn <;> omega
    simp only [spec_l2Can.f, spec_at l a (by omega) k (by omega), Option.bind_some, if_pos h0, spec_end, canB]
  | succ n ih =>
    intro a k hn1 hn hk
    obtain ⟨k, rfl⟩ : ∃ m, k = m + 1 := ⟨k - 1, by omega⟩
    have hlen := recOk_len l h
    have hr := atOf_range l a
    simp only [spec_l2Can.f, spec_at l a (by omega) k (by omega), Option.bind_some, canB]
    by_cases h0 : atOf l a < 0
    · rw [if_pos h0, if_pos h0, spec_end]; rfl
    · have hx := ok_ref l h a h0
      rw [if_neg h0, if_neg h0, if_pos (by omega), if_pos (by omega), ih _ k (by omega) (by omega) (by omega), ih _ k (by omega) (by omega) (by omega)]
      cases canB l n (rd_T39 l (atOf l a)).f6 e <;> simp
theorem spec_rc (l : List S39) (a : ByteArray) (e : Int) (k : Nat) (hk : 80 ≤ k) : spec_RecCan.f k l a e = some (canOf l a e) := by
  unfold spec_RecCan.f canOf
  rw [spec_ok l k (by omega), Option.bind_some]
  cases h : recOk l with
  | false => rfl
  | true =>
    rw [if_pos rfl, spec_in, Option.bind_some]
    cases hi : inB e 1 3 with
    | false => rfl
    | true => rw [if_pos rfl, spec_cn l h e 12 a k (by omega) (rk_le l h a) (by omega)]; rfl
end Go.Proofs.Ytdkologncoofdaa.P
-- Q15
namespace Go.Proofs.Ytdkologncoofdaa.P
open Go.RowKit Go.Proofs.YtdkologncoofdaaW.PrintWords Go.Proofs.YtdkologncoofdaaW.PrintLast
set_option linter.unusedVariables false
set_option linter.unusedSimpArgs false

theorem rd_getD (l : List S39) (i : Nat) : rd_T39 l (i : Int) = l.getD i z39 := by simp [rd_T39]
theorem wl0 (l : List S39) (hl : l.length ≤ 1000) (n tw : ByteArray) (K : Nat) (A6 A7 : Bool) (hrec : ¬ atOf l n < 0 → ∀ k, K ≤ k → laws_wReach.f k l (rd_T39 l (atOf l n)).f6 tw = some A6 ∧ laws_wReach.f k l (rd_T39 l (atOf l n)).f7 tw = some A7) (d : Nat) :
    ∀ (i k : Nat), i ≤ l.length → l.length - i = d → (∀ j, j < i → ((l.getD j z39).f0.toList == n.toList) = false) → d + K + 2 ≤ k → laws_wReach.l0 k l n tw (i : Int) = some (!(decide (atOf l n < 0)) && (A6 || A7)) := by
  induction d with
  | zero =>
    intro i k hi hd hb hk
    obtain ⟨k, rfl⟩ : ∃ m, k = m + 1 := ⟨k - 1, by omega⟩
    have h0 := atOf_miss l n (fun j hj => hb j (by omega))
    rw [laws_wReach.l0, if_neg (by omega), h0]
    rfl
  | succ d ih =>
    intro i k hi hd hb hk
    obtain ⟨k, rfl⟩ : ∃ m, k = m + 1 := ⟨k - 1, by omega⟩
    rw [laws_wReach.l0, if_pos (by omega), if_pos (by omega)]
    by_cases he : (rd_T39 l (i : Int)).f0.toList = n.toList
    · have ha := atOf_hit l n i (by omega) (by rw [← rd_getD]; simpa using he) hb
      have hr := hrec (by omega) k (by omega)
      rw [ha] at hr
      rw [if_pos he, hr.1, hr.2, ha]
      cases A6 <;> simp <;> omega
    · rw [if_neg he, wrap_id (by omega) (by omega)]
      refine ih (i + 1) k (by omega) (by omega) (fun j hj => ?_) (by omega)
      by_cases e : j = i
      · subst e; rw [← rd_getD]; simpa using he
      · exact hb j (by omega)
theorem wreach (l : List S39) (h : recOk l = true) (tw : ByteArray) (m : Nat) : ∀ (n : ByteArray) (k : Nat), rk l n ≤ m → 20 * (m + 1) ≤ k → laws_wReach.f k l n tw = some (R l n (ltr tw)) := by
  have hlen := recOk_len l h
  induction m with
  | zero =>
    intro n k hm hk
    obtain ⟨k, rfl⟩ : ∃ m, k = m + 1 := ⟨k - 1, by omega⟩
    have hr := atOf_range l n
    have h0 : atOf l n < 0 := by
      unfold rk at hm
      split at hm <;> omega
    rw [laws_wReach.f, R_step l h n]
    by_cases e : n.toList = tw.toList
    · rw [if_pos e, show (ltr n == ltr tw) = true by simpa [ltr_eq] using e]; rfl
    · rw [if_neg e, show (ltr n == ltr tw) = false by simpa [ltr_eq] using e, show (0 : Int) = ((0 : Nat) : Int) from rfl, wl0 l (by omega) n tw 0 false false (fun hh => absurd h0 hh) l.length 0 k (by omega) (by omega) (fun j hj => absurd hj (Nat.not_lt_zero _)) (by omega)]
      simp [h0]
  | succ m ih =>
    intro n k hm hk
    obtain ⟨k, rfl⟩ : ∃ m, k = m + 1 := ⟨k - 1, by omega⟩
    rw [laws_wReach.f, R_step l h n]
    by_cases e : n.toList = tw.toList
    · rw [if_pos e, show (ltr n == ltr tw) = true by simpa [ltr_eq] using e]; rfl
    · rw [if_neg e, show (ltr n == ltr tw) = false by simpa [ltr_eq] using e, show (0 : Int) = ((0 : Nat) : Int) from rfl, wl0 l (by omega) n tw (20 * (m + 1)) (R l (rd_T39 l (atOf l n)).f6 (ltr tw)) (R l (rd_T39 l (atOf l n)).f7 (ltr tw)) (fun hh k2 hk2 => by
        have hx := ok_ref l h n hh
        exact ⟨ih _ k2 (by omega) (by omega), ih _ k2 (by omega) (by omega)⟩) l.length 0 k (by omega) (by omega) (fun j hj => absurd hj (Nat.not_lt_zero _)) (by omega)]
      simp

/-- From a phase of a good recipe some end may come. -/
theorem can_some (l : List S39) (h : recOk l = true) (m : Nat) : ∀ n, rk l n ≤ m → (endOf n ≠ 0 ∨ ¬ atOf l n < 0) → ∃ e, 1 ≤ e ∧ e ≤ 3 ∧ canB l m n e = true := by
  induction m with
  | zero =>
    intro n hm hn
    have hr := atOf_range l n
    have h0 : atOf l n < 0 := by
      unfold rk at hm
      split at hm <;> omega
    have he := endOf_range n
    refine ⟨endOf n, by omega, by omega, by simp [canB]⟩
  | succ m ih =>
    intro n hm hn
    have hr := atOf_range l n
    by_cases h0 : atOf l n < 0
    · have he := endOf_range n
      exact ⟨endOf n, by omega, by omega, by simp [canB, h0]⟩
    · have hx := ok_ref l h n h0
      obtain ⟨i, hi⟩ := Int.eq_ofNat_of_zero_le (show 0 ≤ atOf l n by omega)
      have hok := recOk_at l h i (by omega)
      unfold okAt at hok
      simp only [Bool.and_eq_true] at hok
      obtain ⟨⟨⟨h1, _⟩, h6⟩, h7⟩ := hok
      unfold refOk at h6
      rw [← hi] at h6
      simp only [Bool.or_eq_true, Bool.not_eq_true', beq_eq_false_iff_ne, decide_eq_true_eq] at h6
      obtain ⟨e, e1, e2, e3⟩ := ih (rd_T39 l (atOf l n)).f6 (by omega) (h6.imp id (fun h6 => by omega))
      exact ⟨e, e1, e2, by rw [canB, if_neg h0, e3]; rfl⟩
theorem can_first (l : List S39) (h : recOk l = true) : ∃ e, 1 ≤ e ∧ e ≤ 3 ∧ canOf l (rd_T39 l 0).f0 e = true := by
  have hlen := recOk_len l h
  have hok := recOk_at l h 0 (by omega)
  unfold okAt at hok
  simp only [Bool.and_eq_true, beq_iff_eq] at hok
  have ha : atOf l (rd_T39 l 0).f0 = 0 := hok.1.1.2
  obtain ⟨e, e1, e2, e3⟩ := can_some l h 12 (rd_T39 l 0).f0 (rk_le l h _) (.inr (by omega))
  exact ⟨e, e1, e2, by unfold canOf; rw [h, inB_iff.mpr ⟨e1, e2⟩, e3]; rfl⟩
theorem canOf_reach (l : List S39) (h : recOk l = true) (n : ByteArray) (e : Int) (w : ByteArray) (he : 1 ≤ e ∧ e ≤ 3) (hw : ∀ m : ByteArray, endOf m = e ↔ m.toList = w.toList) : canOf l n e = R l n (ltr w) := by
  unfold canOf
  rw [h, inB_iff.mpr he, Bool.true_and, Bool.true_and]
  have hi := canB_iff l h e he.1 12 n (rk_le l h n)
  cases hR : R l n (ltr w) with
  | true => exact hi.mpr ⟨w, hR, (hw w).mpr rfl⟩
  | false =>
    cases hc : canB l 12 n e with
    | false => rfl
    | true =>
      obtain ⟨m, m1, m2⟩ := hi.mp hc
      have := (hw m).mp m2
      rw [ltr_eq, ltr_eq] at this
      rw [this, hR] at m1
      cases m1
end Go.Proofs.Ytdkologncoofdaa.P
-- Q18
namespace Go.Proofs.Ytdkologncoofdaa.P
open Go.RowKit Go.Proofs.YtdkologncoofdaaW.PrintWords Go.Proofs.YtdkologncoofdaaW.PrintLast
set_option linter.unusedVariables false
set_option linter.unusedSimpArgs false
theorem rdOf_nat (l : List ByteArray) (i : Nat) : rdOf ByteArray.empty l (i : Int) = l.getD i ByteArray.empty := by simp [rdOf]
theorem getD_mem (l : List ByteArray) (i : Nat) (h : i < l.length) : l.getD i ByteArray.empty ∈ l := by
  rw [List.getD_eq_getElem?_getD, List.getElem?_eq_getElem h]; exact List.getElem_mem h
theorem texts_loop (l : List ByteArray) (hl : l.length ≤ 1048576) (d : Nat) : ∀ (i k : Nat), i ≤ l.length → l.length - i = d → d < k → laws_wTexts.l0 k l l (i : Int) = some true := by
  induction d with
  | zero =>
    intro i k hi hd hk
    obtain ⟨k, rfl⟩ : ∃ m, k = m + 1 := ⟨k - 1, by omega⟩
    rw [laws_wTexts.l0, if_neg (by omega)]
  | succ d ih =>
    intro i k hi hd hk
    obtain ⟨k, rfl⟩ : ∃ m, k = m + 1 := ⟨k - 1, by omega⟩
    rw [laws_wTexts.l0, if_pos (by omega), if_pos (by omega), if_pos (by omega), if_pos rfl, wrap_id (by omega) (by omega)]
    exact ih (i + 1) k (by omega) (by omega) (by omega)
theorem texts_self (l : List ByteArray) (hl : l.length ≤ 1048576) (k : Nat) (hk : l.length < k) : laws_wTexts.f k l l = some true := by
  unfold laws_wTexts.f
  rw [if_pos rfl]
  exact texts_loop l hl l.length 0 k (by omega) (by omega) hk
theorem has_loop (l : List ByteArray) (hl : l.length ≤ 1048576) (a : ByteArray) (h : ltr a ∈ l.map ltr) (d : Nat) : ∀ (i k : Nat), i ≤ l.length → l.length - i = d → (∀ j, j < i → ltr (l.getD j ByteArray.empty) ≠ ltr a) → d < k → laws_wHas.l0 k l a (i : Int) = some true := by
  induction d with
  | zero =>
    intro i k hi hd hb hk
    exfalso
    obtain ⟨x, hx, e⟩ := List.mem_map.1 h
    obtain ⟨j, hj, rfl⟩ := List.getElem_of_mem hx
    exact hb j (by omega) (by rw [List.getD_eq_getElem?_getD, List.getElem?_eq_getElem hj]; exact e)
  | succ d ih =>
    intro i k hi hd hb hk
    obtain ⟨k, rfl⟩ : ∃ m, k = m + 1 := ⟨k - 1, by omega⟩
    rw [laws_wHas.l0, if_pos (by omega), if_pos (by omega), rdOf_nat, ltr_eq, ltr_eq]
    by_cases e : ltr (l.getD i ByteArray.empty) = ltr a
    · rw [if_pos e]
    · rw [if_neg e, wrap_id (by omega) (by omega)]
      refine ih (i + 1) k (by omega) (by omega) (fun j hj => ?_) (by omega)
      by_cases e2 : j = i
      · subst e2; exact e
      · exact hb j (by omega)
theorem has_true (l : List ByteArray) (hl : l.length ≤ 1048576) (a : ByteArray) (h : ltr a ∈ l.map ltr) (k : Nat) (hk : l.length < k) : laws_wHas.f k l a = some true := has_loop l hl a h l.length 0 k (by omega) (by omega) (fun j hj => by omega) hk
theorem all_loop (a b : List ByteArray) (ha : a.length ≤ 1048576) (hb : b.length ≤ 1048576) (h : ∀ x ∈ a.map ltr, x ∈ b.map ltr) (d : Nat) : ∀ (i k : Nat), i ≤ a.length → a.length - i = d → d + b.length + 1 < k → laws_wAll.l0 k a b (i : Int) = some true := by
  induction d with
  | zero =>
    intro i k hi hd hk
    obtain ⟨k, rfl⟩ : ∃ m, k = m + 1 := ⟨k - 1, by omega⟩
    rw [laws_wAll.l0, if_neg (by omega)]
  | succ d ih =>
    intro i k hi hd hk
    obtain ⟨k, rfl⟩ : ∃ m, k = m + 1 := ⟨k - 1, by omega⟩
    rw [laws_wAll.l0, if_pos (by omega), if_pos (by omega), rdOf_nat, has_true b hb _ (h _ (List.mem_map_of_mem (getD_mem a i (by omega)))) k (by omega), Option.bind_some, if_pos rfl, wrap_id (by omega) (by omega)]
    exact ih (i + 1) k (by omega) (by omega) (by omega)
theorem all_true (a b : List ByteArray) (ha : a.length ≤ 1048576) (hb : b.length ≤ 1048576) (h : ∀ x ∈ a.map ltr, x ∈ b.map ltr) (k : Nat) (hk : a.length + b.length + 1 < k) : laws_wAll.f k a b = some true := all_loop a b ha hb h a.length 0 k (by omega) (by omega) (by omega)
end Go.Proofs.Ytdkologncoofdaa.P
-- Q5b
namespace Go.Proofs.Ytdkologncoofdaa.P
open Go.RowKit Go.Proofs.YtdkologncoofdaaW.PrintWords Go.Proofs.YtdkologncoofdaaW.PrintLast
set_option linter.unusedVariables false
set_option linter.unusedSimpArgs false

theorem map_le (l : List S48) (h : l.length ≤ 1048576) : (l.map to39).length ≤ 1048576 := by rw [List.length_map]; exact h

theorem spec_rb (l : List S39) (a : ByteArray) (k : Nat) (hk : 80 ≤ k) : spec_RecBound.f k l a = some (if recOk l = true then boundOf l a else 0) := by
  unfold spec_RecBound.f
  rw [spec_ok l k (by omega), Option.bind_some]
  by_cases h : recOk l = true
  · rw [if_pos h, if_pos h, spec_bd l h a k (by omega)]; rfl
  · rw [if_neg h, if_neg h]
theorem impl_rb (l : List S39) (a : ByteArray) (k : Nat) (hk : 80 ≤ k) : impl_RecBound.f k l a = some (if recOk l = true then boundOf l a else 0) := by
  unfold impl_RecBound.f
  rw [impl_ok l k (by omega), Option.bind_some]
  by_cases h : recOk l = true
  · rw [if_pos h, if_pos h, impl_bd l h a k (by omega)]; rfl
  · rw [if_neg h, if_neg h]

end Go.Proofs.Ytdkologncoofdaa.P
-- PureFnBound
namespace Go.Proofs.Ytdkologncoofdaa.Pure
open Go.RowKit Go.Proofs.Ytdkologncoofdaa.P Go.Proofs.YtdkologncoofdaaW.PrintWords Go.Proofs.YtdkologncoofdaaW.PrintLast
set_option linter.unusedVariables false
set_option linter.unusedSimpArgs false

theorem drawnBound (l : List Int) (hb : ∀ x ∈ l, 0 ≤ x ∧ x ≤ 255) (k : Nat) (hk : 60 ≤ k) : ∃ x n, spec_DrawRecBound.f k l = some (x, n) ∧ x.length ≤ 13 := by
  unfold spec_DrawRecBound.f spec_DrawRecSlots.f
  obtain ⟨b, e0, hB⟩ := open_ok l hb
  rw [e0, Option.bind_some]
  obtain ⟨x, q, ex, x1, x2, x3⟩ := any_ok hB (p := 0) (by omega) (by omega) k hk
  simp only [ex, Option.bind_some]
  obtain ⟨n, q2, en, n1, n2⟩ := from_ok hB (p := q) (by omega) (by omega) x (by omega) k hk
  simp only [en, Option.bind_some]
  exact ⟨x, n, rfl, x1⟩
/-- Where the longer way goes on. -/
def nxt (x : List S39) (a : ByteArray) : ByteArray := if boundOf x (rd_T39 x (atOf x a)).f6 > boundOf x (rd_T39 x (atOf x a)).f7 then (rd_T39 x (atOf x a)).f6 else (rd_T39 x (atOf x a)).f7
theorem fb_l1 (x : List S39) (hok : recOk x = true) (n : ByteArray) (T : List ByteArray) (N sum : Int) (h0 : 0 ≤ sum) (h1 : sum ≤ 1000000) (a : ByteArray) (i : Nat) (hi : i < x.length)
    (hA : atOf x a < 0 → Evn (fun k => laws_FnBound.l0 k x n N T sum [] a ((i + 1 : Nat) : Int)) true) (hB : ¬ atOf x a < 0 → Evn (fun k => laws_FnBound.l0 k x n N T (sum + (rd_T39 x (atOf x a)).f5) [] (nxt x a) ((i + 1 : Nat) : Int)) true) (d : Nat) :
    ∀ j, j ≤ x.length → x.length - j = d → (∀ j', j' < j → ((x.getD j' z39).f0.toList == a.toList) = false) → Evn (fun k => laws_FnBound.l1 k x n N T sum [] a (i : Int) (j : Int)) true := by
  have hlen := recOk_len x hok
  induction d with
  | zero =>
    intro j hj hd hb
    refine Evn.succ (hA ?_) (fun k => ?_)
    · rw [atOf_miss x a (fun q hq => hb q (by omega))]; decide
    · rw [laws_FnBound.l1, if_neg (by omega), wrap_id (by omega) (by omega)]; rfl
  | succ d ih =>
    intro j hj hd hb
    by_cases he : (rd_T39 x (j : Int)).f0.toList = a.toList
    · have ha := atOf_hit x a j (by omega) (by rw [← rd_getD]; simpa using he) hb
      have hB := hB (by omega)
      have hx := ok_ref x hok a (by omega)
      unfold nxt at hB
      rw [ha] at hB hx
      refine Evn.succ (f := fun k => (impl_RecBound.f k x (rd_T39 x (j : Int)).f6).bind fun t => (impl_RecBound.f k x (rd_T39 x (j : Int)).f7).bind fun s => if t > s then laws_FnBound.l0 k x n N T (wrap64 (sum + (rd_T39 x (j : Int)).f5)) [] (rd_T39 x (j : Int)).f6 (wrap64 ((i : Int) + 1)) else laws_FnBound.l0 k x n N T (wrap64 (sum + (rd_T39 x (j : Int)).f5)) [] (rd_T39 x (j : Int)).f7 (wrap64 ((i : Int) + 1))) ?_ (fun k => ?_)
      · refine Evn.bind ⟨80, fun k hk => impl_rb x _ k hk⟩ (Evn.bind ⟨80, fun k hk => impl_rb x _ k hk⟩ ?_)
        rw [if_pos hok, if_pos hok, wrap_id (by omega) (by omega), wrap_id (by omega) (by omega)]
        by_cases c : boundOf x (rd_T39 x (j : Int)).f6 > boundOf x (rd_T39 x (j : Int)).f7
        · rw [if_pos c] at hB
          exact Evn.yes c hB
        · rw [if_neg c] at hB
          exact Evn.no c hB
      · rw [laws_FnBound.l1, if_pos (by omega), if_pos (by omega), if_pos he]
    · refine Evn.succ (ih (j + 1) (by omega) (by omega) (fun q hq => ?_)) (fun k => ?_)
      · by_cases e : q = j
        · subst e; rw [← rd_getD]; simpa using he
        · exact hb q (by omega)
      · rw [laws_FnBound.l1, if_pos (by omega), if_pos (by omega), if_neg he, wrap_id (by omega) (by omega)]; rfl
theorem fb_l0 (x : List S39) (hok : recOk x = true) (n : ByteArray) (T : List ByteArray) (N : Int) (hN : 0 ≤ N ∧ N ≤ 13000) (hL : Evn (fun k => laws_FnBound.l2 k x n N T N [] 0) true) (d : Nat) :
    ∀ (i : Nat) (a : ByteArray) (sum : Int), i ≤ x.length → x.length - i = d → rk x a ≤ x.length - i → sum + boundOf x a = N → 0 ≤ sum → Evn (fun k => laws_FnBound.l0 k x n N T sum [] a (i : Int)) true := by
  have hlen := recOk_len x hok
  induction d with
  | zero =>
    intro i a sum hi hd hr hs h0
    have hz : atOf x a < 0 := by
      unfold rk at hr
      have := atOf_range x a
      split at hr <;> omega
    have hb := boundOf_step x hok a
    rw [if_pos hz] at hb
    obtain rfl : sum = N := by omega
    exact Evn.succ (f := fun k => laws_FnBound.j2 k x n sum T sum [] a (i : Int) false) (Evn.succ hL (fun k => by rw [laws_FnBound.j2, if_neg (by decide)])) (fun k => by rw [laws_FnBound.l0, if_neg (by omega)])
  | succ d ih =>
    intro i a sum hi hd hr hs h0
    have hbr := boundOf_range x hok a
    refine Evn.succ (f := fun k => (spec_RecOk.f k x).bind fun t => laws_FnBound.j2 k x n N T sum [] a (i : Int) t) (Evn.bind ⟨44, fun k hk => spec_ok x k hk⟩ ?_) (fun k => by rw [laws_FnBound.l0, if_pos (by omega)])
    rw [hok]
    refine Evn.succ (fb_l1 x hok n T N sum h0 (by omega) a i (by omega) (fun ha => ?_) (fun ha => ?_) x.length 0 (by omega) (by omega) (fun j hj => by omega)) (fun k => by rw [laws_FnBound.j2, if_pos rfl]; rfl)
    · refine ih (i + 1) a sum (by omega) (by omega) ?_ hs h0
      unfold rk
      rw [if_pos ha]
      simp
    · have hx := ok_ref x hok a ha
      have hb := boundOf_step x hok a
      rw [if_neg ha] at hb
      refine ih (i + 1) (nxt x a) _ (by omega) (by omega) ?_ ?_ (by omega)
      · unfold nxt; split <;> omega
      · unfold nxt; split <;> omega
theorem name_at (x : List S39) (hok : recOk x = true) (i : Nat) (hi : i < x.length) : atOf x (rd_T39 x (i : Int)).f0 = (i : Int) := by
  have h := recOk_at x hok i hi
  unfold okAt at h
  simp only [Bool.and_eq_true, beq_iff_eq] at h
  exact h.1.1.2
theorem uses_iff (x : List S39) (hok : recOk x = true) (n : ByteArray) (y : List UInt8) : Uses x n y ↔ ∃ j, j < x.length ∧ R x n (ltr (rd_T39 x (j : Int)).f0) = true ∧ InSlot (rd_T39 x (j : Int)) y := by
  constructor
  · rintro ⟨m, hm, h0, hy⟩
    have hr := atOf_range x m
    obtain ⟨j, hj⟩ := Int.eq_ofNat_of_zero_le (show 0 ≤ atOf x m by omega)
    have hn := atOf_name x m (by omega)
    rw [ltr_eq, ltr_eq, hj] at hn
    exact ⟨j, by omega, by rw [hn]; exact hm, by rw [hj] at hy; exact hy⟩
  · rintro ⟨j, hj, hm, hy⟩
    have := name_at x hok j hj
    exact ⟨_, hm, by omega, by rw [this]; exact hy⟩
theorem fb_l2 (x : List S39) (hok : recOk x = true) (n a : ByteArray) (N : Int) (d : Nat) : ∀ (i : Nat) (used : List ByteArray), i ≤ x.length → x.length - i = d → used.length ≤ 2 * i →
    (∀ y, y ∈ used.map ltr ↔ ∃ j, j < i ∧ R x n (ltr (rd_T39 x (j : Int)).f0) = true ∧ InSlot (rd_T39 x (j : Int)) y) → Evn (fun k => laws_FnBound.l2 k x n N (slotsAt x n) N used (i : Int)) true := by
  have hlen := recOk_len x hok
  have hsl := slotsAt_len x n
  induction d with
  | zero =>
    intro i used hi hd hu hm
    obtain rfl : i = x.length := by omega
    have hs : ∀ y, y ∈ (slotsAt x n).map ltr ↔ y ∈ used.map ltr := by
      intro y
      rw [hm, ← uses_iff x hok, slotsAt, if_pos hok]
      exact slt_mem x hok y 12 n (rk_le x hok n)
    refine Evn.succ (f := fun k => laws_FnBound.j5 k x n N (slotsAt x n) N used (x.length : Int) false) ?_ (fun k => by rw [laws_FnBound.l2, if_neg (by omega)])
    refine Evn.succ (f := fun k => (laws_wAll.f k used (slotsAt x n)).bind fun t => if t = true then ((laws_wAll.f k (slotsAt x n) used).bind fun s => some s) else some false) ?_ (fun k => by rw [laws_FnBound.j5, if_neg (by decide), if_pos rfl])
    refine Evn.bind ⟨100000, fun k hk => all_true used (slotsAt x n) (by omega) (by omega) (fun y hy => (hs y).2 hy) k (by omega)⟩ (Evn.yes rfl (Evn.bind ⟨100000, fun k hk => all_true (slotsAt x n) used (by omega) (by omega) (fun y hy => (hs y).1 hy) k (by omega)⟩ (Evn.pure _)))
  | succ d ih =>
    intro i used hi hd hu hm
    refine Evn.succ (f := fun k => (spec_RecOk.f k x).bind fun t => laws_FnBound.j5 k x n N (slotsAt x n) N used (i : Int) t) (Evn.bind ⟨44, fun k hk => spec_ok x k hk⟩ ?_) (fun k => by rw [laws_FnBound.l2, if_pos (by omega)])
    rw [hok]
    have hstep : ∀ (more : List ByteArray), (∀ y, y ∈ more.map ltr ↔ (R x n (ltr (rd_T39 x (i : Int)).f0) = true ∧ InSlot (rd_T39 x (i : Int)) y)) → ∀ y, y ∈ (used ++ more).map ltr ↔ ∃ j, j < i + 1 ∧ R x n (ltr (rd_T39 x (j : Int)).f0) = true ∧ InSlot (rd_T39 x (j : Int)) y := by
      intro more h y
      rw [List.map_append, List.mem_append, hm, h]
      constructor
      · rintro (⟨j, hj, h1, h2⟩ | h)
        · exact ⟨j, by omega, h1, h2⟩
        · exact ⟨i, by omega, h⟩
      · rintro ⟨j, hj, h1, h2⟩
        by_cases e : j = i
        · subst e; exact .inr ⟨h1, h2⟩
        · exact .inl ⟨j, by omega, h1, h2⟩
    have hw := fun k (hk : 300 ≤ k) => wreach x hok (rd_T39 x (i : Int)).f0 12 n k (rk_le x hok n) (by omega)
    cases hR : R x n (ltr (rd_T39 x (i : Int)).f0) with
    | false =>
      rw [hR] at hw
      refine Evn.succ (f := fun k => (laws_wReach.f k x n (rd_T39 x (i : Int)).f0).bind fun t => if t = true then (if used.length < 8796093022208 then ((some (used ++ [(rd_T39 x (i : Int)).f2] : List ByteArray)).bind fun y => (if ((rd_T39 x (i : Int)).f1) = 2 then (if y.length < 8796093022208 then (laws_FnBound.l2 k x n N (slotsAt x n) N (y ++ [(rd_T39 x (i : Int)).f3]) (wrap64 ((i : Int) + 1))) else (none)) else (laws_FnBound.l2 k x n N (slotsAt x n) N y (wrap64 ((i : Int) + 1))))) else (none)) else laws_FnBound.l2 k x n N (slotsAt x n) N used (wrap64 ((i : Int) + 1))) (Evn.bind ⟨300, hw⟩ (Evn.no (by decide) ?_)) (fun k => by rw [laws_FnBound.j5, if_pos rfl, if_pos (by omega), if_pos (by omega)])
      rw [wrap_id (by omega) (by omega)]
      have h2 := hstep [] (fun y => by simp [hR])
      rw [List.append_nil] at h2
      exact ih (i + 1) used (by omega) (by omega) (by omega) h2
    | true =>
      rw [hR] at hw
      refine Evn.succ (f := fun k => (laws_wReach.f k x n (rd_T39 x (i : Int)).f0).bind fun t => if t = true then (if used.length < 8796093022208 then ((some (used ++ [(rd_T39 x (i : Int)).f2] : List ByteArray)).bind fun y => (if ((rd_T39 x (i : Int)).f1) = 2 then (if y.length < 8796093022208 then (laws_FnBound.l2 k x n N (slotsAt x n) N (y ++ [(rd_T39 x (i : Int)).f3]) (wrap64 ((i : Int) + 1))) else (none)) else (laws_FnBound.l2 k x n N (slotsAt x n) N y (wrap64 ((i : Int) + 1))))) else (none)) else laws_FnBound.l2 k x n N (slotsAt x n) N used (wrap64 ((i : Int) + 1))) (Evn.bind ⟨300, hw⟩ (Evn.yes rfl (Evn.yes (by omega) (Evn.bind' ?_)))) (fun k => by rw [laws_FnBound.j5, if_pos rfl, if_pos (by omega), if_pos (by omega)])
      rw [wrap_id (by omega) (by omega)]
      by_cases h2 : (rd_T39 x (i : Int)).f1 = 2
      · refine Evn.yes h2 (Evn.yes (by simp; omega) ?_)
        rw [List.append_assoc]
        exact ih (i + 1) _ (by omega) (by omega) (by simp; omega) (hstep [(rd_T39 x (i : Int)).f2, (rd_T39 x (i : Int)).f3] (fun y => by simp [hR, InSlot, h2]))
      · exact Evn.no h2 (ih (i + 1) _ (by omega) (by omega) (by simp; omega) (hstep [(rd_T39 x (i : Int)).f2] (fun y => by simp [hR, InSlot, h2])))
theorem FnBound : laws_FnBound.Pure := by
  intro l _ _ hw
  have hb : ∀ x ∈ l, 0 ≤ x ∧ x ≤ 255 := by
    intro x hx
    have := hw x hx
    simp [Lit.wf, IntKind.min, IntKind.max, IntKind.signed, IntKind.bits] at this
    omega
  refine Evn.ends ?_
  unfold laws_FnBound.f
  by_cases h0 : (l.length : Int) > 1048576
  · exact Evn.yes h0 (Evn.pure _)
  refine Evn.no h0 ?_
  obtain ⟨x, n, hx, hxl⟩ := drawnBound l hb 60 (Nat.le_refl _)
  have hmono : ∀ j, spec_DrawRecBound.f (60 + j) l = some (x, n) := by
    intro j
    induction j with
    | zero => exact hx
    | succ j ih => exact spec_DrawRecBound.mono l (60 + j) _ ih
  refine Evn.bind ⟨60, fun k hk => by obtain ⟨j, rfl⟩ : ∃ j, k = 60 + j := ⟨k - 60, by omega⟩; exact hmono j⟩ ?_
  have hsl := slotsAt_len x n
  refine Evn.bind ⟨80, fun k hk => impl_rb x n k hk⟩ (Evn.bind' (Evn.bind ⟨80, fun k hk => spec_rb x n k hk⟩ (Evn.yes rfl (Evn.bind' (Evn.bind ⟨1048577, fun k hk => texts_self (slotsAt x n) (by omega) k (by omega)⟩ ?_)))))
  cases hok : recOk x with
  | false =>
    rw [if_neg (by decide), slotsAt, hok, if_neg (by decide)]
    have hL : Evn (fun k => laws_FnBound.j5 k x n 0 [] 0 [] 0 false) true := by
      refine Evn.succ (f := fun k => (laws_wAll.f k [] []).bind fun t => if t = true then ((laws_wAll.f k [] []).bind fun s => some s) else some false) ?_ (fun k => by rw [laws_FnBound.j5, if_neg (by decide), if_pos rfl])
      exact Evn.bind ⟨100, fun k hk => all_true [] [] (by simp) (by simp) (by simp) k (by simp; omega)⟩ (Evn.yes rfl (Evn.bind ⟨100, fun k hk => all_true [] [] (by simp) (by simp) (by simp) k (by simp; omega)⟩ (Evn.pure _)))
    have hL2 : Evn (fun k => laws_FnBound.l2 k x n 0 [] 0 [] 0) true := by
      by_cases c : (0 : Int) < (x.length : Int)
      · refine Evn.succ (f := fun k => (spec_RecOk.f k x).bind fun t => laws_FnBound.j5 k x n 0 [] 0 [] 0 t) (Evn.bind ⟨44, fun k hk => spec_ok x k hk⟩ ?_) (fun k => by rw [laws_FnBound.l2, if_pos c])
        rw [hok]; exact hL
      · exact Evn.succ hL (fun k => by rw [laws_FnBound.l2, if_neg c])
    have hj2 : Evn (fun k => laws_FnBound.j2 k x n 0 [] 0 [] n 0 false) true := Evn.succ hL2 (fun k => by rw [laws_FnBound.j2, if_neg (by decide)])
    refine Evn.succ (f := fun k => laws_FnBound.l0 k x n 0 [] 0 [] n 0) ?_ (fun k => by rw [laws_FnBound.j0, if_neg (by decide)])
    by_cases c : (0 : Int) < (x.length : Int)
    · refine Evn.succ (f := fun k => (spec_RecOk.f k x).bind fun t => laws_FnBound.j2 k x n 0 [] 0 [] n 0 t) (Evn.bind ⟨44, fun k hk => spec_ok x k hk⟩ ?_) (fun k => by rw [laws_FnBound.l0, if_pos c])
      rw [hok]; exact hj2
    · exact Evn.succ hj2 (fun k => by rw [laws_FnBound.l0, if_neg c])
  | true =>
    rw [if_pos rfl]
    have hlen := recOk_len x hok
    have hbr := boundOf_range x hok n
    have hL := fb_l2 x hok n n (boundOf x n) x.length 0 [] (by omega) (by omega) (by simp) (fun y => by simp)
    have hr : rk x n ≤ x.length - 0 := by
      unfold rk
      split <;> omega
    exact Evn.succ (fb_l0 x hok n (slotsAt x n) (boundOf x n) (by omega) hL x.length 0 n 0 (by omega) (by omega) hr (by omega) (by omega)) (fun k => by rw [laws_FnBound.j0, if_neg (by decide)]; rfl)

end Go.Proofs.Ytdkologncoofdaa.Pure
