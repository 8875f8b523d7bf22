/- Part 6 of the texts that the law FnTop reaches: contracts of the functions and plain lemmas. -/
import Derived.Test.YtdkologncoofdaaCFnTop2
import Derived.Test.YtdkologncoofdaaCFnTop3
import Derived.Test.YtdkologncoofdaaCFnTop4
import Derived.Test.YtdkologncoofdaaCFnTop5
-- Px91
namespace Go.Proofs.Ytdkologncoofdaa.P
open Go.RowKit Go.Proofs.YtdkologncoofdaaW.PrintWords Go.Proofs.YtdkologncoofdaaW.PrintLast Go.Proofs.YtdkologncoofdaaW.PrintMore
attribute [local go_sem] max2_int min2_int max_two min_two max_three min_three max_four min_four   -- for this text's walks alone
set_option linter.unusedVariables false
set_option linter.unusedSimpArgs false

attribute [local go_sem high] eqA31
/-! ### laws_FnTop: function 5 -/
mutual
def laws_FnTop.j0 : Nat → List (S39) → List (S43) → List ByteArray → Bool → ByteArray → Int → Int → Option (Bool)
 | 0, _, _, _, _, _, _, _ => none
 | k + 1, x3, x4, x6, x43, x1053000, x1053001, x1053002 => if x43 = true then (some false) else ((spec_RecOk.f k x3).bind fun t1061 => (if t1061 = true then ((impl_RecEnd.f k x1053000).bind fun t1062 => (if t1062 = 0 then (laws_FnTop.j1 k x3 x4 x6 true x1053000 x1053001 x1053002) else (if 0 < (x3.length : Int) then ((impl_RecCan.f k x3 ((rd_T39 x3 0).f0) t1062).bind fun t1064 => (if t1064 = true then ((impl_RecBound.f k x3 ((rd_T39 x3 0).f0)).bind fun t1066 => (if x1053001 > t1066 then (laws_FnTop.j1 k x3 x4 x6 true x1053000 x1053001 x1053002) else (if x1053002 = 0 then (if (x6.length : Int) = 0 then (laws_FnTop.j1 k x3 x4 x6 true x1053000 x1053001 x1053002) else (if 0 < (x6.length : Int) then (laws_FnTop.j1 k x3 x4 x6 ((rdOf ByteArray.empty x6 0).toList != ((rd_T39 x3 0).f0).toList) x1053000 x1053001 x1053002) else (none))) else (laws_FnTop.j1 k x3 x4 x6 true x1053000 x1053001 x1053002)))) else (laws_FnTop.j1 k x3 x4 x6 true x1053000 x1053001 x1053002))) else (none)))) else (if (x1053000.toList == ([] : List UInt8) && (x1053001 == 0 && (x1053002 == 0))) = true then (some ((x6.length : Int) == 0)) else (some false))))
def laws_FnTop.j1 : Nat → List (S39) → List (S43) → List ByteArray → Bool → ByteArray → Int → Int → Option (Bool)
 | 0, _, _, _, _, _, _, _ => none
 | k + 1, x3, x4, x6, x100, x1053000, x1053001, x1053002 => if x100 = true then (some false) else ((impl_RecBegin.f k x3).bind fun bt1069 => (laws_FnTop.l0 k x3 x4 x6 0 x1053000 x1053001 x1053002 bt1069.1 bt1069.2.1 bt1069.2.2))
def laws_FnTop.l0 : Nat → List (S39) → List (S43) → List ByteArray → Int → ByteArray → Int → Int → ByteArray → Int → Int → Option (Bool)
 | 0, _, _, _, _, _, _, _, _, _, _ => none
 | k + 1, x3, x4, x6, x11, x1053000, x1053001, x1053002, x1073000, x1073001, x1073002 => if x11 < (x6.length : Int) then (if x11 < (x4.length : Int) then (if 0 ≤ x11 then (laws_FnTop.j3 k x3 x4 x6 x11 x1053000 x1053001 x1053002 x1073000 x1073001 x1073002 ((rd_T43 x4 x11).f0) ((rd_T43 x4 x11).f1)) else (none)) else (laws_FnTop.j3 k x3 x4 x6 x11 x1053000 x1053001 x1053002 x1073000 x1073001 x1073002 1001 false)) else (some (x1073000.toList == x1053000.toList && (x1073001 == x1053001 && (x1073002 == x1053002))))
def laws_FnTop.j3 : Nat → List (S39) → List (S43) → List ByteArray → Int → ByteArray → Int → Int → ByteArray → Int → Int → Int → Bool → Option (Bool)
 | 0, _, _, _, _, _, _, _, _, _, _, _, _ => none
 | k + 1, x3, x4, x6, x11, x1053000, x1053001, x1053002, x1073000, x1073001, x1073002, x1074000, x1074001 => (impl_RecGo.f k x3 x1073000 x1073001 x1073002 x1074000 x1074001).bind fun bt1075 => (if bt1075.2.2.2 = true then (if 0 ≤ x11 then (if x11 < (x6.length : Int) then (if x1073000.toList = (rdOf ByteArray.empty x6 x11).toList then (if bt1075.2.1 < x1073001 then (some false) else (if (wrap64 (bt1075.2.1 + bt1075.2.2.1)) > (wrap64 (x1073001 + x1073002)) then (some false) else ((impl_RecSlots.f k x3 bt1075.1).bind fun t1081 => ((impl_RecSlots.f k x3 x1073000).bind fun t1084 => ((laws_wAll.f k t1081 t1084).bind fun t1087 => (if t1087 = true then (laws_FnTop.l0 k x3 x4 x6 (wrap64 (x11 + 1)) x1053000 x1053001 x1053002 bt1075.1 bt1075.2.1 bt1075.2.2.1) else (some false))))))) else (some false)) else (none)) else (none)) else (some false))
end
def laws_FnTop.f (k : Nat) (l0 : List Int) : Option (Bool) := if (l0.length : Int) > 1048576 then (some true) else ((spec_DrawRecRun.f k l0).bind fun bt1040 => ((impl_RecRun.f k bt1040.1 bt1040.2).bind fun bt1046 => ((spec_RecRun.f k bt1040.1 bt1040.2).bind fun bt1053 => (if (!(bt1046.1.toList == bt1053.1.toList) || (!(bt1046.2.1 == bt1053.2.1) || (!(bt1046.2.2.1 == bt1053.2.2.1)))) = true then (laws_FnTop.j0 k bt1040.1 bt1040.2 bt1046.2.2.2 true bt1046.1 bt1046.2.1 bt1046.2.2.1) else ((laws_wTexts.f k bt1046.2.2.2 bt1053.2.2.2).bind fun t1060 => (laws_FnTop.j0 k bt1040.1 bt1040.2 bt1046.2.2.2 (!t1060) bt1046.1 bt1046.2.1 bt1046.2.2.1))))))
theorem laws_FnTop.mono_l : ∀ k, (∀ y0 y1 y2 y3 y4 y5 y6, LeO (laws_FnTop.j0 k y0 y1 y2 y3 y4 y5 y6) (laws_FnTop.j0 (k + 1) y0 y1 y2 y3 y4 y5 y6)) ∧ (∀ y0 y1 y2 y3 y4 y5 y6, LeO (laws_FnTop.j1 k y0 y1 y2 y3 y4 y5 y6) (laws_FnTop.j1 (k + 1) y0 y1 y2 y3 y4 y5 y6)) ∧ (∀ y0 y1 y2 y3 y4 y5 y6 y7 y8 y9, LeO (laws_FnTop.l0 k y0 y1 y2 y3 y4 y5 y6 y7 y8 y9) (laws_FnTop.l0 (k + 1) y0 y1 y2 y3 y4 y5 y6 y7 y8 y9)) ∧ (∀ y0 y1 y2 y3 y4 y5 y6 y7 y8 y9 y10 y11, LeO (laws_FnTop.j3 k y0 y1 y2 y3 y4 y5 y6 y7 y8 y9 y10 y11) (laws_FnTop.j3 (k + 1) y0 y1 y2 y3 y4 y5 y6 y7 y8 y9 y10 y11))
 | 0 => ⟨fun _ _ _ _ _ _ _ r h => by simp [laws_FnTop.j0] at h, fun _ _ _ _ _ _ _ r h => by simp [laws_FnTop.j1] at h, fun _ _ _ _ _ _ _ _ _ _ r h => by simp [laws_FnTop.l0] at h, fun _ _ _ _ _ _ _ _ _ _ _ _ r h => by simp [laws_FnTop.j3] at h⟩
 | k + 1 => by
  obtain ⟨ih0, ih1, ih2, ih3⟩ := laws_FnTop.mono_l k
  refine ⟨?_, ?_, ?_, ?_⟩
  ·intro y0 y1 y2 y3 y4 y5 y6
   unfold laws_FnTop.j0
   repeat' first
   | (with_reducible exact ih0 _ _ _ _ _ _ _)
   | (with_reducible exact ih1 _ _ _ _ _ _ _)
   | (with_reducible exact ih2 _ _ _ _ _ _ _ _ _ _)
   | (with_reducible exact ih3 _ _ _ _ _ _ _ _ _ _ _ _)
   | (with_reducible exact impl_RecBegin.mono _ _)
   | (with_reducible exact impl_RecBound.mono _ _ _)
   | (with_reducible exact impl_RecCan.mono _ _ _ _)
   | (with_reducible exact impl_RecEnd.mono _ _)
   | (with_reducible exact impl_RecGo.mono _ _ _ _ _ _ _)
   | (with_reducible exact impl_RecRun.mono _ _ _)
   | (with_reducible exact impl_RecSlots.mono _ _ _)
   | (with_reducible exact laws_wAll.mono _ _ _)
   | (with_reducible exact laws_wTexts.mono _ _ _)
   | (with_reducible exact spec_DrawRecRun.mono _ _)
   | (with_reducible exact spec_RecOk.mono _ _)
   | (with_reducible exact spec_RecRun.mono _ _ _)
   | (with_reducible exact LeO.refl _)
   | (with_reducible exact LeO.none _)
   | (with_reducible refine LeO.ite ?_ ?_)
   | (with_reducible refine LeO.bind ?_ (fun _ => ?_))
   | exact ih0 _ _ _ _ _ _ _
   | exact ih1 _ _ _ _ _ _ _
   | exact ih2 _ _ _ _ _ _ _ _ _ _
   | exact ih3 _ _ _ _ _ _ _ _ _ _ _ _
   | exact impl_RecBegin.mono _ _
   | exact impl_RecBound.mono _ _ _
   | exact impl_RecCan.mono _ _ _ _
   | exact impl_RecEnd.mono _ _
   | exact impl_RecGo.mono _ _ _ _ _ _ _
   | exact impl_RecRun.mono _ _ _
   | exact impl_RecSlots.mono _ _ _
   | exact laws_wAll.mono _ _ _
   | exact laws_wTexts.mono _ _ _
   | exact spec_DrawRecRun.mono _ _
   | exact spec_RecOk.mono _ _
   | exact spec_RecRun.mono _ _ _
   | exact LeO.none _
   | refine LeO.ite ?_ ?_
   | refine LeO.bind ?_ (fun _ => ?_)
  ·intro y0 y1 y2 y3 y4 y5 y6
   unfold laws_FnTop.j1
   repeat' first
   | (with_reducible exact ih0 _ _ _ _ _ _ _)
   | (with_reducible exact ih1 _ _ _ _ _ _ _)
   | (with_reducible exact ih2 _ _ _ _ _ _ _ _ _ _)
   | (with_reducible exact ih3 _ _ _ _ _ _ _ _ _ _ _ _)
   | (with_reducible exact impl_RecBegin.mono _ _)
   | (with_reducible exact impl_RecBound.mono _ _ _)
   | (with_reducible exact impl_RecCan.mono _ _ _ _)
   | (with_reducible exact impl_RecEnd.mono _ _)
   | (with_reducible exact impl_RecGo.mono _ _ _ _ _ _ _)
   | (with_reducible exact impl_RecRun.mono _ _ _)
   | (with_reducible exact impl_RecSlots.mono _ _ _)
   | (with_reducible exact laws_wAll.mono _ _ _)
   | (with_reducible exact laws_wTexts.mono _ _ _)
   | (with_reducible exact spec_DrawRecRun.mono _ _)
   | (with_reducible exact spec_RecOk.mono _ _)
   | (with_reducible exact spec_RecRun.mono _ _ _)
   | (with_reducible exact LeO.refl _)
   | (with_reducible exact LeO.none _)
   | (with_reducible refine LeO.ite ?_ ?_)
   | (with_reducible refine LeO.bind ?_ (fun _ => ?_))
   | exact ih0 _ _ _ _ _ _ _
   | exact ih1 _ _ _ _ _ _ _
   | exact ih2 _ _ _ _ _ _ _ _ _ _
   | exact ih3 _ _ _ _ _ _ _ _ _ _ _ _
   | exact impl_RecBegin.mono _ _
   | exact impl_RecBound.mono _ _ _
   | exact impl_RecCan.mono _ _ _ _
   | exact impl_RecEnd.mono _ _
   | exact impl_RecGo.mono _ _ _ _ _ _ _
   | exact impl_RecRun.mono _ _ _
   | exact impl_RecSlots.mono _ _ _
   | exact laws_wAll.mono _ _ _
   | exact laws_wTexts.mono _ _ _
   | exact spec_DrawRecRun.mono _ _
   | exact spec_RecOk.mono _ _
   | exact spec_RecRun.mono _ _ _
   | exact LeO.none _
   | refine LeO.ite ?_ ?_
   | refine LeO.bind ?_ (fun _ => ?_)
  ·intro y0 y1 y2 y3 y4 y5 y6 y7 y8 y9
   unfold laws_FnTop.l0
   repeat' first
   | (with_reducible exact ih0 _ _ _ _ _ _ _)
   | (with_reducible exact ih1 _ _ _ _ _ _ _)
   | (with_reducible exact ih2 _ _ _ _ _ _ _ _ _ _)
   | (with_reducible exact ih3 _ _ _ _ _ _ _ _ _ _ _ _)
   | (with_reducible exact impl_RecBegin.mono _ _)
   | (with_reducible exact impl_RecBound.mono _ _ _)
   | (with_reducible exact impl_RecCan.mono _ _ _ _)
   | (with_reducible exact impl_RecEnd.mono _ _)
   | (with_reducible exact impl_RecGo.mono _ _ _ _ _ _ _)
   | (with_reducible exact impl_RecRun.mono _ _ _)
   | (with_reducible exact impl_RecSlots.mono _ _ _)
   | (with_reducible exact laws_wAll.mono _ _ _)
   | (with_reducible exact laws_wTexts.mono _ _ _)
   | (with_reducible exact spec_DrawRecRun.mono _ _)
   | (with_reducible exact spec_RecOk.mono _ _)
   | (with_reducible exact spec_RecRun.mono _ _ _)
   | (with_reducible exact LeO.refl _)
   | (with_reducible exact LeO.none _)
   | (with_reducible refine LeO.ite ?_ ?_)
   | (with_reducible refine LeO.bind ?_ (fun _ => ?_))
   | exact ih0 _ _ _ _ _ _ _
   | exact ih1 _ _ _ _ _ _ _
   | exact ih2 _ _ _ _ _ _ _ _ _ _
   | exact ih3 _ _ _ _ _ _ _ _ _ _ _ _
   | exact impl_RecBegin.mono _ _
   | exact impl_RecBound.mono _ _ _
   | exact impl_RecCan.mono _ _ _ _
   | exact impl_RecEnd.mono _ _
   | exact impl_RecGo.mono _ _ _ _ _ _ _
   | exact impl_RecRun.mono _ _ _
   | exact impl_RecSlots.mono _ _ _
   | exact laws_wAll.mono _ _ _
   | exact laws_wTexts.mono _ _ _
   | exact spec_DrawRecRun.mono _ _
   | exact spec_RecOk.mono _ _
   | exact spec_RecRun.mono _ _ _
   | exact LeO.none _
   | refine LeO.ite ?_ ?_
   | refine LeO.bind ?_ (fun _ => ?_)
  ·intro y0 y1 y2 y3 y4 y5 y6 y7 y8 y9 y10 y11
   unfold laws_FnTop.j3
   repeat' first
   | (with_reducible exact ih0 _ _ _ _ _ _ _)
   | (with_reducible exact ih1 _ _ _ _ _ _ _)
   | (with_reducible exact ih2 _ _ _ _ _ _ _ _ _ _)
   | (with_reducible exact ih3 _ _ _ _ _ _ _ _ _ _ _ _)
   | (with_reducible exact impl_RecBegin.mono _ _)
   | (with_reducible exact impl_RecBound.mono _ _ _)
   | (with_reducible exact impl_RecCan.mono _ _ _ _)
   | (with_reducible exact impl_RecEnd.mono _ _)
   | (with_reducible exact impl_RecGo.mono _ _ _ _ _ _ _)
   | (with_reducible exact impl_RecRun.mono _ _ _)
   | (with_reducible exact impl_RecSlots.mono _ _ _)
   | (with_reducible exact laws_wAll.mono _ _ _)
   | (with_reducible exact laws_wTexts.mono _ _ _)
   | (with_reducible exact spec_DrawRecRun.mono _ _)
   | (with_reducible exact spec_RecOk.mono _ _)
   | (with_reducible exact spec_RecRun.mono _ _ _)
   | (with_reducible exact LeO.refl _)
   | (with_reducible exact LeO.none _)
   | (with_reducible refine LeO.ite ?_ ?_)
   | (with_reducible refine LeO.bind ?_ (fun _ => ?_))
   | exact ih0 _ _ _ _ _ _ _
   | exact ih1 _ _ _ _ _ _ _
   | exact ih2 _ _ _ _ _ _ _ _ _ _
   | exact ih3 _ _ _ _ _ _ _ _ _ _ _ _
   | exact impl_RecBegin.mono _ _
   | exact impl_RecBound.mono _ _ _
   | exact impl_RecCan.mono _ _ _ _
   | exact impl_RecEnd.mono _ _
   | exact impl_RecGo.mono _ _ _ _ _ _ _
   | exact impl_RecRun.mono _ _ _
   | exact impl_RecSlots.mono _ _ _
   | exact laws_wAll.mono _ _ _
   | exact laws_wTexts.mono _ _ _
   | exact spec_DrawRecRun.mono _ _
   | exact spec_RecOk.mono _ _
   | exact spec_RecRun.mono _ _ _
   | exact LeO.none _
   | refine LeO.ite ?_ ?_
   | refine LeO.bind ?_ (fun _ => ?_)
theorem laws_FnTop.mono : ∀ a0 k, LeO (laws_FnTop.f k a0) (laws_FnTop.f (k + 1) a0) := by
 intro a0 k
 obtain ⟨ih0, ih1, ih2, ih3⟩ := laws_FnTop.mono_l k
 unfold laws_FnTop.f
 repeat' first
   | (with_reducible exact ih0 _ _ _ _ _ _ _)
   | (with_reducible exact ih1 _ _ _ _ _ _ _)
   | (with_reducible exact ih2 _ _ _ _ _ _ _ _ _ _)
   | (with_reducible exact ih3 _ _ _ _ _ _ _ _ _ _ _ _)
   | (with_reducible exact impl_RecBegin.mono _ _)
   | (with_reducible exact impl_RecBound.mono _ _ _)
   | (with_reducible exact impl_RecCan.mono _ _ _ _)
   | (with_reducible exact impl_RecEnd.mono _ _)
   | (with_reducible exact impl_RecGo.mono _ _ _ _ _ _ _)
   | (with_reducible exact impl_RecRun.mono _ _ _)
   | (with_reducible exact impl_RecSlots.mono _ _ _)
   | (with_reducible exact laws_wAll.mono _ _ _)
   | (with_reducible exact laws_wTexts.mono _ _ _)
   | (with_reducible exact spec_DrawRecRun.mono _ _)
   | (with_reducible exact spec_RecOk.mono _ _)
   | (with_reducible exact spec_RecRun.mono _ _ _)
   | (with_reducible exact LeO.refl _)
   | (with_reducible exact LeO.none _)
   | (with_reducible refine LeO.ite ?_ ?_)
   | (with_reducible refine LeO.bind ?_ (fun _ => ?_))
   | exact ih0 _ _ _ _ _ _ _
   | exact ih1 _ _ _ _ _ _ _
   | exact ih2 _ _ _ _ _ _ _ _ _ _
   | exact ih3 _ _ _ _ _ _ _ _ _ _ _ _
   | exact impl_RecBegin.mono _ _
   | exact impl_RecBound.mono _ _ _
   | exact impl_RecCan.mono _ _ _ _
   | exact impl_RecEnd.mono _ _
   | exact impl_RecGo.mono _ _ _ _ _ _ _
   | exact impl_RecRun.mono _ _ _
   | exact impl_RecSlots.mono _ _ _
   | exact laws_wAll.mono _ _ _
   | exact laws_wTexts.mono _ _ _
   | exact spec_DrawRecRun.mono _ _
   | exact spec_RecOk.mono _ _
   | exact spec_RecRun.mono _ _ _
   | exact LeO.none _
   | refine LeO.ite ?_ ?_
   | refine LeO.bind ?_ (fun _ => ?_)
def laws_FnTop.T11 : Bool × List (List Nat × List Nat) := (true, [([], []), ([0], [0]), ([1], [1]), ([2], [2]), ([2], [2]), ([4, 2], [2, 4]), ([5, 2], [2, 5]), ([6, 2], [2, 6]), ([2], [2]), ([3, 7, 8, 2, 2], [2, 3, 7, 8]), ([9, 2], [2, 9]), ([2, 10], [2, 10]), ([11, 9], [11]), ([12], [12]), ([13, 12], [12, 13]), ([12], [12]), ([12], [12]), ([16, 12], [12, 16]), ([17, 12], [12, 17]), ([18, 12], [12, 18]), ([15, 19, 12, 12], [12, 15, 19]), ([14, 20, 12], [12, 14, 20]), ([12, 21], [12, 21]), ([22, 20], [22]), ([23], [23]), ([24, 23], [23, 24]), ([25, 23], [23, 25]), ([23, 26], [23, 26]), ([27, 23], [27]), ([28], [28]), ([29, 28], [28, 29]), ([30, 28], [28, 30]), ([28, 31], [28, 31]), ([32, 28], [32]), ([33], [33]), ([34, 33], [33, 34]), ([35, 33], [33, 35]), ([33], [33]), ([37, 33], [33, 37]), ([38, 33], [33, 38]), ([39, 33], [33, 39]), ([36, 40, 33], [33, 36, 40]), ([33, 41], [33, 41])])
def laws_FnTop.B11 : List Nat := [0, 1, 3, 7, 7, 23, 55, 119, 7, 511, 1023, 2047, 4095, 8191, 16383, 8191, 8191, 73727, 204799, 466943, 1023999, 2097151, 4194303, 8388607, 16777215, 33554431, 67108863, 134217727, 268435455, 536870911, 1073741823, 2147483647, 4294967295, 8589934591, 17179869183, 34359738367, 68719476735, 17179869183, 154618822655, 429496729599, 979252543487, 2199023255551, 4398046511103]
theorem laws_FnTop.tab11 : rtab .any (opsOf Try.f5 11) = laws_FnTop.T11 := by kernel_rfl
theorem laws_FnTop.bits11 : waitsOk laws_FnTop.T11.2 laws_FnTop.B11 = true := by kernel_rfl
def laws_FnTop.T21 : Bool × List (List Nat × List Nat) := (true, [([], []), ([0], [0]), ([1], [1]), ([2], [2]), ([3, 2], [2, 3]), ([2], [2]), ([2], [2]), ([5, 6, 2], [2, 5, 6]), ([7, 2], [2, 7]), ([4, 8, 2], [2, 4, 8]), ([2, 9], [2, 9]), ([10, 2], [10]), ([11], [11]), ([12, 11], [11, 12]), ([11], [11]), ([14, 11], [11, 14]), ([13, 15, 11], [11, 13, 15]), ([11, 16], [11, 16]), ([17, 11], [17]), ([18], [18]), ([19, 18], [18, 19]), ([18], [18]), ([21, 18], [18, 21]), ([20, 22, 18], [18, 20, 22]), ([18], [18]), ([24, 18], [18, 24]), ([18], [18]), ([26, 18], [18, 26]), ([25, 27, 18], [18, 25, 27]), ([23, 28, 18], [18, 23, 28]), ([18, 29], [18, 29]), ([30, 18], [30]), ([31], [31]), ([31], [31]), ([33, 31], [31, 33]), ([32, 34, 31, 31], [31, 32, 34]), ([31], [31]), ([31], [31]), ([37, 31], [31, 37]), ([36, 38, 35, 31], [31, 36, 38]), ([35, 39, 39, 31], [31, 35, 39]), ([40, 31], [31, 40]), ([31, 41], [31, 41])])
def laws_FnTop.B21 : List Nat := [0, 1, 3, 7, 15, 7, 7, 103, 231, 511, 1023, 2047, 4095, 8191, 4095, 20479, 65535, 131071, 262143, 524287, 1048575, 524287, 2621439, 8388607, 524287, 17301503, 524287, 67633151, 252182527, 536870911, 1073741823, 2147483647, 4294967295, 4294967295, 12884901887, 34359738367, 4294967295, 4294967295, 141733920767, 549755813887, 1099511627775, 2199023255551, 4398046511103]
theorem laws_FnTop.tab21 : rtab .any (opsOf Try.f5 21) = laws_FnTop.T21 := by kernel_rfl
theorem laws_FnTop.bits21 : waitsOk laws_FnTop.T21.2 laws_FnTop.B21 = true := by kernel_rfl
theorem top_no {r : Bool} {X : Prop} (hr : r = true) (h : some false = some r) : X := by subst hr; cases h
theorem top_j0 {r : Bool} {X : Prop} {k : Nat} {x3 : List S39} {x4 : List S43} {x6 : List ByteArray} {a : ByteArray} {b c : Int} (hr : r = true) (h : laws_FnTop.j0 k x3 x4 x6 true a b c = some r) : X := by subst hr; cases k <;> simp [laws_FnTop.j0] at h
theorem top_j1 {r : Bool} {X : Prop} {k : Nat} {x3 : List S39} {x4 : List S43} {x6 : List ByteArray} {a : ByteArray} {b c : Int} (hr : r = true) (h : laws_FnTop.j1 k x3 x4 x6 true a b c = some r) : X := by subst hr; cases k <;> simp [laws_FnTop.j1] at h
set_option maxHeartbeats 8000000 in
set_option maxRecDepth 100000 in
theorem laws_FnTop.calls (k : Nat) (A0 : Option Addr) (c0 : Nat) (l0 : List Int) (r : Bool) (w : World) (hr0 : Kd.C (Kd.int .u8) w A0 l0.length l0) (hc0 : l0.length ≤ c0) (h : laws_FnTop.f k l0 = some r) (hrt : r = true) :
  Calls Try.prog 5 #[.slice A0 l0.length c0] w fun e w' => e = .returned (.bool r) ∧ Below w.heap.size w w' := by
 have HRT := Aside0.mk hrt
 clear hrt
 have hu31 := Try.underlying31
 have hu43 := Try.underlying43
 have HR0 := Aside0.mk hr0
 have HC0 := Aside0.mk hc0
 clear hr0 hc0
 have HB := Aside0.mk (Below.refl w.heap.size w)
 have H : (if (l0.length : Int) > 1048576 then (some true) else ((spec_DrawRecRun.f k l0).bind fun bt1040 => ((impl_RecRun.f k bt1040.1 bt1040.2).bind fun bt1046 => ((spec_RecRun.f k bt1040.1 bt1040.2).bind fun bt1053 => (if (!(bt1046.1.toList == bt1053.1.toList) || (!(bt1046.2.1 == bt1053.2.1) || (!(bt1046.2.2.1 == bt1053.2.2.1)))) = true then (laws_FnTop.j0 k bt1040.1 bt1040.2 bt1046.2.2.2 true bt1046.1 bt1046.2.1 bt1046.2.2.1) else ((laws_wTexts.f k bt1046.2.2.2 bt1053.2.2.2).bind fun t1060 => (laws_FnTop.j0 k bt1040.1 bt1040.2 bt1046.2.2.2 (!t1060) bt1046.1 bt1046.2.1 bt1046.2.2.1))))))) = some r := h
 clear h
 by_cases c2 : (l0.length : Int) > 1048576
 ·rw [if_pos c2] at H
  have c2b0 : decide (1048576 < (l0.length : Int)) = true := decide_eq_true c2
  have c2b1 : decide (1048576 < l0.length) = true := decide_eq_true (by omega)
  clear c2
  obtain rfl := Option.some.inj H
  go_enter Try.func5, Try.ntmps5
  go_wp2
  go_ret
  exact ⟨exq, bw HB.out⟩
 ·rw [if_neg c2] at H
  have c2b0 : decide (1048576 < (l0.length : Int)) = false := decide_eq_false c2
  have c2b1 : decide (1048576 < l0.length) = false := decide_eq_false (by omega)
  clear c2
  replace H := Option.bind_eq_some_iff.mp H
  obtain ⟨⟨t1040, t1041⟩, A30, H⟩ := H
  try dsimp only at H
  have A3 := Aside0.mk A30
  clear A30
  replace H := Option.bind_eq_some_iff.mp H
  obtain ⟨⟨t1046, t1047, t1048, t1049⟩, A40, H⟩ := H
  try dsimp only at H
  have A4 := Aside0.mk A40
  clear A40
  replace H := Option.bind_eq_some_iff.mp H
  obtain ⟨⟨t1053, t1054, t1055, t1056⟩, A50, H⟩ := H
  try dsimp only at H
  have A5 := Aside0.mk A50
  clear A50
  have HC6 := Aside0.mk H
  clear H
  go_enter Try.func5, Try.ntmps5
  go_upto_region 6 with (first | ((with_reducible refine gate_callee (f := 20) rfl ?_); refine goesL_ (some 20) rfl rfl Try.func20 (by kernel_rfl) rfl #[.slice A0 l0.length c0] rfl mxp ?_; (with_reducible refine (spec_DrawRecRun.calls k _ _ l0 t1040 t1041 _ ?side1 ?side2 A3.out).mono ?_); (case side1 => exact cx HR0.out); (case side2 => exact HC0.out); rintro e w7 ⟨v1042, v1044, rfl, ho0, ho1, hb⟩; refine ⟨_, rfl, ?_⟩; have t_ := And.intro (Aside0.mk (Kd.R_lower ho0 (below_size (bw HB.out)))) <| And.intro (Aside0.mk (Kd.R_lower ho1 (below_size (bw HB.out)))) <| (bs HB hb); clear HB; obtain ⟨HO1043, HO1045, HB⟩ := t_; (try clear hb); (try clear hb2); (try clear hk); (try clear hi); (try clear ho0); (try clear ho1); obtain ⟨Ao8, co8, eo8⟩ := Kd.R_slice HO1043.out; subst eo8; obtain ⟨Ao9, co9, eo9⟩ := Kd.R_slice HO1045.out; subst eo9) | ((with_reducible refine gate_callee (f := 21) rfl ?_); refine goesL_ (some 26) rfl rfl Try.func21 (by kernel_rfl) rfl #[.slice Ao8 t1040.length co8, .slice Ao9 t1041.length co9] rfl mxp ?_; (with_reducible refine (impl_RecRun.calls k _ _ t1040 _ _ t1041 t1046 t1047 t1048 t1049 _ ?side1 ?side2 ?side3 ?side4 A4.out).mono ?_); (case side1 => exact cx (Kd.R_reads' HO1043.out).2.2); (case side2 => exact (Kd.R_reads' HO1043.out).2.1); (case side3 => exact cx (Kd.R_reads' HO1045.out).2.2); (case side4 => exact (Kd.R_reads' HO1045.out).2.1); rintro e w10 ⟨v1050, rfl, ho0, hb⟩; refine ⟨_, rfl, ?_⟩; have t_ := And.intro (Aside0.mk (Kd.R_below (rx HO1043.out) hb)) <| And.intro (Aside0.mk (Kd.R_below (rx HO1045.out) hb)) <| And.intro (Aside0.mk (Kd.R_lower ho0 (below_size (bw HB.out)))) <| (bs HB hb); clear HO1043 HO1045 HB; obtain ⟨HO1043, HO1045, HO1051, HB⟩ := t_; (try clear hb); (try clear hb2); (try clear hk); (try clear hi); (try clear ho0)) | ((with_reducible refine gate_dst (N := 5) rfl ?_); (try (refine gate_guard (by rfl) ?_; dsimp only)); refine box_event ?hg (N := 5) ?hd (cs := #[.string (⟨#[]⟩ : ByteArray), .int .i64 0, .int .i64 0]) (t := 31) ?hr ?_; (case hd => rfl); (case hg => rfl); (case hr => first | (go_simp; done) | (go_simp; rfl)); intro gb1052 hg w11 hbox hb; have t_ := And.intro (Aside0.mk (Kd.R_below (rx HO1043.out) hb)) <| And.intro (Aside0.mk (Kd.R_below (rx HO1045.out) hb)) <| And.intro (Aside0.mk (Kd.R_below (rx HO1051.out) hb)) <| And.intro (bs HB hb) <| And.intro (Aside0.mk (hbox)) <| And.intro (gh hg HB) <| (gh hg HB); clear HO1043 HO1045 HO1051 HB; obtain ⟨HO1043, HO1045, HO1051, HB, BK1052, GW1052, GE1052⟩ := t_; clear hb hbox hg; have hcz12_0 := b0 BK1052; have hcz12_1 := b1 BK1052; have hcz12_2 := b2 BK1052; have hfz12_0 := fz BK1052 0; have hfz12_1 := fz BK1052 1; have hfz12_2 := fz BK1052 2) | ((with_reducible refine gate_callee (f := 22) rfl ?_); refine goesL_ (some 32) rfl rfl Try.func22 (by kernel_rfl) rfl #[.slice Ao8 t1040.length co8, .slice Ao9 t1041.length co9] rfl mxp ?_; (with_reducible refine (spec_RecRun.calls k _ _ t1040 _ _ t1041 t1053 t1054 t1055 t1056 _ ?side1 ?side2 ?side3 ?side4 A5.out).mono ?_); (case side1 => refine (Kd.R_reads' (e := 39) (base := w.heap.size) (ok := fun k_ => True) (n := t1040.length) (c := co8) ?_).2.2; exact (by refine rx ?_; exact (Kd.R_mono (Kd.R_far (p := ⟨gb1052, 2, none⟩) (Kd.R_far (p := ⟨gb1052, 1, none⟩) (Kd.R_far (p := ⟨gb1052, 0, none⟩) (Kd.R_types HO1043.out BK1052.out (by decide)) (fun _ hk => hk.2) (.string t1046)) (fun _ hk => hk.2) (.int .i64 t1047)) (fun _ hk => hk.2) (.int .i64 t1048)) (fun _ h_ => h_.1)))); (case side2 => exact (Kd.R_reads' HO1043.out).2.1); (case side3 => refine (Kd.R_reads' (e := 43) (base := w.heap.size) (ok := fun k_ => True) (n := t1041.length) (c := co9) ?_).2.2; exact (by refine rx ?_; exact (Kd.R_mono (Kd.R_far (p := ⟨gb1052, 2, none⟩) (Kd.R_far (p := ⟨gb1052, 1, none⟩) (Kd.R_far (p := ⟨gb1052, 0, none⟩) (Kd.R_types HO1045.out BK1052.out (by decide)) (fun _ hk => hk.2) (.string t1046)) (fun _ hk => hk.2) (.int .i64 t1047)) (fun _ hk => hk.2) (.int .i64 t1048)) (fun _ h_ => h_.1)))); (case side4 => exact (Kd.R_reads' HO1045.out).2.1); rintro e w13 ⟨v1057, rfl, ho0, hb⟩; refine ⟨_, rfl, ?_⟩; have t_ := And.intro (Aside0.mk (Kd.R_below (by refine rx ?_; exact (Kd.R_mono (Kd.R_far (p := ⟨gb1052, 2, none⟩) (Kd.R_far (p := ⟨gb1052, 1, none⟩) (Kd.R_far (p := ⟨gb1052, 0, none⟩) (Kd.R_types HO1043.out BK1052.out (by decide)) (fun _ hk => hk.2) (.string t1046)) (fun _ hk => hk.2) (.int .i64 t1047)) (fun _ hk => hk.2) (.int .i64 t1048)) (fun _ h_ => h_.1))) hb)) <| And.intro (Aside0.mk (Kd.R_below (by refine rx ?_; exact (Kd.R_mono (Kd.R_far (p := ⟨gb1052, 2, none⟩) (Kd.R_far (p := ⟨gb1052, 1, none⟩) (Kd.R_far (p := ⟨gb1052, 0, none⟩) (Kd.R_types HO1045.out BK1052.out (by decide)) (fun _ hk => hk.2) (.string t1046)) (fun _ hk => hk.2) (.int .i64 t1047)) (fun _ hk => hk.2) (.int .i64 t1048)) (fun _ h_ => h_.1))) hb)) <| And.intro (Aside0.mk (Kd.R_elder' (by refine rx ?_; exact (Kd.R_mono (Kd.R_far (p := ⟨gb1052, 2, none⟩) (Kd.R_far (p := ⟨gb1052, 1, none⟩) (Kd.R_far (p := ⟨gb1052, 0, none⟩) (Kd.R_types HO1051.out BK1052.out (by decide)) (fun _ hk => hk.2) (.string t1046)) (fun _ hk => hk.2) (.int .i64 t1047)) (fun _ hk => hk.2) (.int .i64 t1048)) (fun _ h_ => h_.1))) (Kd.R_base ho0) hb)) <| And.intro (Aside0.mk (Kd.R_lower (Kd.R_new' ho0 (Kd.R_lt (by refine rx ?_; exact (Kd.R_mono (Kd.R_far (p := ⟨gb1052, 2, none⟩) (Kd.R_far (p := ⟨gb1052, 1, none⟩) (Kd.R_far (p := ⟨gb1052, 0, none⟩) (Kd.R_types HO1051.out BK1052.out (by decide)) (fun _ hk => hk.2) (.string t1046)) (fun _ hk => hk.2) (.int .i64 t1047)) (fun _ hk => hk.2) (.int .i64 t1048)) (fun _ h_ => h_.1))))) (below_size (bw HB.out)))) <| And.intro (Aside0.mk (blk_below (g := gb1052) (o := .cells #[.string t1046, .int .i64 t1047, .int .i64 t1048] 31 (0, 0)) (by refine bx ?_; refine blk_put (cs := #[.string t1046, .int .i64 t1047, .int .i64 0]) ?_ 2 _ rfl; refine bx ?_; refine blk_put (cs := #[.string t1046, .int .i64 0, .int .i64 0]) ?_ 1 _ rfl; refine bx ?_; refine blk_put (cs := #[.string (⟨#[]⟩ : ByteArray), .int .i64 0, .int .i64 0]) ?_ 0 _ rfl; refine bx ?_; exact BK1052.out) hb)) <| (bs HB hb); clear HO1043 HO1045 HO1051 BK1052 HB; obtain ⟨HO1043, HO1045, HO1051, HO1058, BK1052, HB⟩ := t_; (try clear hb); (try clear hb2); (try clear hk); (try clear hi); (try clear ho0)) | ((with_reducible refine gate_dst (N := 7) rfl ?_); (try (refine gate_guard (by rfl) ?_; dsimp only)); refine box_event ?hg (N := 7) ?hd (cs := #[.string (⟨#[]⟩ : ByteArray), .int .i64 0, .int .i64 0]) (t := 31) ?hr ?_; (case hd => rfl); (case hg => rfl); (case hr => first | (go_simp; done) | (go_simp; rfl)); intro gb1059 hg w14 hbox hb; have t_ := And.intro (Aside0.mk (Kd.R_below (rx HO1043.out) hb)) <| And.intro (Aside0.mk (Kd.R_below (rx HO1045.out) hb)) <| And.intro (Aside0.mk (Kd.R_below (rx HO1051.out) hb)) <| And.intro (Aside0.mk (Kd.R_below (rx HO1058.out) hb)) <| And.intro (up BK1052 hb) <| And.intro (bs HB hb) <| And.intro (Aside0.mk (hbox)) <| And.intro (gh hg HB) <| And.intro (gh hg HB) <| And.intro (nlt' hg BK1052) <| (ngt' hg BK1052); clear HO1043 HO1045 HO1051 HO1058 BK1052 HB; obtain ⟨HO1043, HO1045, HO1051, HO1058, BK1052, HB, BK1059, GW1059, GE1059, NB1052_1059, NB1059_1052⟩ := t_; clear hb hbox hg; have hnb15 := NB1059_1052.out; have hnc15 := NB1052_1059.out; have hcz16_0 := b0 BK1059; have hcz16_1 := b1 BK1059; have hcz16_2 := b2 BK1059; have hfz16_0 := fz BK1059 0; have hfz16_1 := fz BK1059 1; have hfz16_2 := fz BK1059 2))
  (try simp only [Act.put, List.setIfInBounds_toArray, List.set_cons_zero, List.set_cons_succ])
  go_cut [43] (fun v43 wc => ∃ (kq : Nat) (x43_5 : Bool), v43 = .bool x43_5 ∧ Aside0 (laws_FnTop.j0 kq t1040 t1041 t1049 x43_5 t1046 t1047 t1048 = some r) ∧ Aside0 (kq ≤ k) ∧ Aside0 (Kd.R k39 39 wc w.heap.size (fun _ => True) (.slice Ao8 t1040.length co8) t1040) ∧ Aside0 (Kd.R k43 43 wc w.heap.size (fun _ => True) (.slice Ao9 t1041.length co9) t1041) ∧ Aside0 (Kd.R Kd.string 9 wc w.heap.size (fun _ => True) v1050 t1049) ∧ Aside0 (wc.heap[gb1052]? = some (.cells #[.string t1046, .int .i64 t1047, .int .i64 t1048] 31 (0, 0))) ∧ Aside0 (wc.heap[gb1059]? = some (.cells #[.string t1053, .int .i64 t1054, .int .i64 t1055] 31 (0, 0))) ∧ Aside0 (Below w.heap.size w wc))
  case first =>
   have H := HC6.out
   clear HC6
   by_cases c17 : (!(t1046.toList == t1053.toList) || (!(t1047 == t1054) || (!(t1048 == t1055)))) = true
   ·rw [if_pos c17] at H; exact top_j0 HRT.out H
   ·rw [if_neg c17] at H
    have c17b0 : (!(t1046.toList == t1053.toList) || (!(t1047 == t1054) || (!(t1048 == t1055)))) = false := by simpa using c17
    clear c17
    (first | rw [c17b0] | (simp only [i64_w, i32_w]; rw [c17b0]) | skip)
    replace H := Option.bind_eq_some_iff.mp H
    obtain ⟨t1060, A210, H⟩ := H
    try dsimp only at H
    have A21 := Aside0.mk A210
    clear A210
    have H' := Aside0.mk H
    clear H
    have hnb22 := NB1052_1059.out
    have hnc22 := NB1059_1052.out
    have hcz23_0 := b0 BK1052
    have hcz23_1 := b1 BK1052
    have hcz23_2 := b2 BK1052
    have hfz23_0 := fz BK1052 0
    have hfz23_1 := fz BK1052 1
    have hfz23_2 := fz BK1052 2
    have hcz24_0 := b0 BK1059
    have hcz24_1 := b1 BK1059
    have hcz24_2 := b2 BK1059
    have hfz24_0 := fz BK1059 0
    have hfz24_1 := fz BK1059 1
    have hfz24_2 := fz BK1059 2
    obtain ⟨Ao25, co25, eo25⟩ := Kd.R_slice HO1051.out
    subst eo25
    obtain ⟨Ao26, co26, eo26⟩ := Kd.R_slice HO1058.out
    subst eo26
    go_wp2_with (first | (go_at_call 23; (with_reducible refine (laws_wTexts.calls k _ _ t1049 _ _ t1056 t1060 _ ?side1 ?side2 ?side3 ?side4 A21.out).mono ?_); (case side1 => refine (Kd.R_reads' (e := 9) (base := w.heap.size) (ok := fun k_ => (True ∧ some k_ ≠ (.slice Ao26 t1056.length co26 : Value).ownBlock)) (n := t1049.length) (c := co25) ?_).2.2; exact (by refine rx ?_; exact (Kd.R_mono (Kd.R_far (p := ⟨gb1059, 2, none⟩) (Kd.R_far (p := ⟨gb1059, 1, none⟩) (Kd.R_far (p := ⟨gb1059, 0, none⟩) (Kd.R_types HO1051.out BK1059.out (by decide)) (fun _ hk => hk.2) (.string t1053)) (fun _ hk => hk.2) (.int .i64 t1054)) (fun _ hk => hk.2) (.int .i64 t1055)) (fun _ h_ => h_.1)))); (case side2 => exact (Kd.R_reads' HO1051.out).2.1); (case side3 => refine (Kd.R_reads' (e := 9) (base := w.heap.size) (ok := fun k_ => (True ∧ some k_ ≠ (.slice Ao25 t1049.length co25 : Value).ownBlock)) (n := t1056.length) (c := co26) ?_).2.2; exact (by refine rx ?_; exact (Kd.R_mono (Kd.R_far (p := ⟨gb1059, 2, none⟩) (Kd.R_far (p := ⟨gb1059, 1, none⟩) (Kd.R_far (p := ⟨gb1059, 0, none⟩) (Kd.R_types HO1058.out BK1059.out (by decide)) (fun _ hk => hk.2) (.string t1053)) (fun _ hk => hk.2) (.int .i64 t1054)) (fun _ hk => hk.2) (.int .i64 t1055)) (fun _ h_ => h_.1)))); (case side4 => exact (Kd.R_reads' HO1058.out).2.1); rintro e w' ⟨rfl, ⟨nd, rfl⟩⟩))
    go_meet
    case rel => exact ⟨_, (!t1060), (by first | rfl | (simp; done) | (simp [*]; done)), H', ⟨by first | omega | exact Nat.le_refl _⟩, ⟨by refine rx ?_; exact Kd.R_mono (Kd.R_far (p := ⟨gb1059, 2, none⟩) (Kd.R_far (p := ⟨gb1059, 1, none⟩) (Kd.R_far (p := ⟨gb1059, 0, none⟩) (Kd.R_types HO1043.out BK1059.out (by decide)) (fun _ hk => hk.2) (.string t1053)) (fun _ hk => hk.2) (.int .i64 t1054)) (fun _ hk => hk.2) (.int .i64 t1055)) (fun _ hk => trivial)⟩, ⟨by refine rx ?_; exact Kd.R_mono (Kd.R_far (p := ⟨gb1059, 2, none⟩) (Kd.R_far (p := ⟨gb1059, 1, none⟩) (Kd.R_far (p := ⟨gb1059, 0, none⟩) (Kd.R_types HO1045.out BK1059.out (by decide)) (fun _ hk => hk.2) (.string t1053)) (fun _ hk => hk.2) (.int .i64 t1054)) (fun _ hk => hk.2) (.int .i64 t1055)) (fun _ hk => trivial)⟩, ⟨by refine rx ?_; exact Kd.R_mono (Kd.R_far (p := ⟨gb1059, 2, none⟩) (Kd.R_far (p := ⟨gb1059, 1, none⟩) (Kd.R_far (p := ⟨gb1059, 0, none⟩) (Kd.R_types HO1051.out BK1059.out (by decide)) (fun _ hk => hk.2) (.string t1053)) (fun _ hk => hk.2) (.int .i64 t1054)) (fun _ hk => hk.2) (.int .i64 t1055)) (fun _ hk => trivial)⟩, ⟨by refine bx ?_; refine blk_far ?_ NB1052_1059.out _; refine bx ?_; refine blk_far ?_ NB1052_1059.out _; refine bx ?_; refine blk_far ?_ NB1052_1059.out _; refine bx ?_; exact BK1052.out⟩, ⟨by refine bx ?_; refine blk_put (cs := #[.string t1053, .int .i64 t1054, .int .i64 0]) ?_ 2 _ rfl; refine bx ?_; refine blk_put (cs := #[.string t1053, .int .i64 0, .int .i64 0]) ?_ 1 _ rfl; refine bx ?_; refine blk_put (cs := #[.string (⟨#[]⟩ : ByteArray), .int .i64 0, .int .i64 0]) ?_ 0 _ rfl; refine bx ?_; exact BK1059.out⟩, (hbw HB)⟩
  case rest =>
   clear HC6
   obtain ⟨kq, x43_5, rfl, HA, HJ5, HO_3, HO_4, HO_6, BK1052, BK1059, HB⟩ := hcut
   cases kq with
   | zero => exact absurd HA.out (by simp [laws_FnTop.j0])
   | succ kj5 =>
    have H := HA.out
    clear HA
    simp only [laws_FnTop.j0] at H
    by_cases c27 : x43_5 = true
    ·subst c27; rw [if_pos rfl] at H; exact top_no HRT.out H
    ·replace c27 := Bool.eq_false_iff.mpr c27
     subst c27
     rw [if_neg (show ¬ (false = true) by decide)] at H
     replace H := Option.bind_eq_some_iff.mp H
     obtain ⟨t1061, A280, H⟩ := H
     try dsimp only at H
     have A28 := Aside0.mk A280
     clear A280
     by_cases c29 : t1061 = true
     ·subst c29
      rw [if_pos rfl] at H
      replace H := Option.bind_eq_some_iff.mp H
      obtain ⟨t1062, A300, H⟩ := H
      try dsimp only at H
      have A30 := Aside0.mk A300
      clear A300
      have HC31 := Aside0.mk H
      clear H
      go_upto_region 11 with (first | ((with_reducible refine gate_callee (f := 24) rfl ?_); refine goesL_ (some 45) rfl rfl Try.func24 (by kernel_rfl) rfl #[.slice Ao8 t1040.length co8] rfl mxp ?_; (with_reducible refine (spec_RecOk.calls kj5 _ _ t1040 true _ ?side1 ?side2 A28.out).mono ?_); (case side1 => exact cx (Kd.R_reads' HO_3.out).2.2); (case side2 => exact (Kd.R_reads' HO_3.out).2.1); rintro e w32 ⟨rfl, hb⟩; refine ⟨_, rfl, ?_⟩; have t_ := And.intro (Aside0.mk (Kd.R_below (rx HO_3.out) hb)) <| And.intro (Aside0.mk (Kd.R_below (rx HO_4.out) hb)) <| And.intro (Aside0.mk (Kd.R_below (rx HO_6.out) hb)) <| And.intro (up BK1052 hb) <| And.intro (up BK1059 hb) <| (bs HB hb); clear HO_3 HO_4 HO_6 BK1052 BK1059 HB; obtain ⟨HO_3, HO_4, HO_6, BK1052, BK1059, HB⟩ := t_; (try clear hb); (try clear hb2); (try clear hk); (try clear hi); have hnb33 := NB1052_1059.out; have hnc33 := NB1059_1052.out; have hcz34_0 := b0 BK1052; have hcz34_1 := b1 BK1052; have hcz34_2 := b2 BK1052; have hfz34_0 := fz BK1052 0; have hfz34_1 := fz BK1052 1; have hfz34_2 := fz BK1052 2) | ((with_reducible refine gate_callee (f := 19) rfl ?_); refine goesL_ (some 57) rfl rfl Try.func19 (by kernel_rfl) rfl #[.string t1046] rfl mxp ?_; (with_reducible refine (impl_RecEnd.calls kj5 t1046 t1062 _ A30.out).mono ?_); rintro e w35 ⟨rfl, hb⟩; refine ⟨_, rfl, ?_⟩; have t_ := And.intro (Aside0.mk (Kd.R_below (rx HO_3.out) hb)) <| And.intro (Aside0.mk (Kd.R_below (rx HO_4.out) hb)) <| And.intro (Aside0.mk (Kd.R_below (rx HO_6.out) hb)) <| And.intro (up BK1052 hb) <| And.intro (up BK1059 hb) <| (bs HB hb); clear HO_3 HO_4 HO_6 BK1052 BK1059 HB; obtain ⟨HO_3, HO_4, HO_6, BK1052, BK1059, HB⟩ := t_; (try clear hb); (try clear hb2); (try clear hk); (try clear hi)))
      (try simp only [Act.put, List.setIfInBounds_toArray, List.set_cons_zero, List.set_cons_succ])
      go_cut [100] (fun v100 wc => ∃ (kq : Nat) (x100_30 : Bool), v100 = .bool x100_30 ∧ Aside0 (laws_FnTop.j1 kq t1040 t1041 t1049 x100_30 t1046 t1047 t1048 = some r) ∧ Aside0 (kq ≤ kj5) ∧ Aside0 (Kd.R k39 39 wc w.heap.size (fun _ => True) (.slice Ao8 t1040.length co8) t1040) ∧ Aside0 (Kd.R k43 43 wc w.heap.size (fun _ => True) (.slice Ao9 t1041.length co9) t1041) ∧ Aside0 (Kd.R Kd.string 9 wc w.heap.size (fun _ => True) v1050 t1049) ∧ Aside0 (wc.heap[gb1052]? = some (.cells #[.string t1046, .int .i64 t1047, .int .i64 t1048] 31 (0, 0))) ∧ Aside0 (wc.heap[gb1059]? = some (.cells #[.string t1053, .int .i64 t1054, .int .i64 t1055] 31 (0, 0))) ∧ Aside0 (Below w.heap.size w wc))
      case first =>
       have H := HC31.out
       clear HC31
       by_cases c36 : t1062 = 0
       ·rw [if_pos c36] at H; exact top_j1 HRT.out H
       ·rw [if_neg c36] at H
        have c36b0 : (t1062 == 0) = false := beq_eq_false_iff_ne.mpr c36
        have c36b1 : (t1062 != 0) = true := bne_iff_ne.mpr c36
        (first | rw [c36b0] | (simp only [i64_w, i32_w]; rw [c36b0]) | skip)
        by_cases c38 : 0 < (t1040.length : Int)
        ·rw [if_pos c38] at H
         have c38b0 : decide (0 < (t1040.length : Int)) = true := decide_eq_true c38
         have c38b1 : decide (0 < t1040.length) = true := decide_eq_true (by omega)
         clear c38
         replace H := Option.bind_eq_some_iff.mp H
         obtain ⟨t1064, A390, H⟩ := H
         try dsimp only at H
         have A39 := Aside0.mk A390
         clear A390
         by_cases c40 : t1064 = true
         ·subst c40
          rw [if_pos rfl] at H
          replace H := Option.bind_eq_some_iff.mp H
          obtain ⟨t1066, A410, H⟩ := H
          try dsimp only at H
          have A41 := Aside0.mk A410
          clear A410
          by_cases c42 : t1047 > t1066
          ·rw [if_pos c42] at H; exact top_j1 HRT.out H
          ·rw [if_neg c42] at H
           have c42b0 : decide (t1066 < t1047) = false := decide_eq_false c42
           clear c42
           by_cases c46 : t1048 = 0
           ·rw [if_pos c46] at H
            have c46b0 : (t1048 == 0) = true := beq_iff_eq.mpr c46
            have c46b1 : (t1048 != 0) = false := bne_eq_false_iff_eq.mpr c46
            clear c46
            by_cases c47 : (t1049.length : Int) = 0
            ·rw [if_pos c47] at H; exact top_j1 HRT.out H
            ·rw [if_neg c47] at H
             have c47b0 : ((t1049.length : Int) == 0) = false := beq_eq_false_iff_ne.mpr c47
             have c47b1 : ((t1049.length : Int) != 0) = true := bne_iff_ne.mpr c47
             have c47b2 : ¬ (t1049 = []) := fun h_ => c47 (by rw [h_]; rfl)
             by_cases c52 : 0 < (t1049.length : Int)
             ·rw [if_pos c52] at H
              have c52b0 : decide (0 < (t1049.length : Int)) = true := decide_eq_true c52
              have c52b1 : decide (0 < t1049.length) = true := decide_eq_true (by omega)
              clear c52
              have H' := Aside0.mk H
              clear H
              try go_wp2
              have n0_ := Aside0.mk (Kd.R_drew HO_3.out)
              have n1_ := Aside0.mk (Kd.R_drew HO_4.out)
              have n2_ := Aside0.mk (Kd.R_drew HO_6.out)
              have n3_ := Aside0.mk (blk_drew BK1052.out)
              have n4_ := Aside0.mk (blk_drew BK1059.out)
              have n5_ := Aside0.mk (below_drew1 HB.out)
              clear HO_3
              clear HO_4
              clear HO_6
              clear BK1052
              clear BK1059
              clear HB
              have HO_3 := n0_
              have HO_4 := n1_
              have HO_6 := n2_
              have BK1052 := n3_
              have BK1059 := n4_
              have HB := n5_
              clear n0_ n1_ n2_ n3_ n4_ n5_
              have p1063 : 0 ≤ (0 : Int) := (by omega)
              have q1063 : 0 < (t1040.length : Int) := oda
              obtain ⟨ad1063, e1063, hx1063_0, hx1063_1, hx1063_2, hx1063_3, hx1063_4, hx1063_5, hx1063_6, hx1063_7⟩ := at_T39 (Kd.R_reads' HO_3.out).2.2 0 p1063 q1063
              cases e1063
              have qi1063 : (0 < t1040.length) = True := eq_true (by omega)
              (try rw [show ((0 : Int)).toNat = 0 from rfl] at hx1063_0)
              (try rw [show 0 * 8 = 0 from rfl] at hx1063_0)
              (try rw [Addr.add_zero'] at hx1063_0)
              (try rw [show ((0 : Int)).toNat = 0 from rfl] at hx1063_1)
              (try rw [show 0 * 8 = 0 from rfl] at hx1063_1)
              (try rw [Addr.add_zero'] at hx1063_1)
              (try rw [show ((0 : Int)).toNat = 0 from rfl] at hx1063_2)
              (try rw [show 0 * 8 = 0 from rfl] at hx1063_2)
              (try rw [Addr.add_zero'] at hx1063_2)
              (try rw [show ((0 : Int)).toNat = 0 from rfl] at hx1063_3)
              (try rw [show 0 * 8 = 0 from rfl] at hx1063_3)
              (try rw [Addr.add_zero'] at hx1063_3)
              (try rw [show ((0 : Int)).toNat = 0 from rfl] at hx1063_4)
              (try rw [show 0 * 8 = 0 from rfl] at hx1063_4)
              (try rw [Addr.add_zero'] at hx1063_4)
              (try rw [show ((0 : Int)).toNat = 0 from rfl] at hx1063_5)
              (try rw [show 0 * 8 = 0 from rfl] at hx1063_5)
              (try rw [Addr.add_zero'] at hx1063_5)
              (try rw [show ((0 : Int)).toNat = 0 from rfl] at hx1063_6)
              (try rw [show 0 * 8 = 0 from rfl] at hx1063_6)
              (try rw [Addr.add_zero'] at hx1063_6)
              (try rw [show ((0 : Int)).toNat = 0 from rfl] at hx1063_7)
              (try rw [show 0 * 8 = 0 from rfl] at hx1063_7)
              (try rw [Addr.add_zero'] at hx1063_7)
              replace p1063 := eq_true p1063
              replace q1063 := eq_true q1063
              have p1065 : 0 ≤ (0 : Int) := (by omega)
              have q1065 : 0 < (t1040.length : Int) := oda
              obtain ⟨ad1065, e1065, hx1065_0, hx1065_1, hx1065_2, hx1065_3, hx1065_4, hx1065_5, hx1065_6, hx1065_7⟩ := at_T39 (Kd.R_reads' HO_3.out).2.2 0 p1065 q1065
              obtain rfl : ad1063 = ad1065 := (by injection e1065)
              have qi1065 : (0 < t1040.length) = True := eq_true (by omega)
              (try rw [show ((0 : Int)).toNat = 0 from rfl] at hx1065_0)
              (try rw [show 0 * 8 = 0 from rfl] at hx1065_0)
              (try rw [Addr.add_zero'] at hx1065_0)
              (try rw [show ((0 : Int)).toNat = 0 from rfl] at hx1065_1)
              (try rw [show 0 * 8 = 0 from rfl] at hx1065_1)
              (try rw [Addr.add_zero'] at hx1065_1)
              (try rw [show ((0 : Int)).toNat = 0 from rfl] at hx1065_2)
              (try rw [show 0 * 8 = 0 from rfl] at hx1065_2)
              (try rw [Addr.add_zero'] at hx1065_2)
              (try rw [show ((0 : Int)).toNat = 0 from rfl] at hx1065_3)
              (try rw [show 0 * 8 = 0 from rfl] at hx1065_3)
              (try rw [Addr.add_zero'] at hx1065_3)
              (try rw [show ((0 : Int)).toNat = 0 from rfl] at hx1065_4)
              (try rw [show 0 * 8 = 0 from rfl] at hx1065_4)
              (try rw [Addr.add_zero'] at hx1065_4)
              (try rw [show ((0 : Int)).toNat = 0 from rfl] at hx1065_5)
              (try rw [show 0 * 8 = 0 from rfl] at hx1065_5)
              (try rw [Addr.add_zero'] at hx1065_5)
              (try rw [show ((0 : Int)).toNat = 0 from rfl] at hx1065_6)
              (try rw [show 0 * 8 = 0 from rfl] at hx1065_6)
              (try rw [Addr.add_zero'] at hx1065_6)
              (try rw [show ((0 : Int)).toNat = 0 from rfl] at hx1065_7)
              (try rw [show 0 * 8 = 0 from rfl] at hx1065_7)
              (try rw [Addr.add_zero'] at hx1065_7)
              replace p1065 := eq_true p1065
              replace q1065 := eq_true q1065
              have p1067 : 0 ≤ (0 : Int) := (by omega)
              have q1067 : 0 < (t1049.length : Int) := oda
              obtain ⟨Ao6_, co6_, eo6_⟩ := Kd.R_slice HO_6.out
              subst eo6_
              obtain ⟨ad1067, e1067, hx1067_0⟩ := Kd.at_string (Kd.R_reads' HO_6.out).2.2 0 p1067 q1067
              cases e1067
              have qi1067 : (0 < t1049.length) = True := eq_true (by omega)
              (try rw [show ((0 : Int)).toNat = 0 from rfl] at hx1067_0)
              (try rw [Addr.add_zero'] at hx1067_0)
              replace p1067 := eq_true p1067
              replace q1067 := eq_true q1067
              have p1068 : 0 ≤ (0 : Int) := (by omega)
              have q1068 : 0 < (t1040.length : Int) := oda
              obtain ⟨ad1068, e1068, hx1068_0, hx1068_1, hx1068_2, hx1068_3, hx1068_4, hx1068_5, hx1068_6, hx1068_7⟩ := at_T39 (Kd.R_reads' HO_3.out).2.2 0 p1068 q1068
              obtain rfl : ad1063 = ad1068 := (by injection e1068)
              have qi1068 : (0 < t1040.length) = True := eq_true (by omega)
              (try rw [show ((0 : Int)).toNat = 0 from rfl] at hx1068_0)
              (try rw [show 0 * 8 = 0 from rfl] at hx1068_0)
              (try rw [Addr.add_zero'] at hx1068_0)
              (try rw [show ((0 : Int)).toNat = 0 from rfl] at hx1068_1)
              (try rw [show 0 * 8 = 0 from rfl] at hx1068_1)
              (try rw [Addr.add_zero'] at hx1068_1)
              (try rw [show ((0 : Int)).toNat = 0 from rfl] at hx1068_2)
              (try rw [show 0 * 8 = 0 from rfl] at hx1068_2)
              (try rw [Addr.add_zero'] at hx1068_2)
              (try rw [show ((0 : Int)).toNat = 0 from rfl] at hx1068_3)
              (try rw [show 0 * 8 = 0 from rfl] at hx1068_3)
              (try rw [Addr.add_zero'] at hx1068_3)
              (try rw [show ((0 : Int)).toNat = 0 from rfl] at hx1068_4)
              (try rw [show 0 * 8 = 0 from rfl] at hx1068_4)
              (try rw [Addr.add_zero'] at hx1068_4)
              (try rw [show ((0 : Int)).toNat = 0 from rfl] at hx1068_5)
              (try rw [show 0 * 8 = 0 from rfl] at hx1068_5)
              (try rw [Addr.add_zero'] at hx1068_5)
              (try rw [show ((0 : Int)).toNat = 0 from rfl] at hx1068_6)
              (try rw [show 0 * 8 = 0 from rfl] at hx1068_6)
              (try rw [Addr.add_zero'] at hx1068_6)
              (try rw [show ((0 : Int)).toNat = 0 from rfl] at hx1068_7)
              (try rw [show 0 * 8 = 0 from rfl] at hx1068_7)
              (try rw [Addr.add_zero'] at hx1068_7)
              replace p1068 := eq_true p1068
              replace q1068 := eq_true q1068
              refine start_ (n := 43) (S := fun w' => w'.cell? ⟨gb1052, 0, none⟩ = some (.string t1046) ∧ w'.cell? ⟨gb1052, 1, none⟩ = some (.int .i64 t1047) ∧ w'.cell? ⟨gb1052, 2, none⟩ = some (.int .i64 t1048) ∧ w'.cell? ad1063 = some (.string ((rd_T39 t1040 0).f0)) ∧ w'.cell? ⟨ad1063.block, ad1063.off + 1, none⟩ = some (.int .i64 ((rd_T39 t1040 0).f1)) ∧ w'.cell? ⟨ad1063.block, ad1063.off + 2, none⟩ = some (.string ((rd_T39 t1040 0).f2)) ∧ w'.cell? ⟨ad1063.block, ad1063.off + 3, none⟩ = some (.string ((rd_T39 t1040 0).f3)) ∧ w'.cell? ⟨ad1063.block, ad1063.off + 4, none⟩ = some (.int .i64 ((rd_T39 t1040 0).f4)) ∧ w'.cell? ⟨ad1063.block, ad1063.off + 5, none⟩ = some (.int .i64 ((rd_T39 t1040 0).f5)) ∧ w'.cell? ⟨ad1063.block, ad1063.off + 6, none⟩ = some (.string ((rd_T39 t1040 0).f6)) ∧ w'.cell? ⟨ad1063.block, ad1063.off + 7, none⟩ = some (.string ((rd_T39 t1040 0).f7)) ∧ w'.cell? ad1063 = some (.string ((rd_T39 t1040 0).f0)) ∧ w'.cell? ⟨ad1063.block, ad1063.off + 1, none⟩ = some (.int .i64 ((rd_T39 t1040 0).f1)) ∧ w'.cell? ⟨ad1063.block, ad1063.off + 2, none⟩ = some (.string ((rd_T39 t1040 0).f2)) ∧ w'.cell? ⟨ad1063.block, ad1063.off + 3, none⟩ = some (.string ((rd_T39 t1040 0).f3)) ∧ w'.cell? ⟨ad1063.block, ad1063.off + 4, none⟩ = some (.int .i64 ((rd_T39 t1040 0).f4)) ∧ w'.cell? ⟨ad1063.block, ad1063.off + 5, none⟩ = some (.int .i64 ((rd_T39 t1040 0).f5)) ∧ w'.cell? ⟨ad1063.block, ad1063.off + 6, none⟩ = some (.string ((rd_T39 t1040 0).f6)) ∧ w'.cell? ⟨ad1063.block, ad1063.off + 7, none⟩ = some (.string ((rd_T39 t1040 0).f7)) ∧ w'.cell? ad1067 = some (.string (rdOf ByteArray.empty t1049 0)) ∧ w'.cell? ad1063 = some (.string ((rd_T39 t1040 0).f0)) ∧ w'.cell? ⟨ad1063.block, ad1063.off + 1, none⟩ = some (.int .i64 ((rd_T39 t1040 0).f1)) ∧ w'.cell? ⟨ad1063.block, ad1063.off + 2, none⟩ = some (.string ((rd_T39 t1040 0).f2)) ∧ w'.cell? ⟨ad1063.block, ad1063.off + 3, none⟩ = some (.string ((rd_T39 t1040 0).f3)) ∧ w'.cell? ⟨ad1063.block, ad1063.off + 4, none⟩ = some (.int .i64 ((rd_T39 t1040 0).f4)) ∧ w'.cell? ⟨ad1063.block, ad1063.off + 5, none⟩ = some (.int .i64 ((rd_T39 t1040 0).f5)) ∧ w'.cell? ⟨ad1063.block, ad1063.off + 6, none⟩ = some (.string ((rd_T39 t1040 0).f6)) ∧ w'.cell? ⟨ad1063.block, ad1063.off + 7, none⟩ = some (.string ((rd_T39 t1040 0).f7))) (ds := []) (lb 43 0) (by kernel_rfl) rfl rfl ⟨(blk_cell BK1052.out 0).trans rfl, (blk_cell BK1052.out 1).trans rfl, (blk_cell BK1052.out 2).trans rfl, hx1063_0, hx1063_1, hx1063_2, hx1063_3, hx1063_4, hx1063_5, hx1063_6, hx1063_7, hx1065_0, hx1065_1, hx1065_2, hx1065_3, hx1065_4, hx1065_5, hx1065_6, hx1065_7, hx1067_0, hx1068_0, hx1068_1, hx1068_2, hx1068_3, hx1068_4, hx1068_5, hx1068_6, hx1068_7⟩ (fun hHeld => ?_); refine with_tabW laws_FnTop.tab11 laws_FnTop.bits11 (fun HT_ HW_ => ?_)
              generalize w35.drew = w53 at HO_3 HO_4 HO_6 BK1052 BK1059 HB hx1063_0 hx1063_1 hx1063_2 hx1063_3 hx1063_4 hx1063_5 hx1063_6 hx1063_7 hx1065_0 hx1065_1 hx1065_2 hx1065_3 hx1065_4 hx1065_5 hx1065_6 hx1065_7 hx1067_0 hx1068_0 hx1068_1 hx1068_2 hx1068_3 hx1068_4 hx1068_5 hx1068_6 hx1068_7 hHeld ⊢
              refine pw HT_ 0 (some 58) (lb 43 1) ?_
              refine pw HT_ 1 (some 59) (lb 43 3) ?_
              refine pw HT_ 2 (some 60) (lb 43 7) ?_
              refine pw HT_ 3 (some 61) (lb 43 15) ?_
              refine pw HT_ 4 (some 62) (lb 43 31) ?_
              refine pw HT_ 5 (some 63) (lb 43 63) ?_
              refine pw HT_ 6 (some 64) (lb 43 127) ?_
              refine pw HT_ 8 (some 66) (lb 43 383) ?_
              refine tw HT_ HW_ hHeld 7 (some 65) (lb 43 511) ?_
              refine one_ (i := 9) (N := some 67) (lb 43 1023) rfl rfl (one_of HT_.out (by kernel_rfl)) (by decide) (fun K hK => ?_)
              refine goes_ Try.func25 (by kernel_rfl) rfl #[.slice (some ad1063) t1040.length co8, .string ((rd_T39 t1040 0).f0), .int .i64 t1062] (by rfl) rfl rfl mxp ?_
              with_reducible refine (impl_RecCan.calls kj5 _ _ t1040 ((rd_T39 t1040 0).f0) t1062 true _ ?side1 ?side2 A39.out).mono ?_
              (case side1 => exact cx (Kd.R_reads' HO_3.out).2.2)
              (case side2 => exact (Kd.R_reads' HO_3.out).2.1)
              rintro e w54 ⟨rfl, hb⟩
              have HS3_ := (hb.cell (World.block_lt_of_cell? _ _ (hHeld.2.2.2.1))).trans (hHeld.2.2.2.1)
              have HS4_ := (hb.cell (World.block_lt_of_cell? _ _ (hHeld.2.2.2.2.1))).trans (hHeld.2.2.2.2.1)
              have HS5_ := (hb.cell (World.block_lt_of_cell? _ _ (hHeld.2.2.2.2.2.1))).trans (hHeld.2.2.2.2.2.1)
              have HS6_ := (hb.cell (World.block_lt_of_cell? _ _ (hHeld.2.2.2.2.2.2.1))).trans (hHeld.2.2.2.2.2.2.1)
              have HS7_ := (hb.cell (World.block_lt_of_cell? _ _ (hHeld.2.2.2.2.2.2.2.1))).trans (hHeld.2.2.2.2.2.2.2.1)
              have HS8_ := (hb.cell (World.block_lt_of_cell? _ _ (hHeld.2.2.2.2.2.2.2.2.1))).trans (hHeld.2.2.2.2.2.2.2.2.1)
              have HS9_ := (hb.cell (World.block_lt_of_cell? _ _ (hHeld.2.2.2.2.2.2.2.2.2.1))).trans (hHeld.2.2.2.2.2.2.2.2.2.1)
              have HS10_ := (hb.cell (World.block_lt_of_cell? _ _ (hHeld.2.2.2.2.2.2.2.2.2.2.1))).trans (hHeld.2.2.2.2.2.2.2.2.2.2.1)
              have HS11_ := (hb.cell (World.block_lt_of_cell? _ _ (hHeld.2.2.2.2.2.2.2.2.2.2.2.1))).trans (hHeld.2.2.2.2.2.2.2.2.2.2.2.1)
              have HS12_ := (hb.cell (World.block_lt_of_cell? _ _ (hHeld.2.2.2.2.2.2.2.2.2.2.2.2.1))).trans (hHeld.2.2.2.2.2.2.2.2.2.2.2.2.1)
              have HS13_ := (hb.cell (World.block_lt_of_cell? _ _ (hHeld.2.2.2.2.2.2.2.2.2.2.2.2.2.1))).trans (hHeld.2.2.2.2.2.2.2.2.2.2.2.2.2.1)
              have HS14_ := (hb.cell (World.block_lt_of_cell? _ _ (hHeld.2.2.2.2.2.2.2.2.2.2.2.2.2.2.1))).trans (hHeld.2.2.2.2.2.2.2.2.2.2.2.2.2.2.1)
              have HS15_ := (hb.cell (World.block_lt_of_cell? _ _ (hHeld.2.2.2.2.2.2.2.2.2.2.2.2.2.2.2.1))).trans (hHeld.2.2.2.2.2.2.2.2.2.2.2.2.2.2.2.1)
              have HS16_ := (hb.cell (World.block_lt_of_cell? _ _ (hHeld.2.2.2.2.2.2.2.2.2.2.2.2.2.2.2.2.1))).trans (hHeld.2.2.2.2.2.2.2.2.2.2.2.2.2.2.2.2.1)
              have HS17_ := (hb.cell (World.block_lt_of_cell? _ _ (hHeld.2.2.2.2.2.2.2.2.2.2.2.2.2.2.2.2.2.1))).trans (hHeld.2.2.2.2.2.2.2.2.2.2.2.2.2.2.2.2.2.1)
              have HS18_ := (hb.cell (World.block_lt_of_cell? _ _ (hHeld.2.2.2.2.2.2.2.2.2.2.2.2.2.2.2.2.2.2.1))).trans (hHeld.2.2.2.2.2.2.2.2.2.2.2.2.2.2.2.2.2.2.1)
              have HS19_ := (hb.cell (World.block_lt_of_cell? _ _ (hHeld.2.2.2.2.2.2.2.2.2.2.2.2.2.2.2.2.2.2.2.1))).trans (hHeld.2.2.2.2.2.2.2.2.2.2.2.2.2.2.2.2.2.2.2.1)
              have HS20_ := (hb.cell (World.block_lt_of_cell? _ _ (hHeld.2.2.2.2.2.2.2.2.2.2.2.2.2.2.2.2.2.2.2.2.1))).trans (hHeld.2.2.2.2.2.2.2.2.2.2.2.2.2.2.2.2.2.2.2.2.1)
              have HS21_ := (hb.cell (World.block_lt_of_cell? _ _ (hHeld.2.2.2.2.2.2.2.2.2.2.2.2.2.2.2.2.2.2.2.2.2.1))).trans (hHeld.2.2.2.2.2.2.2.2.2.2.2.2.2.2.2.2.2.2.2.2.2.1)
              have HS22_ := (hb.cell (World.block_lt_of_cell? _ _ (hHeld.2.2.2.2.2.2.2.2.2.2.2.2.2.2.2.2.2.2.2.2.2.2.1))).trans (hHeld.2.2.2.2.2.2.2.2.2.2.2.2.2.2.2.2.2.2.2.2.2.2.1)
              have HS23_ := (hb.cell (World.block_lt_of_cell? _ _ (hHeld.2.2.2.2.2.2.2.2.2.2.2.2.2.2.2.2.2.2.2.2.2.2.2.1))).trans (hHeld.2.2.2.2.2.2.2.2.2.2.2.2.2.2.2.2.2.2.2.2.2.2.2.1)
              have HS24_ := (hb.cell (World.block_lt_of_cell? _ _ (hHeld.2.2.2.2.2.2.2.2.2.2.2.2.2.2.2.2.2.2.2.2.2.2.2.2.1))).trans (hHeld.2.2.2.2.2.2.2.2.2.2.2.2.2.2.2.2.2.2.2.2.2.2.2.2.1)
              have HS25_ := (hb.cell (World.block_lt_of_cell? _ _ (hHeld.2.2.2.2.2.2.2.2.2.2.2.2.2.2.2.2.2.2.2.2.2.2.2.2.2.1))).trans (hHeld.2.2.2.2.2.2.2.2.2.2.2.2.2.2.2.2.2.2.2.2.2.2.2.2.2.1)
              have HS26_ := (hb.cell (World.block_lt_of_cell? _ _ (hHeld.2.2.2.2.2.2.2.2.2.2.2.2.2.2.2.2.2.2.2.2.2.2.2.2.2.2.1))).trans (hHeld.2.2.2.2.2.2.2.2.2.2.2.2.2.2.2.2.2.2.2.2.2.2.2.2.2.2.1)
              have HS27_ := (hb.cell (World.block_lt_of_cell? _ _ (hHeld.2.2.2.2.2.2.2.2.2.2.2.2.2.2.2.2.2.2.2.2.2.2.2.2.2.2.2))).trans (hHeld.2.2.2.2.2.2.2.2.2.2.2.2.2.2.2.2.2.2.2.2.2.2.2.2.2.2.2)
              refine ⟨_, rfl, ?_⟩
              have n0_ := Aside0.mk (Kd.R_below (rx HO_3.out) hb)
              have n1_ := Aside0.mk (Kd.R_below (rx HO_4.out) hb)
              have n2_ := Aside0.mk (Kd.R_below (rx HO_6.out) hb)
              have n3_ := up BK1052 hb
              have n4_ := up BK1059 hb
              have n5_ := bs HB hb
              clear HO_3
              clear HO_4
              clear HO_6
              clear BK1052
              clear BK1059
              clear HB
              have HO_3 := n0_
              have HO_4 := n1_
              have HO_6 := n2_
              have BK1052 := n3_
              have BK1059 := n4_
              have HB := n5_
              clear n0_ n1_ n2_ n3_ n4_ n5_
              (try clear hb)
              (try clear hb2)
              (try clear hk)
              (try clear hi)
              refine hK.out _ _ ⟨(blk_cell BK1052.out 0).trans rfl, (blk_cell BK1052.out 1).trans rfl, (blk_cell BK1052.out 2).trans rfl, HS3_, HS4_, HS5_, HS6_, HS7_, HS8_, HS9_, HS10_, HS11_, HS12_, HS13_, HS14_, HS15_, HS16_, HS17_, HS18_, HS19_, HS20_, HS21_, HS22_, HS23_, HS24_, HS25_, HS26_, HS27_⟩ (fun hHeld => ?_)
              clear hK K
              refine norm_ (a' := ?_) ?_ ?_
              rotate_left
              ·show Act.put _ (some 67) _ = _
               simp only [Act.put, List.setIfInBounds_toArray, List.set_cons_zero, List.set_cons_succ, i64_w, i32_w]
               rfl
              refine pw HT_ 10 (some 68) (lb 43 2047) ?_
              refine pw HT_ 11 (some 69) (lb 43 4095) ?_
              refine pw HT_ 12 (some 70) (lb 43 8191) ?_
              refine pw HT_ 13 (some 71) (lb 43 16383) ?_
              refine pw HT_ 15 (some 73) (lb 43 49151) ?_
              refine pw HT_ 16 (some 74) (lb 43 114687) ?_
              refine pw HT_ 17 (some 75) (lb 43 245759) ?_
              refine pw HT_ 18 (some 76) (lb 43 507903) ?_
              refine tw HT_ HW_ hHeld 14 (some 72) (lb 43 524287) ?_
              refine tw HT_ HW_ hHeld 19 (some 77) (lb 43 1048575) ?_
              refine one_ (i := 20) (N := some 78) (lb 43 2097151) rfl rfl (one_of HT_.out (by kernel_rfl)) (by decide) (fun K hK => ?_)
              refine goes_ Try.func26 (by kernel_rfl) rfl #[.slice (some ad1063) t1040.length co8, .string ((rd_T39 t1040 0).f0)] (by rfl) rfl rfl mxp ?_
              with_reducible refine (impl_RecBound.calls kj5 _ _ t1040 ((rd_T39 t1040 0).f0) t1066 _ ?side1 ?side2 A41.out).mono ?_
              (case side1 => exact cx (Kd.R_reads' HO_3.out).2.2)
              (case side2 => exact (Kd.R_reads' HO_3.out).2.1)
              rintro e w55 ⟨rfl, hb⟩
              have HS3_ := (hb.cell (World.block_lt_of_cell? _ _ (hHeld.2.2.2.1))).trans (hHeld.2.2.2.1)
              have HS4_ := (hb.cell (World.block_lt_of_cell? _ _ (hHeld.2.2.2.2.1))).trans (hHeld.2.2.2.2.1)
              have HS5_ := (hb.cell (World.block_lt_of_cell? _ _ (hHeld.2.2.2.2.2.1))).trans (hHeld.2.2.2.2.2.1)
              have HS6_ := (hb.cell (World.block_lt_of_cell? _ _ (hHeld.2.2.2.2.2.2.1))).trans (hHeld.2.2.2.2.2.2.1)
              have HS7_ := (hb.cell (World.block_lt_of_cell? _ _ (hHeld.2.2.2.2.2.2.2.1))).trans (hHeld.2.2.2.2.2.2.2.1)
              have HS8_ := (hb.cell (World.block_lt_of_cell? _ _ (hHeld.2.2.2.2.2.2.2.2.1))).trans (hHeld.2.2.2.2.2.2.2.2.1)
              have HS9_ := (hb.cell (World.block_lt_of_cell? _ _ (hHeld.2.2.2.2.2.2.2.2.2.1))).trans (hHeld.2.2.2.2.2.2.2.2.2.1)
              have HS10_ := (hb.cell (World.block_lt_of_cell? _ _ (hHeld.2.2.2.2.2.2.2.2.2.2.1))).trans (hHeld.2.2.2.2.2.2.2.2.2.2.1)
              have HS11_ := (hb.cell (World.block_lt_of_cell? _ _ (hHeld.2.2.2.2.2.2.2.2.2.2.2.1))).trans (hHeld.2.2.2.2.2.2.2.2.2.2.2.1)
              have HS12_ := (hb.cell (World.block_lt_of_cell? _ _ (hHeld.2.2.2.2.2.2.2.2.2.2.2.2.1))).trans (hHeld.2.2.2.2.2.2.2.2.2.2.2.2.1)
              have HS13_ := (hb.cell (World.block_lt_of_cell? _ _ (hHeld.2.2.2.2.2.2.2.2.2.2.2.2.2.1))).trans (hHeld.2.2.2.2.2.2.2.2.2.2.2.2.2.1)
              have HS14_ := (hb.cell (World.block_lt_of_cell? _ _ (hHeld.2.2.2.2.2.2.2.2.2.2.2.2.2.2.1))).trans (hHeld.2.2.2.2.2.2.2.2.2.2.2.2.2.2.1)
              have HS15_ := (hb.cell (World.block_lt_of_cell? _ _ (hHeld.2.2.2.2.2.2.2.2.2.2.2.2.2.2.2.1))).trans (hHeld.2.2.2.2.2.2.2.2.2.2.2.2.2.2.2.1)
              have HS16_ := (hb.cell (World.block_lt_of_cell? _ _ (hHeld.2.2.2.2.2.2.2.2.2.2.2.2.2.2.2.2.1))).trans (hHeld.2.2.2.2.2.2.2.2.2.2.2.2.2.2.2.2.1)
              have HS17_ := (hb.cell (World.block_lt_of_cell? _ _ (hHeld.2.2.2.2.2.2.2.2.2.2.2.2.2.2.2.2.2.1))).trans (hHeld.2.2.2.2.2.2.2.2.2.2.2.2.2.2.2.2.2.1)
              have HS18_ := (hb.cell (World.block_lt_of_cell? _ _ (hHeld.2.2.2.2.2.2.2.2.2.2.2.2.2.2.2.2.2.2.1))).trans (hHeld.2.2.2.2.2.2.2.2.2.2.2.2.2.2.2.2.2.2.1)
              have HS19_ := (hb.cell (World.block_lt_of_cell? _ _ (hHeld.2.2.2.2.2.2.2.2.2.2.2.2.2.2.2.2.2.2.2.1))).trans (hHeld.2.2.2.2.2.2.2.2.2.2.2.2.2.2.2.2.2.2.2.1)
              have HS20_ := (hb.cell (World.block_lt_of_cell? _ _ (hHeld.2.2.2.2.2.2.2.2.2.2.2.2.2.2.2.2.2.2.2.2.1))).trans (hHeld.2.2.2.2.2.2.2.2.2.2.2.2.2.2.2.2.2.2.2.2.1)
              have HS21_ := (hb.cell (World.block_lt_of_cell? _ _ (hHeld.2.2.2.2.2.2.2.2.2.2.2.2.2.2.2.2.2.2.2.2.2.1))).trans (hHeld.2.2.2.2.2.2.2.2.2.2.2.2.2.2.2.2.2.2.2.2.2.1)
              have HS22_ := (hb.cell (World.block_lt_of_cell? _ _ (hHeld.2.2.2.2.2.2.2.2.2.2.2.2.2.2.2.2.2.2.2.2.2.2.1))).trans (hHeld.2.2.2.2.2.2.2.2.2.2.2.2.2.2.2.2.2.2.2.2.2.2.1)
              have HS23_ := (hb.cell (World.block_lt_of_cell? _ _ (hHeld.2.2.2.2.2.2.2.2.2.2.2.2.2.2.2.2.2.2.2.2.2.2.2.1))).trans (hHeld.2.2.2.2.2.2.2.2.2.2.2.2.2.2.2.2.2.2.2.2.2.2.2.1)
              have HS24_ := (hb.cell (World.block_lt_of_cell? _ _ (hHeld.2.2.2.2.2.2.2.2.2.2.2.2.2.2.2.2.2.2.2.2.2.2.2.2.1))).trans (hHeld.2.2.2.2.2.2.2.2.2.2.2.2.2.2.2.2.2.2.2.2.2.2.2.2.1)
              have HS25_ := (hb.cell (World.block_lt_of_cell? _ _ (hHeld.2.2.2.2.2.2.2.2.2.2.2.2.2.2.2.2.2.2.2.2.2.2.2.2.2.1))).trans (hHeld.2.2.2.2.2.2.2.2.2.2.2.2.2.2.2.2.2.2.2.2.2.2.2.2.2.1)
              have HS26_ := (hb.cell (World.block_lt_of_cell? _ _ (hHeld.2.2.2.2.2.2.2.2.2.2.2.2.2.2.2.2.2.2.2.2.2.2.2.2.2.2.1))).trans (hHeld.2.2.2.2.2.2.2.2.2.2.2.2.2.2.2.2.2.2.2.2.2.2.2.2.2.2.1)
              have HS27_ := (hb.cell (World.block_lt_of_cell? _ _ (hHeld.2.2.2.2.2.2.2.2.2.2.2.2.2.2.2.2.2.2.2.2.2.2.2.2.2.2.2))).trans (hHeld.2.2.2.2.2.2.2.2.2.2.2.2.2.2.2.2.2.2.2.2.2.2.2.2.2.2.2)
              refine ⟨_, rfl, ?_⟩
              have n0_ := Aside0.mk (Kd.R_below (rx HO_3.out) hb)
              have n1_ := Aside0.mk (Kd.R_below (rx HO_4.out) hb)
              have n2_ := Aside0.mk (Kd.R_below (rx HO_6.out) hb)
              have n3_ := up BK1052 hb
              have n4_ := up BK1059 hb
              have n5_ := bs HB hb
              clear HO_3
              clear HO_4
              clear HO_6
              clear BK1052
              clear BK1059
              clear HB
              have HO_3 := n0_
              have HO_4 := n1_
              have HO_6 := n2_
              have BK1052 := n3_
              have BK1059 := n4_
              have HB := n5_
              clear n0_ n1_ n2_ n3_ n4_ n5_
              (try clear hb)
              (try clear hb2)
              (try clear hk)
              (try clear hi)
              obtain ⟨Ao56, co56, eo56⟩ := Kd.R_slice HO_6.out
              (first | subst eo56 | (injection eo56 with f1_ f2_ f3_; have f4_ := f1_.symm; have f5_ := f3_.symm; clear f1_ f2_ f3_; subst f4_; subst f5_))
              refine hK.out _ _ ⟨(blk_cell BK1052.out 0).trans rfl, (blk_cell BK1052.out 1).trans rfl, (blk_cell BK1052.out 2).trans rfl, HS3_, HS4_, HS5_, HS6_, HS7_, HS8_, HS9_, HS10_, HS11_, HS12_, HS13_, HS14_, HS15_, HS16_, HS17_, HS18_, HS19_, HS20_, HS21_, HS22_, HS23_, HS24_, HS25_, HS26_, HS27_⟩ (fun hHeld => ?_)
              clear hK K
              refine norm_ (a' := ?_) ?_ ?_
              rotate_left
              ·show Act.put _ (some 78) _ = _
               simp only [Act.put, List.setIfInBounds_toArray, List.set_cons_zero, List.set_cons_succ, i64_w, i32_w]
               rfl
              refine pw HT_ 21 (some 79) (lb 43 4194303) ?_
              refine pw HT_ 22 (some 80) (lb 43 8388607) ?_
              refine pw HT_ 23 (some 81) (lb 43 16777215) ?_
              refine pw HT_ 24 (some 82) (lb 43 33554431) ?_
              refine tw HT_ HW_ hHeld 25 (some 83) (lb 43 67108863) ?_
              refine pw HT_ 26 (some 84) (lb 43 134217727) ?_
              refine pw HT_ 27 (some 85) (lb 43 268435455) ?_
              refine pw HT_ 28 (some 86) (lb 43 536870911) ?_
              refine pw HT_ 29 (some 87) (lb 43 1073741823) ?_
              refine pw HT_ 30 (some 88) (lb 43 2147483647) ?_
              refine pw HT_ 31 (some 89) (lb 43 4294967295) ?_
              refine pw HT_ 32 (some 90) (lb 43 8589934591) ?_
              refine pw HT_ 33 (some 91) (lb 43 17179869183) ?_
              refine pw HT_ 34 (some 92) (lb 43 34359738367) ?_
              refine pw HT_ 35 (some 93) (lb 43 68719476735) ?_
              refine pw HT_ 37 (some 95) (lb 43 206158430207) ?_
              refine pw HT_ 38 (some 96) (lb 43 481036337151) ?_
              refine pw HT_ 39 (some 97) (lb 43 1030792151039) ?_
              refine tw HT_ HW_ hHeld 36 (some 94) (lb 43 1099511627775) ?_
              refine tw HT_ HW_ hHeld 40 (some 98) (lb 43 2199023255551) ?_
              refine pw HT_ 41 (some 99) (lb 43 4398046511103) ?_
              refine pw HT_ 42 (some 100) (lb 43 8796093022207) ?_
              refine done_ (done_of HT_.out (by kernel_rfl)) ?_
              try go_wp2
              go_meet
              case rel => exact ⟨_, (((rdOf ByteArray.empty t1049 0).toList != ((rd_T39 t1040 0).f0).toList)), (by first | rfl | (simp; done) | (simp [*]; done)), H', ⟨by have := HJ5.out; first | omega | exact Nat.le_refl _⟩, ⟨by refine rx ?_; exact HO_3.out⟩, ⟨by refine rx ?_; exact HO_4.out⟩, ⟨by refine rx ?_; exact HO_6.out⟩, (bk BK1052), (bk BK1059), (hbw HB)⟩
             ·rw [if_neg c52] at H
              exact absurd H (by simp)
           ·rw [if_neg c46] at H; exact top_j1 HRT.out H
         ·replace c40 := Bool.eq_false_iff.mpr c40; subst c40; rw [if_neg (show ¬ (false = true) by decide)] at H; exact top_j1 HRT.out H
        ·rw [if_neg c38] at H
         exact absurd H (by simp)
      case rest =>
       clear HC31
       obtain ⟨kq, x100_30, rfl, HA, HJ30, HO_3, HO_4, HO_6, BK1052, BK1059, HB⟩ := hcut
       cases kq with
       | zero => exact absurd HA.out (by simp [laws_FnTop.j1])
       | succ kj30 =>
        have H := HA.out
        clear HA
        simp only [laws_FnTop.j1] at H
        by_cases c62 : x100_30 = true
        ·subst c62; rw [if_pos rfl] at H; exact top_no HRT.out H
        ·replace c62 := Bool.eq_false_iff.mpr c62
         subst c62
         rw [if_neg (show ¬ (false = true) by decide)] at H
         replace H := Option.bind_eq_some_iff.mp H
         obtain ⟨⟨t1069, t1070, t1071⟩, A630, H⟩ := H
         try dsimp only at H
         have A63 := Aside0.mk A630
         clear A630
         have H' := Aside0.mk H
         clear H
         go_wp2_with (first | ((with_reducible refine gate_callee (f := 27) rfl ?_); refine goesL_ (some 102) rfl rfl Try.func27 (by kernel_rfl) rfl #[.slice Ao8 t1040.length co8] rfl mxp ?_; (with_reducible refine (impl_RecBegin.calls kj30 _ _ t1040 t1069 t1070 t1071 _ ?side1 ?side2 A63.out).mono ?_); (case side1 => exact cx (Kd.R_reads' HO_3.out).2.2); (case side2 => exact (Kd.R_reads' HO_3.out).2.1); rintro e w64 ⟨rfl, hb⟩; refine ⟨_, rfl, ?_⟩; have t_ := And.intro (Aside0.mk (Kd.R_below (rx HO_3.out) hb)) <| And.intro (Aside0.mk (Kd.R_below (rx HO_4.out) hb)) <| And.intro (Aside0.mk (Kd.R_below (rx HO_6.out) hb)) <| And.intro (up BK1052 hb) <| And.intro (up BK1059 hb) <| (bs HB hb); clear HO_3 HO_4 HO_6 BK1052 BK1059 HB; obtain ⟨HO_3, HO_4, HO_6, BK1052, BK1059, HB⟩ := t_; (try clear hb); (try clear hb2); (try clear hk); (try clear hi)) | ((with_reducible refine gate_dst (N := 10) rfl ?_); (try (refine gate_guard (by rfl) ?_; dsimp only)); refine box_event ?hg (N := 10) ?hd (cs := #[.string (⟨#[]⟩ : ByteArray), .int .i64 0, .int .i64 0]) (t := 31) ?hr ?_; (case hd => rfl); (case hg => rfl); (case hr => first | (go_simp; done) | (go_simp; rfl)); intro gb1072 hg w65 hbox hb; have t_ := And.intro (Aside0.mk (Kd.R_below (rx HO_3.out) hb)) <| And.intro (Aside0.mk (Kd.R_below (rx HO_4.out) hb)) <| And.intro (Aside0.mk (Kd.R_below (rx HO_6.out) hb)) <| And.intro (up BK1052 hb) <| And.intro (up BK1059 hb) <| And.intro (bs HB hb) <| And.intro (Aside0.mk (hbox)) <| And.intro (gh hg HB) <| And.intro (gh hg HB) <| And.intro (nlt' hg BK1052) <| And.intro (ngt' hg BK1052) <| And.intro (nlt' hg BK1059) <| (ngt' hg BK1059); clear HO_3 HO_4 HO_6 BK1052 BK1059 HB; obtain ⟨HO_3, HO_4, HO_6, BK1052, BK1059, HB, BK1072, GW1072, GE1072, NB1052_1072, NB1072_1052, NB1059_1072, NB1072_1059⟩ := t_; clear hb hbox hg; have hnb66 := NB1072_1052.out; have hnc66 := NB1052_1072.out; have hnb67 := NB1072_1059.out; have hnc67 := NB1059_1072.out; have hcz68_0 := b0 BK1072; have hcz68_1 := b1 BK1072; have hcz68_2 := b2 BK1072; have hfz68_0 := fz BK1072 0; have hfz68_1 := fz BK1072 1; have hfz68_2 := fz BK1072 2))
         go_loopg [11] kj30 (fun kq v11 w' => ∃ (x11_3 : Int) (x1073000_3 : ByteArray) (x1073001_3 : Int) (x1073002_3 : Int), v11 = .int .i64 x11_3 ∧ Aside0 (laws_FnTop.l0 kq t1040 t1041 t1049 x11_3 t1046 t1047 t1048 x1073000_3 x1073001_3 x1073002_3 = some r) ∧ Aside0 (kq ≤ kj30) ∧ Aside0 (Kd.R k39 39 w' w.heap.size (fun _ => True) (.slice Ao8 t1040.length co8) t1040) ∧ Aside0 (Kd.R k43 43 w' w.heap.size (fun _ => True) (.slice Ao9 t1041.length co9) t1041) ∧ Aside0 (Kd.R Kd.string 9 w' w.heap.size (fun _ => True) v1050 t1049) ∧ Aside0 (w'.heap[gb1052]? = some (.cells #[.string t1046, .int .i64 t1047, .int .i64 t1048] 31 (0, 0))) ∧ Aside0 (w'.heap[gb1059]? = some (.cells #[.string t1053, .int .i64 t1054, .int .i64 t1055] 31 (0, 0))) ∧ Aside0 (w'.heap[gb1072]? = some (.cells #[.string x1073000_3, .int .i64 x1073001_3, .int .i64 x1073002_3] 31 (0, 0))) ∧ Aside0 (Below w.heap.size w w'))
         case atStart => exact ⟨(0), (t1069), (t1070), (t1071), (by first | rfl | (simp; done) | (simp [*]; done)), H', ⟨Nat.le_refl _⟩, ⟨by refine rx ?_; exact Kd.R_mono (Kd.R_far (p := ⟨gb1072, 2, none⟩) (Kd.R_far (p := ⟨gb1072, 1, none⟩) (Kd.R_far (p := ⟨gb1072, 0, none⟩) (Kd.R_types HO_3.out BK1072.out (by decide)) (fun _ hk => hk.2) (.string t1069)) (fun _ hk => hk.2) (.int .i64 t1070)) (fun _ hk => hk.2) (.int .i64 t1071)) (fun _ hk => trivial)⟩, ⟨by refine rx ?_; exact Kd.R_mono (Kd.R_far (p := ⟨gb1072, 2, none⟩) (Kd.R_far (p := ⟨gb1072, 1, none⟩) (Kd.R_far (p := ⟨gb1072, 0, none⟩) (Kd.R_types HO_4.out BK1072.out (by decide)) (fun _ hk => hk.2) (.string t1069)) (fun _ hk => hk.2) (.int .i64 t1070)) (fun _ hk => hk.2) (.int .i64 t1071)) (fun _ hk => trivial)⟩, ⟨by refine rx ?_; exact Kd.R_mono (Kd.R_far (p := ⟨gb1072, 2, none⟩) (Kd.R_far (p := ⟨gb1072, 1, none⟩) (Kd.R_far (p := ⟨gb1072, 0, none⟩) (Kd.R_types HO_6.out BK1072.out (by decide)) (fun _ hk => hk.2) (.string t1069)) (fun _ hk => hk.2) (.int .i64 t1070)) (fun _ hk => hk.2) (.int .i64 t1071)) (fun _ hk => trivial)⟩, ⟨by refine bx ?_; refine blk_far ?_ NB1052_1072.out _; refine bx ?_; refine blk_far ?_ NB1052_1072.out _; refine bx ?_; refine blk_far ?_ NB1052_1072.out _; refine bx ?_; exact BK1052.out⟩, ⟨by refine bx ?_; refine blk_far ?_ NB1059_1072.out _; refine bx ?_; refine blk_far ?_ NB1059_1072.out _; refine bx ?_; refine blk_far ?_ NB1059_1072.out _; refine bx ?_; exact BK1059.out⟩, ⟨by refine bx ?_; refine blk_put (cs := #[.string t1069, .int .i64 t1070, .int .i64 0]) ?_ 2 _ rfl; refine bx ?_; refine blk_put (cs := #[.string t1069, .int .i64 0, .int .i64 0]) ?_ 1 _ rfl; refine bx ?_; refine blk_put (cs := #[.string (⟨#[]⟩ : ByteArray), .int .i64 0, .int .i64 0]) ?_ 0 _ rfl; refine bx ?_; exact BK1072.out⟩, (hbw HB)⟩
         case round =>
          clear H'
          obtain ⟨x11_3, x1073000_3, x1073001_3, x1073002_3, rfl, HA, HK3, HO_3, HO_4, HO_6, BK1052, BK1059, BK1072, HB⟩ := hrel
          cases gk with
          | zero => exact absurd HA.out (by simp [laws_FnTop.l0])
          | succ k3 =>
           have H := HA.out
           clear HA
           simp only [laws_FnTop.l0] at H
           by_cases c69 : x11_3 < (t1049.length : Int)
           ·rw [if_pos c69] at H
            have c69b0 : decide (x11_3 < (t1049.length : Int)) = true := decide_eq_true c69
            clear c69
            have HC70 := Aside0.mk H
            clear H
            obtain ⟨Ao71, co71, eo71⟩ := Kd.R_slice HO_6.out
            subst eo71
            go_upto_if 113 with (first | ((with_reducible refine gate_dst (N := 12) rfl ?_); (try (refine gate_guard (by rfl) ?_; dsimp only)); refine box_event ?hg (N := 12) ?hd (cs := #[.int .i64 0, .bool false]) (t := 43) ?hr ?_; (case hd => rfl); (case hg => rfl); (case hr => first | (go_simp; done) | (go_simp; rfl)); intro gb1073 hg w72 hbox hb; have t_ := And.intro (Aside0.mk (Kd.R_below (rx HO_3.out) hb)) <| And.intro (Aside0.mk (Kd.R_below (Kd.R_elderB (rx HO_4.out) gb1073 (Nat.le_of_eq hg.symm)) hb)) <| And.intro (Aside0.mk (Kd.R_below (rx HO_6.out) hb)) <| And.intro (up BK1052 hb) <| And.intro (up BK1059 hb) <| And.intro (up BK1072 hb) <| And.intro (bs HB hb) <| And.intro (Aside0.mk (hbox)) <| And.intro (gh hg HB) <| And.intro (gh hg HB) <| And.intro (nlt' hg BK1052) <| And.intro (ngt' hg BK1052) <| And.intro (nlt' hg BK1059) <| And.intro (ngt' hg BK1059) <| And.intro (nlt' hg BK1072) <| (ngt' hg BK1072); clear HO_3 HO_4 HO_6 BK1052 BK1059 BK1072 HB; obtain ⟨HO_3, HO_4, HO_6, BK1052, BK1059, BK1072, HB, BK1073, GW1073, GE1073, NB1052_1073, NB1073_1052, NB1059_1073, NB1073_1059, NB1072_1073, NB1073_1072⟩ := t_; clear hb hbox hg; have hnb73 := NB1073_1052.out; have hnc73 := NB1052_1073.out; have hnb74 := NB1073_1059.out; have hnc74 := NB1059_1073.out; have hnb75 := NB1073_1072.out; have hnc75 := NB1072_1073.out; have hcz76_0 := b0 BK1073; have hcz76_1 := b1 BK1073; have hfz76_0 := fz BK1073 0; have hfz76_1 := fz BK1073 1))
            (try simp only [Act.put, List.setIfInBounds_toArray, List.set_cons_zero, List.set_cons_succ])
            go_cut [] (fun wc => ∃ (kq : Nat) (x1074000_69 : Int) (x1074001_69 : Bool), Aside0 (laws_FnTop.j3 kq t1040 t1041 t1049 x11_3 t1046 t1047 t1048 x1073000_3 x1073001_3 x1073002_3 x1074000_69 x1074001_69 = some r) ∧ Aside0 (kq ≤ k3) ∧ Aside0 (Kd.R k39 39 wc w.heap.size (fun _ => True) (.slice Ao8 t1040.length co8) t1040) ∧ Aside0 (Kd.R k43 43 wc w.heap.size (fun k_ => k_ ≠ gb1073) (.slice Ao9 t1041.length co9) t1041) ∧ Aside0 (Kd.R Kd.string 9 wc w.heap.size (fun _ => True) (.slice Ao71 t1049.length co71) t1049) ∧ Aside0 (wc.heap[gb1052]? = some (.cells #[.string t1046, .int .i64 t1047, .int .i64 t1048] 31 (0, 0))) ∧ Aside0 (wc.heap[gb1059]? = some (.cells #[.string t1053, .int .i64 t1054, .int .i64 t1055] 31 (0, 0))) ∧ Aside0 (wc.heap[gb1072]? = some (.cells #[.string x1073000_3, .int .i64 x1073001_3, .int .i64 x1073002_3] 31 (0, 0))) ∧ Aside0 (wc.heap[gb1073]? = some (.cells #[.int .i64 x1074000_69, .bool x1074001_69] 43 (0, 0))) ∧ Aside0 (Below w.heap.size w wc))
            case first =>
             have H := HC70.out
             clear HC70
             by_cases c77 : x11_3 < (t1041.length : Int)
             ·rw [if_pos c77] at H
              have c77b0 : decide (x11_3 < (t1041.length : Int)) = true := decide_eq_true c77
              clear c77
              (first | rw [c77b0] | (simp only [i64_w, i32_w]; rw [c77b0]) | skip)
              by_cases c78 : 0 ≤ x11_3
              ·rw [if_pos c78] at H
               have c78b0 : decide (0 ≤ x11_3) = true := decide_eq_true c78
               clear c78
               have H' := Aside0.mk H
               clear H
               have p1074 : 0 ≤ (x11_3 : Int) := oda
               have q1074 : x11_3 < (t1041.length : Int) := oda
               obtain ⟨ad1074, e1074, hx1074_0, hx1074_1⟩ := at_T43 (Kd.R_reads' HO_4.out).2.2 x11_3 p1074 q1074
               cases e1074
               have hn1074_0 : ad1074.block ≠ gb1073 := Kd.own_blk (fun e_ => (HO_4.out.1 gb1073 e_.symm).2 rfl)
               have hn1074_1 : ad1074.block ≠ gb1073 := Kd.own_blk (fun e_ => (HO_4.out.1 gb1073 e_.symm).2 rfl)
               replace hx1074_0 := (cell_far (p := ⟨gb1073, 0, none⟩) (by first | (rw [add_block]; exact hn1074_0) | (show (Addr.add _ _).block ≠ _; rw [add_block]; exact hn1074_0) | exact hn1074_0) (.int .i64 1001)).trans hx1074_0
               replace hx1074_1 := (cell_far (p := ⟨gb1073, 0, none⟩) (by first | (rw [add_block]; exact hn1074_0) | (show (Addr.add _ _).block ≠ _; rw [add_block]; exact hn1074_0) | exact hn1074_0) (.int .i64 1001)).trans hx1074_1
               replace hx1074_0 := (cell_far (p := ⟨gb1073, 1, none⟩) (by first | (rw [add_block]; exact hn1074_1) | (show (Addr.add _ _).block ≠ _; rw [add_block]; exact hn1074_1) | exact hn1074_1) (.bool false)).trans hx1074_0
               replace hx1074_1 := (cell_far (p := ⟨gb1073, 1, none⟩) (by first | (rw [add_block]; exact hn1074_1) | (show (Addr.add _ _).block ≠ _; rw [add_block]; exact hn1074_1) | exact hn1074_1) (.bool false)).trans hx1074_1
               clear hn1074_0
               clear hn1074_1
               replace p1074 := eq_true p1074
               replace q1074 := eq_true q1074
               have hnb79 := NB1073_1052.out
               have hnc79 := NB1052_1073.out
               have hnb80 := NB1073_1059.out
               have hnc80 := NB1059_1073.out
               have hnb81 := NB1073_1072.out
               have hnc81 := NB1072_1073.out
               have hcz82_0 := b0 BK1073
               have hcz82_1 := b1 BK1073
               have hfz82_0 := fz BK1073 0
               have hfz82_1 := fz BK1073 1
               go_wp2
               go_meet
               case rel => exact ⟨_, ((rd_T43 t1041 x11_3).f0), ((rd_T43 t1041 x11_3).f1), H', ⟨by have := HJ5.out; have := HJ30.out; have := HK3.out; first | omega | exact Nat.le_refl _⟩, ⟨by refine rx ?_; exact Kd.R_mono (Kd.R_far (p := ⟨gb1073, 1, none⟩) (Kd.R_far (p := ⟨gb1073, 0, none⟩) (Kd.R_far (p := ⟨gb1073, 1, none⟩) (Kd.R_far (p := ⟨gb1073, 0, none⟩) (Kd.R_types HO_3.out BK1073.out (by decide)) (fun _ hk => hk.2) (.int .i64 1001)) (fun _ hk => hk.2) (.bool false)) (fun _ hk => hk.2) (.int .i64 ((rd_T43 t1041 x11_3).f0))) (fun _ hk => hk.2) (.bool ((rd_T43 t1041 x11_3).f1))) (fun _ hk => trivial)⟩, ⟨by refine rx ?_; exact Kd.R_mono (Kd.R_far (p := ⟨gb1073, 1, none⟩) (Kd.R_far (p := ⟨gb1073, 0, none⟩) (Kd.R_far (p := ⟨gb1073, 1, none⟩) (Kd.R_far (p := ⟨gb1073, 0, none⟩) (Kd.R_mono HO_4.out (fun k_ hk => (⟨hk, hk.2⟩ : _ ∧ k_ ≠ gb1073))) (fun _ hk => hk.2) (.int .i64 1001)) (fun _ hk => hk.2) (.bool false)) (fun _ hk => hk.2) (.int .i64 ((rd_T43 t1041 x11_3).f0))) (fun _ hk => hk.2) (.bool ((rd_T43 t1041 x11_3).f1))) (fun _ hk => hk.1.2)⟩, ⟨by refine rx ?_; exact Kd.R_mono (Kd.R_far (p := ⟨gb1073, 1, none⟩) (Kd.R_far (p := ⟨gb1073, 0, none⟩) (Kd.R_far (p := ⟨gb1073, 1, none⟩) (Kd.R_far (p := ⟨gb1073, 0, none⟩) (Kd.R_types HO_6.out BK1073.out (by decide)) (fun _ hk => hk.2) (.int .i64 1001)) (fun _ hk => hk.2) (.bool false)) (fun _ hk => hk.2) (.int .i64 ((rd_T43 t1041 x11_3).f0))) (fun _ hk => hk.2) (.bool ((rd_T43 t1041 x11_3).f1))) (fun _ hk => trivial)⟩, ⟨by refine bx ?_; refine blk_far ?_ NB1052_1073.out _; refine bx ?_; refine blk_far ?_ NB1052_1073.out _; refine bx ?_; refine blk_far ?_ NB1052_1073.out _; refine bx ?_; refine blk_far ?_ NB1052_1073.out _; refine bx ?_; exact BK1052.out⟩, ⟨by refine bx ?_; refine blk_far ?_ NB1059_1073.out _; refine bx ?_; refine blk_far ?_ NB1059_1073.out _; refine bx ?_; refine blk_far ?_ NB1059_1073.out _; refine bx ?_; refine blk_far ?_ NB1059_1073.out _; refine bx ?_; exact BK1059.out⟩, ⟨by refine bx ?_; refine blk_far ?_ NB1072_1073.out _; refine bx ?_; refine blk_far ?_ NB1072_1073.out _; refine bx ?_; refine blk_far ?_ NB1072_1073.out _; refine bx ?_; refine blk_far ?_ NB1072_1073.out _; refine bx ?_; exact BK1072.out⟩, ⟨by refine bx ?_; refine blk_put (cs := #[.int .i64 ((rd_T43 t1041 x11_3).f0), .bool false]) ?_ 1 _ rfl; refine bx ?_; refine blk_put (cs := #[.int .i64 1001, .bool false]) ?_ 0 _ rfl; refine bx ?_; refine blk_put (cs := #[.int .i64 1001, .bool false]) ?_ 1 _ rfl; refine bx ?_; refine blk_put (cs := #[.int .i64 0, .bool false]) ?_ 0 _ rfl; refine bx ?_; exact BK1073.out⟩, (hbw HB)⟩
              ·rw [if_neg c78] at H
               exact absurd H (by simp)
             ·rw [if_neg c77] at H
              have c77b0 : decide (x11_3 < (t1041.length : Int)) = false := decide_eq_false c77
              clear c77
              (first | rw [c77b0] | (simp only [i64_w, i32_w]; rw [c77b0]) | skip)
              have H' := Aside0.mk H
              clear H
              go_wp2
              go_meet
              case rel => exact ⟨_, (1001), (false), H', ⟨by have := HJ5.out; have := HJ30.out; have := HK3.out; first | omega | exact Nat.le_refl _⟩, ⟨by refine rx ?_; exact Kd.R_mono (Kd.R_far (p := ⟨gb1073, 1, none⟩) (Kd.R_far (p := ⟨gb1073, 0, none⟩) (Kd.R_types HO_3.out BK1073.out (by decide)) (fun _ hk => hk.2) (.int .i64 1001)) (fun _ hk => hk.2) (.bool false)) (fun _ hk => trivial)⟩, ⟨by refine rx ?_; exact Kd.R_mono (Kd.R_far (p := ⟨gb1073, 1, none⟩) (Kd.R_far (p := ⟨gb1073, 0, none⟩) (Kd.R_mono HO_4.out (fun k_ hk => (⟨hk, hk.2⟩ : _ ∧ k_ ≠ gb1073))) (fun _ hk => hk.2) (.int .i64 1001)) (fun _ hk => hk.2) (.bool false)) (fun _ hk => hk.1.2)⟩, ⟨by refine rx ?_; exact Kd.R_mono (Kd.R_far (p := ⟨gb1073, 1, none⟩) (Kd.R_far (p := ⟨gb1073, 0, none⟩) (Kd.R_types HO_6.out BK1073.out (by decide)) (fun _ hk => hk.2) (.int .i64 1001)) (fun _ hk => hk.2) (.bool false)) (fun _ hk => trivial)⟩, ⟨by refine bx ?_; refine blk_far ?_ NB1052_1073.out _; refine bx ?_; refine blk_far ?_ NB1052_1073.out _; refine bx ?_; exact BK1052.out⟩, ⟨by refine bx ?_; refine blk_far ?_ NB1059_1073.out _; refine bx ?_; refine blk_far ?_ NB1059_1073.out _; refine bx ?_; exact BK1059.out⟩, ⟨by refine bx ?_; refine blk_far ?_ NB1072_1073.out _; refine bx ?_; refine blk_far ?_ NB1072_1073.out _; refine bx ?_; exact BK1072.out⟩, ⟨by refine bx ?_; refine blk_put (cs := #[.int .i64 1001, .bool false]) ?_ 1 _ rfl; refine bx ?_; refine blk_put (cs := #[.int .i64 0, .bool false]) ?_ 0 _ rfl; refine bx ?_; exact BK1073.out⟩, (hbw HB)⟩
            case rest =>
             clear HC70
             obtain ⟨kq, x1074000_69, x1074001_69, HA, HJ69, HO_3, HO_4, HO_6, BK1052, BK1059, BK1072, BK1073, HB⟩ := hcut
             cases kq with
             | zero => exact absurd HA.out (by simp [laws_FnTop.j3])
             | succ kj69 =>
              have H := HA.out
              clear HA
              simp only [laws_FnTop.j3] at H
              replace H := Option.bind_eq_some_iff.mp H
              obtain ⟨⟨t1075, t1076, t1077, t1078⟩, A830, H⟩ := H
              try dsimp only at H
              have A83 := Aside0.mk A830
              clear A830
              by_cases c84 : t1078 = true
              ·subst c84
               rw [if_pos rfl] at H
               by_cases c85 : 0 ≤ x11_3
               ·rw [if_pos c85] at H
                have c85b0 : decide (0 ≤ x11_3) = true := decide_eq_true c85
                clear c85
                by_cases c86 : x11_3 < (t1049.length : Int)
                ·rw [if_pos c86] at H
                 have c86b0 : decide (x11_3 < (t1049.length : Int)) = true := decide_eq_true c86
                 clear c86
                 by_cases c87 : x1073000_3.toList = (rdOf ByteArray.empty t1049 x11_3).toList
                 ·rw [if_pos c87] at H
                  have c87b0 : (x1073000_3.toList == (rdOf ByteArray.empty t1049 x11_3).toList) = true := beq_iff_eq.mpr c87
                  have c87b1 : (x1073000_3.toList != (rdOf ByteArray.empty t1049 x11_3).toList) = false := bne_eq_false_iff_eq.mpr c87
                  clear c87
                  by_cases c88 : t1076 < x1073001_3
                  ·rw [if_pos c88] at H; exact top_no HRT.out H
                  ·rw [if_neg c88] at H
                   have c88b0 : decide (t1076 < x1073001_3) = false := decide_eq_false c88
                   clear c88
                   by_cases c105 : (wrap64 (t1076 + t1077)) > (wrap64 (x1073001_3 + x1073002_3))
                   ·rw [if_pos c105] at H; exact top_no HRT.out H
                   ·rw [if_neg c105] at H
                    have c105b0 : decide ((wrap64 (x1073001_3 + x1073002_3)) < (wrap64 (t1076 + t1077))) = false := decide_eq_false c105
                    clear c105
                    replace H := Option.bind_eq_some_iff.mp H
                    obtain ⟨t1081, A1220, H⟩ := H
                    try dsimp only at H
                    have A122 := Aside0.mk A1220
                    clear A1220
                    replace H := Option.bind_eq_some_iff.mp H
                    obtain ⟨t1084, A1230, H⟩ := H
                    try dsimp only at H
                    have A123 := Aside0.mk A1230
                    clear A1230
                    replace H := Option.bind_eq_some_iff.mp H
                    obtain ⟨t1087, A1240, H⟩ := H
                    try dsimp only at H
                    have A124 := Aside0.mk A1240
                    clear A1240
                    by_cases c125 : t1087 = true
                    ·subst c125
                     rw [if_pos rfl] at H
                     have H' := Aside0.mk H
                     clear H
                     have hnb126 := NB1072_1052.out
                     have hnc126 := NB1052_1072.out
                     have hnb127 := NB1072_1059.out
                     have hnc127 := NB1059_1072.out
                     have hnb128 := NB1072_1073.out
                     have hnc128 := NB1073_1072.out
                     have hcz129_0 := b0 BK1072
                     have hcz129_1 := b1 BK1072
                     have hcz129_2 := b2 BK1072
                     have hfz129_0 := fz BK1072 0
                     have hfz129_1 := fz BK1072 1
                     have hfz129_2 := fz BK1072 2
                     have hnb130 := NB1073_1052.out
                     have hnc130 := NB1052_1073.out
                     have hnb131 := NB1073_1059.out
                     have hnc131 := NB1059_1073.out
                     have hcz132_0 := b0 BK1073
                     have hcz132_1 := b1 BK1073
                     have hfz132_0 := fz BK1073 0
                     have hfz132_1 := fz BK1073 1
                     try go_wp2_with (first | ((with_reducible refine gate_callee (f := 28) rfl ?_); refine goesL_ (some 122) rfl rfl Try.func28 (by kernel_rfl) rfl #[.slice Ao8 t1040.length co8, .agg #[.string x1073000_3, .int .i64 x1073001_3, .int .i64 x1073002_3], .agg #[.int .i64 x1074000_69, .bool x1074001_69]] rfl mxp ?_; (with_reducible refine (impl_RecGo.calls kj69 _ _ t1040 x1073000_3 x1073001_3 x1073002_3 x1074000_69 x1074001_69 t1075 t1076 t1077 true _ ?side1 ?side2 A83.out).mono ?_); (case side1 => exact cx (Kd.R_reads' HO_3.out).2.2); (case side2 => exact (Kd.R_reads' HO_3.out).2.1); rintro e w133 ⟨rfl, hb⟩; refine ⟨_, rfl, ?_⟩; have t_ := And.intro (Aside0.mk (Kd.R_below (rx HO_3.out) hb)) <| And.intro (Aside0.mk (Kd.R_below (rx HO_4.out) hb)) <| And.intro (Aside0.mk (Kd.R_below (rx HO_6.out) hb)) <| And.intro (up BK1052 hb) <| And.intro (up BK1059 hb) <| And.intro (up BK1072 hb) <| And.intro (up BK1073 hb) <| (bs HB hb); clear HO_3 HO_4 HO_6 BK1052 BK1059 BK1072 BK1073 HB; obtain ⟨HO_3, HO_4, HO_6, BK1052, BK1059, BK1072, BK1073, HB⟩ := t_; (try clear hb); (try clear hb2); (try clear hk); (try clear hi)) | ((with_reducible refine gate_dst (N := 13) rfl ?_); (try (refine gate_guard (by rfl) ?_; dsimp only)); refine box_event ?hg (N := 13) ?hd (cs := #[.string (⟨#[]⟩ : ByteArray), .int .i64 0, .int .i64 0]) (t := 31) ?hr ?_; (case hd => rfl); (case hg => rfl); (case hr => first | (go_simp; done) | (go_simp; rfl)); intro gb1079 hg w134 hbox hb; have t_ := And.intro (Aside0.mk (Kd.R_below (rx HO_3.out) hb)) <| And.intro (Aside0.mk (Kd.R_below (rx HO_4.out) hb)) <| And.intro (Aside0.mk (Kd.R_below (rx HO_6.out) hb)) <| And.intro (up BK1052 hb) <| And.intro (up BK1059 hb) <| And.intro (up BK1072 hb) <| And.intro (up BK1073 hb) <| And.intro (bs HB hb) <| And.intro (Aside0.mk (hbox)) <| And.intro (gh hg HB) <| And.intro (gh hg HB) <| And.intro (nlt' hg BK1052) <| And.intro (ngt' hg BK1052) <| And.intro (nlt' hg BK1059) <| And.intro (ngt' hg BK1059) <| And.intro (nlt' hg BK1072) <| And.intro (ngt' hg BK1072) <| And.intro (nlt' hg BK1073) <| (ngt' hg BK1073); clear HO_3 HO_4 HO_6 BK1052 BK1059 BK1072 BK1073 HB; obtain ⟨HO_3, HO_4, HO_6, BK1052, BK1059, BK1072, BK1073, HB, BK1079, GW1079, GE1079, NB1052_1079, NB1079_1052, NB1059_1079, NB1079_1059, NB1072_1079, NB1079_1072, NB1073_1079, NB1079_1073⟩ := t_; clear hb hbox hg; have hnb135 := NB1079_1052.out; have hnc135 := NB1052_1079.out; have hnb136 := NB1079_1059.out; have hnc136 := NB1059_1079.out; have hnb137 := NB1079_1072.out; have hnc137 := NB1072_1079.out; have hnb138 := NB1079_1073.out; have hnc138 := NB1073_1079.out; have hcz139_0 := b0 BK1079; have hcz139_1 := b1 BK1079; have hcz139_2 := b2 BK1079; have hfz139_0 := fz BK1079 0; have hfz139_1 := fz BK1079 1; have hfz139_2 := fz BK1079 2))
                     have n0_ : Aside0 (Kd.R k39 39 (((w134.setCell ⟨gb1079, 0, none⟩ (.string t1075)).setCell ⟨gb1079, 1, none⟩ (.int .i64 t1076)).setCell ⟨gb1079, 2, none⟩ (.int .i64 t1077)) w.heap.size (fun _ => True) (.slice Ao8 t1040.length co8) t1040) := ⟨by refine rx ?_; exact Kd.R_mono (Kd.R_far (p := ⟨gb1079, 2, none⟩) (Kd.R_far (p := ⟨gb1079, 1, none⟩) (Kd.R_far (p := ⟨gb1079, 0, none⟩) (Kd.R_types HO_3.out BK1079.out (by decide)) (fun _ hk => hk.2) (.string t1075)) (fun _ hk => hk.2) (.int .i64 t1076)) (fun _ hk => hk.2) (.int .i64 t1077)) (fun _ hk => trivial)⟩
                     have n1_ : Aside0 (Kd.R k43 43 (((w134.setCell ⟨gb1079, 0, none⟩ (.string t1075)).setCell ⟨gb1079, 1, none⟩ (.int .i64 t1076)).setCell ⟨gb1079, 2, none⟩ (.int .i64 t1077)) w.heap.size (fun k_ => k_ ≠ gb1073) (.slice Ao9 t1041.length co9) t1041) := ⟨by refine rx ?_; exact Kd.R_mono (Kd.R_far (p := ⟨gb1079, 2, none⟩) (Kd.R_far (p := ⟨gb1079, 1, none⟩) (Kd.R_far (p := ⟨gb1079, 0, none⟩) (Kd.R_types HO_4.out BK1079.out (by decide)) (fun _ hk => hk.2) (.string t1075)) (fun _ hk => hk.2) (.int .i64 t1076)) (fun _ hk => hk.2) (.int .i64 t1077)) (fun _ hk => hk.1)⟩
                     have n2_ : Aside0 (Kd.R Kd.string 9 (((w134.setCell ⟨gb1079, 0, none⟩ (.string t1075)).setCell ⟨gb1079, 1, none⟩ (.int .i64 t1076)).setCell ⟨gb1079, 2, none⟩ (.int .i64 t1077)) w.heap.size (fun _ => True) (.slice Ao71 t1049.length co71) t1049) := ⟨by refine rx ?_; exact Kd.R_mono (Kd.R_far (p := ⟨gb1079, 2, none⟩) (Kd.R_far (p := ⟨gb1079, 1, none⟩) (Kd.R_far (p := ⟨gb1079, 0, none⟩) (Kd.R_types HO_6.out BK1079.out (by decide)) (fun _ hk => hk.2) (.string t1075)) (fun _ hk => hk.2) (.int .i64 t1076)) (fun _ hk => hk.2) (.int .i64 t1077)) (fun _ hk => trivial)⟩
                     have n3_ : Aside0 ((((w134.setCell ⟨gb1079, 0, none⟩ (.string t1075)).setCell ⟨gb1079, 1, none⟩ (.int .i64 t1076)).setCell ⟨gb1079, 2, none⟩ (.int .i64 t1077)).heap[gb1052]? = some (.cells #[.string t1046, .int .i64 t1047, .int .i64 t1048] 31 (0, 0))) := ⟨by refine bx ?_; refine blk_far ?_ NB1052_1079.out _; refine bx ?_; refine blk_far ?_ NB1052_1079.out _; refine bx ?_; refine blk_far ?_ NB1052_1079.out _; refine bx ?_; exact BK1052.out⟩
                     have n4_ : Aside0 ((((w134.setCell ⟨gb1079, 0, none⟩ (.string t1075)).setCell ⟨gb1079, 1, none⟩ (.int .i64 t1076)).setCell ⟨gb1079, 2, none⟩ (.int .i64 t1077)).heap[gb1059]? = some (.cells #[.string t1053, .int .i64 t1054, .int .i64 t1055] 31 (0, 0))) := ⟨by refine bx ?_; refine blk_far ?_ NB1059_1079.out _; refine bx ?_; refine blk_far ?_ NB1059_1079.out _; refine bx ?_; refine blk_far ?_ NB1059_1079.out _; refine bx ?_; exact BK1059.out⟩
                     have n5_ : Aside0 ((((w134.setCell ⟨gb1079, 0, none⟩ (.string t1075)).setCell ⟨gb1079, 1, none⟩ (.int .i64 t1076)).setCell ⟨gb1079, 2, none⟩ (.int .i64 t1077)).heap[gb1072]? = some (.cells #[.string x1073000_3, .int .i64 x1073001_3, .int .i64 x1073002_3] 31 (0, 0))) := ⟨by refine bx ?_; refine blk_far ?_ NB1072_1079.out _; refine bx ?_; refine blk_far ?_ NB1072_1079.out _; refine bx ?_; refine blk_far ?_ NB1072_1079.out _; refine bx ?_; exact BK1072.out⟩
                     have n6_ : Aside0 ((((w134.setCell ⟨gb1079, 0, none⟩ (.string t1075)).setCell ⟨gb1079, 1, none⟩ (.int .i64 t1076)).setCell ⟨gb1079, 2, none⟩ (.int .i64 t1077)).heap[gb1073]? = some (.cells #[.int .i64 x1074000_69, .bool x1074001_69] 43 (0, 0))) := ⟨by refine bx ?_; refine blk_far ?_ NB1073_1079.out _; refine bx ?_; refine blk_far ?_ NB1073_1079.out _; refine bx ?_; refine blk_far ?_ NB1073_1079.out _; refine bx ?_; exact BK1073.out⟩
                     have n7_ : Aside0 ((((w134.setCell ⟨gb1079, 0, none⟩ (.string t1075)).setCell ⟨gb1079, 1, none⟩ (.int .i64 t1076)).setCell ⟨gb1079, 2, none⟩ (.int .i64 t1077)).heap[gb1079]? = some (.cells #[.string t1075, .int .i64 t1076, .int .i64 t1077] 31 (0, 0))) := ⟨by refine bx ?_; refine blk_put (cs := #[.string t1075, .int .i64 t1076, .int .i64 0]) ?_ 2 _ rfl; refine bx ?_; refine blk_put (cs := #[.string t1075, .int .i64 0, .int .i64 0]) ?_ 1 _ rfl; refine bx ?_; refine blk_put (cs := #[.string (⟨#[]⟩ : ByteArray), .int .i64 0, .int .i64 0]) ?_ 0 _ rfl; refine bx ?_; exact BK1079.out⟩
                     have n8_ : Aside0 (Below w.heap.size w (((w134.setCell ⟨gb1079, 0, none⟩ (.string t1075)).setCell ⟨gb1079, 1, none⟩ (.int .i64 t1076)).setCell ⟨gb1079, 2, none⟩ (.int .i64 t1077))) := (hbw HB)
                     (try clear HO_3)
                     (try clear HO_4)
                     (try clear HO_6)
                     (try clear BK1052)
                     (try clear BK1059)
                     (try clear BK1072)
                     (try clear BK1073)
                     (try clear BK1079)
                     (try clear HB)
                     generalize (((w134.setCell ⟨gb1079, 0, none⟩ (.string t1075)).setCell ⟨gb1079, 1, none⟩ (.int .i64 t1076)).setCell ⟨gb1079, 2, none⟩ (.int .i64 t1077)) = w140 at n0_ n1_ n2_ n3_ n4_ n5_ n6_ n7_ n8_ ⊢
                     have HO_3 := n0_
                     have HO_4 := n1_
                     have HO_6 := n2_
                     have BK1052 := n3_
                     have BK1059 := n4_
                     have BK1072 := n5_
                     have BK1073 := n6_
                     have BK1079 := n7_
                     have HB := n8_
                     clear n0_ n1_ n2_ n3_ n4_ n5_ n6_ n7_ n8_
                     have n0_ := Aside0.mk (Kd.R_drew HO_3.out)
                     have n1_ := Aside0.mk (Kd.R_drew HO_4.out)
                     have n2_ := Aside0.mk (Kd.R_drew HO_6.out)
                     have n3_ := Aside0.mk (blk_drew BK1052.out)
                     have n4_ := Aside0.mk (blk_drew BK1059.out)
                     have n5_ := Aside0.mk (blk_drew BK1072.out)
                     have n6_ := Aside0.mk (blk_drew BK1073.out)
                     have n7_ := Aside0.mk (blk_drew BK1079.out)
                     have n8_ := Aside0.mk (below_drew1 HB.out)
                     clear HO_3
                     clear HO_4
                     clear HO_6
                     clear BK1052
                     clear BK1059
                     clear BK1072
                     clear BK1073
                     clear BK1079
                     clear HB
                     have HO_3 := n0_
                     have HO_4 := n1_
                     have HO_6 := n2_
                     have BK1052 := n3_
                     have BK1059 := n4_
                     have BK1072 := n5_
                     have BK1073 := n6_
                     have BK1079 := n7_
                     have HB := n8_
                     clear n0_ n1_ n2_ n3_ n4_ n5_ n6_ n7_ n8_
                     have p1080 : 0 ≤ (x11_3 : Int) := oda
                     have q1080 : x11_3 < (t1049.length : Int) := oda
                     obtain ⟨ad1080, e1080, hx1080_0⟩ := Kd.at_string (Kd.R_reads' HO_6.out).2.2 x11_3 p1080 q1080
                     cases e1080
                     replace p1080 := eq_true p1080
                     replace q1080 := eq_true q1080
                     refine start_ (n := 43) (S := fun w' => w'.cell? ⟨gb1072, 0, none⟩ = some (.string x1073000_3) ∧ w'.cell? ⟨gb1072, 1, none⟩ = some (.int .i64 x1073001_3) ∧ w'.cell? ⟨gb1072, 2, none⟩ = some (.int .i64 x1073002_3) ∧ w'.cell? ⟨gb1079, 0, none⟩ = some (.string t1075) ∧ w'.cell? ⟨gb1079, 1, none⟩ = some (.int .i64 t1076) ∧ w'.cell? ⟨gb1079, 2, none⟩ = some (.int .i64 t1077) ∧ w'.cell? (ad1080.add (x11_3).toNat) = some (.string (rdOf ByteArray.empty t1049 x11_3))) (ds := []) (lb 43 0) (by kernel_rfl) rfl rfl ⟨(blk_cell BK1072.out 0).trans rfl, (blk_cell BK1072.out 1).trans rfl, (blk_cell BK1072.out 2).trans rfl, (blk_cell BK1079.out 0).trans rfl, (blk_cell BK1079.out 1).trans rfl, (blk_cell BK1079.out 2).trans rfl, hx1080_0⟩ (fun hHeld => ?_); refine with_tabW laws_FnTop.tab21 laws_FnTop.bits21 (fun HT_ HW_ => ?_)
                     generalize w140.drew = w141 at HO_3 HO_4 HO_6 BK1052 BK1059 BK1072 BK1073 BK1079 HB hx1080_0 hHeld ⊢
                     refine pw HT_ 0 (some 125) (lb 43 1) ?_
                     refine pw HT_ 1 (some 126) (lb 43 3) ?_
                     refine pw HT_ 2 (some 127) (lb 43 7) ?_
                     refine pw HT_ 3 (some 128) (lb 43 15) ?_
                     refine pw HT_ 5 (some 130) (lb 43 47) ?_
                     refine pw HT_ 6 (some 131) (lb 43 111) ?_
                     refine pw HT_ 7 (some 132) (lb 43 239) ?_
                     refine tw HT_ HW_ hHeld 4 (some 129) (lb 43 255) ?_
                     refine tw HT_ HW_ hHeld 8 (some 133) (lb 43 511) ?_
                     refine pw HT_ 9 (some 134) (lb 43 1023) ?_
                     refine pw HT_ 10 (some 135) (lb 43 2047) ?_
                     refine pw HT_ 11 (some 136) (lb 43 4095) ?_
                     refine pw HT_ 12 (some 137) (lb 43 8191) ?_
                     refine pw HT_ 14 (some 139) (lb 43 24575) ?_
                     refine tw HT_ HW_ hHeld 13 (some 138) (lb 43 32767) ?_
                     refine tw HT_ HW_ hHeld 15 (some 140) (lb 43 65535) ?_
                     refine pw HT_ 16 (some 141) (lb 43 131071) ?_
                     refine pw HT_ 17 (some 142) (lb 43 262143) ?_
                     refine pw HT_ 18 (some 143) (lb 43 524287) ?_
                     refine pw HT_ 19 (some 144) (lb 43 1048575) ?_
                     refine pw HT_ 21 (some 146) (lb 43 3145727) ?_
                     refine pw HT_ 24 (some 149) (lb 43 19922943) ?_
                     refine pw HT_ 26 (some 151) (lb 43 87031807) ?_
                     refine tw HT_ HW_ hHeld 20 (some 145) (lb 43 88080383) ?_
                     refine tw HT_ HW_ hHeld 22 (some 147) (lb 43 92274687) ?_
                     refine pw HT_ 23 (some 148) (lb 43 100663295) ?_
                     refine tw HT_ HW_ hHeld 25 (some 150) (lb 43 134217727) ?_
                     refine tw HT_ HW_ hHeld 27 (some 152) (lb 43 268435455) ?_
                     refine pw HT_ 28 (some 153) (lb 43 536870911) ?_
                     refine pw HT_ 29 (some 154) (lb 43 1073741823) ?_
                     refine pw HT_ 30 (some 155) (lb 43 2147483647) ?_
                     refine pw HT_ 31 (some 156) (lb 43 4294967295) ?_
                     refine pw HT_ 32 (some 157) (lb 43 8589934591) ?_
                     refine pw HT_ 33 (some 158) (lb 43 17179869183) ?_
                     refine pw HT_ 36 (some 161) (lb 43 85899345919) ?_
                     refine pw HT_ 37 (some 162) (lb 43 223338299391) ?_
                     refine tw HT_ HW_ hHeld 34 (some 159) (lb 43 240518168575) ?_
                     refine tw HT_ HW_ hHeld 38 (some 163) (lb 43 515396075519) ?_
                     refine one_ (i := 35) (N := some 160) (lb 43 549755813887) rfl rfl (one_of HT_.out (by kernel_rfl)) (by decide) (fun K hK => ?_)
                     refine goes_ Try.func30 (by kernel_rfl) rfl #[.slice Ao8 t1040.length co8, .string t1075] (by rfl) rfl rfl mxp ?_
                     with_reducible refine (impl_RecSlots.calls kj69 _ _ t1040 t1075 t1081 _ ?side1 ?side2 A122.out).mono ?_
                     (case side1 => exact cx (Kd.R_reads' HO_3.out).2.2)
                     (case side2 => exact (Kd.R_reads' HO_3.out).2.1)
                     rintro e w142 ⟨v1082, rfl, ho0, hb⟩
                     have HS6_ := (hb.cell (World.block_lt_of_cell? _ _ (hHeld.2.2.2.2.2.2))).trans (hHeld.2.2.2.2.2.2)
                     refine ⟨_, rfl, ?_⟩
                     have n0_ := Aside0.mk (Kd.R_below (rx HO_3.out) hb)
                     have n1_ := Aside0.mk (Kd.R_below (rx HO_4.out) hb)
                     have n2_ := Aside0.mk (Kd.R_elder' (rx HO_6.out) (Kd.R_base ho0) hb)
                     have n3_ := Aside0.mk (Kd.R_lower (Kd.R_new' ho0 (Kd.R_lt (rx HO_6.out))) (below_size (bw HB.out)))
                     have n4_ := up BK1052 hb
                     have n5_ := up BK1059 hb
                     have n6_ := up BK1072 hb
                     have n7_ := up BK1073 hb
                     have n8_ := up BK1079 hb
                     have n9_ := bs HB hb
                     clear HO_3
                     clear HO_4
                     clear HO_6
                     clear BK1052
                     clear BK1059
                     clear BK1072
                     clear BK1073
                     clear BK1079
                     clear HB
                     have HO_3 := n0_
                     have HO_4 := n1_
                     have HO_6 := n2_
                     have HO1083 := n3_
                     have BK1052 := n4_
                     have BK1059 := n5_
                     have BK1072 := n6_
                     have BK1073 := n7_
                     have BK1079 := n8_
                     have HB := n9_
                     clear n0_ n1_ n2_ n3_ n4_ n5_ n6_ n7_ n8_ n9_
                     (try clear hb)
                     (try clear hb2)
                     (try clear hk)
                     (try clear hi)
                     (try clear ho0)
                     refine hK.out _ _ ⟨(blk_cell BK1072.out 0).trans rfl, (blk_cell BK1072.out 1).trans rfl, (blk_cell BK1072.out 2).trans rfl, (blk_cell BK1079.out 0).trans rfl, (blk_cell BK1079.out 1).trans rfl, (blk_cell BK1079.out 2).trans rfl, HS6_⟩ (fun hHeld => ?_)
                     clear hK K
                     refine norm_ (a' := ?_) ?_ ?_
                     rotate_left
                     ·show Act.put _ (some 160) _ = _
                      simp only [Act.put, List.setIfInBounds_toArray, List.set_cons_zero, List.set_cons_succ, i64_w, i32_w]
                      rfl
                     refine one_ (i := 39) (N := some 164) (lb 43 1099511627775) rfl rfl (one_of HT_.out (by kernel_rfl)) (by decide) (fun K hK => ?_)
                     refine goes_ Try.func30 (by kernel_rfl) rfl #[.slice Ao8 t1040.length co8, .string x1073000_3] (by rfl) rfl rfl mxp ?_
                     with_reducible refine (impl_RecSlots.calls kj69 _ _ t1040 x1073000_3 t1084 _ ?side1 ?side2 A123.out).mono ?_
                     (case side1 => exact cx (Kd.R_reads' HO_3.out).2.2)
                     (case side2 => exact (Kd.R_reads' HO_3.out).2.1)
                     rintro e w143 ⟨v1085, rfl, ho0, hb⟩
                     have HS6_ := (hb.cell (World.block_lt_of_cell? _ _ (hHeld.2.2.2.2.2.2))).trans (hHeld.2.2.2.2.2.2)
                     refine ⟨_, rfl, ?_⟩
                     have n0_ := Aside0.mk (Kd.R_below (rx HO_3.out) hb)
                     have n1_ := Aside0.mk (Kd.R_below (rx HO_4.out) hb)
                     have n2_ := Aside0.mk (Kd.R_elder' (rx HO_6.out) (Kd.R_base ho0) hb)
                     have n3_ := Aside0.mk (Kd.R_elder' (rx HO1083.out) (Kd.R_base ho0) hb)
                     have n4_ := Aside0.mk (Kd.R_lower (Kd.R_new' (Kd.R_new' ho0 (Kd.R_lt (rx HO_6.out))) (Kd.R_lt (rx HO1083.out))) (below_size (bw HB.out)))
                     have n5_ := up BK1052 hb
                     have n6_ := up BK1059 hb
                     have n7_ := up BK1072 hb
                     have n8_ := up BK1073 hb
                     have n9_ := up BK1079 hb
                     have n10_ := bs HB hb
                     clear HO_3
                     clear HO_4
                     clear HO_6
                     clear HO1083
                     clear BK1052
                     clear BK1059
                     clear BK1072
                     clear BK1073
                     clear BK1079
                     clear HB
                     have HO_3 := n0_
                     have HO_4 := n1_
                     have HO_6 := n2_
                     have HO1083 := n3_
                     have HO1086 := n4_
                     have BK1052 := n5_
                     have BK1059 := n6_
                     have BK1072 := n7_
                     have BK1073 := n8_
                     have BK1079 := n9_
                     have HB := n10_
                     clear n0_ n1_ n2_ n3_ n4_ n5_ n6_ n7_ n8_ n9_ n10_
                     (try clear hb)
                     (try clear hb2)
                     (try clear hk)
                     (try clear hi)
                     (try clear ho0)
                     obtain ⟨Ao144, co144, eo144⟩ := Kd.R_slice HO1083.out
                     (first | subst eo144 | (injection eo144 with f1_ f2_ f3_; have f4_ := f1_.symm; have f5_ := f3_.symm; clear f1_ f2_ f3_; subst f4_; subst f5_))
                     obtain ⟨Ao145, co145, eo145⟩ := Kd.R_slice HO1086.out
                     (first | subst eo145 | (injection eo145 with f1_ f2_ f3_; have f4_ := f1_.symm; have f5_ := f3_.symm; clear f1_ f2_ f3_; subst f4_; subst f5_))
                     refine hK.out _ _ ⟨(blk_cell BK1072.out 0).trans rfl, (blk_cell BK1072.out 1).trans rfl, (blk_cell BK1072.out 2).trans rfl, (blk_cell BK1079.out 0).trans rfl, (blk_cell BK1079.out 1).trans rfl, (blk_cell BK1079.out 2).trans rfl, HS6_⟩ (fun hHeld => ?_)
                     clear hK K
                     refine norm_ (a' := ?_) ?_ ?_
                     rotate_left
                     ·show Act.put _ (some 164) _ = _
                      simp only [Act.put, List.setIfInBounds_toArray, List.set_cons_zero, List.set_cons_succ, i64_w, i32_w]
                      rfl
                     refine one_ (i := 40) (N := some 165) (lb 43 2199023255551) rfl rfl (one_of HT_.out (by kernel_rfl)) (by decide) (fun K hK => ?_)
                     refine goes_ Try.func29 (by kernel_rfl) rfl #[.slice Ao144 t1081.length co144, .slice Ao145 t1084.length co145] (by rfl) rfl rfl mxp ?_
                     with_reducible refine (laws_wAll.calls kj69 _ _ t1081 _ _ t1084 true _ ?side1 ?side2 ?side3 ?side4 A124.out).mono ?_
                     (case side1 => exact cx (Kd.R_reads' HO1083.out).2.2)
                     (case side2 => exact (Kd.R_reads' HO1083.out).2.1)
                     (case side3 => exact cx (Kd.R_reads' HO1086.out).2.2)
                     (case side4 => exact (Kd.R_reads' HO1086.out).2.1)
                     rintro e w' ⟨rfl, ⟨nd, rfl⟩⟩
                     refine ⟨_, rfl, ?_⟩
                     refine hK.out _ _ ⟨(blk_cell BK1072.out 0).trans rfl, (blk_cell BK1072.out 1).trans rfl, (blk_cell BK1072.out 2).trans rfl, (blk_cell BK1079.out 0).trans rfl, (blk_cell BK1079.out 1).trans rfl, (blk_cell BK1079.out 2).trans rfl, hHeld.2.2.2.2.2.2⟩ (fun hHeld => ?_)
                     clear hK K
                     refine norm_ (a' := ?_) ?_ ?_
                     rotate_left
                     ·show Act.put _ (some 165) _ = _
                      simp only [Act.put, List.setIfInBounds_toArray, List.set_cons_zero, List.set_cons_succ, i64_w, i32_w]
                      rfl
                     refine pw HT_ 41 (some 166) (lb 43 4398046511103) ?_
                     refine pw HT_ 42 (some 167) (lb 43 8796093022207) ?_
                     refine done_ (done_of HT_.out (by kernel_rfl)) ?_
                     have hcz146_0 := b0 BK1079
                     have hcz146_1 := b1 BK1079
                     have hcz146_2 := b2 BK1079
                     have hfz146_0 := fz BK1079 0
                     have hfz146_1 := fz BK1079 1
                     have hfz146_2 := fz BK1079 2
                     have hcz147_0 := b0 BK1072
                     have hcz147_1 := b1 BK1072
                     have hcz147_2 := b2 BK1072
                     have hfz147_0 := fz BK1072 0
                     have hfz147_1 := fz BK1072 1
                     have hfz147_2 := fz BK1072 2
                     try go_wp2
                     go_roundg kj69
                     case measure => have := HJ5.out; have := HJ30.out; have := HK3.out; have := HJ69.out; omega
                     case rel => exact ⟨(wrap64 (x11_3 + 1)), (t1075), (t1076), (t1077), (by first | rfl | (simp; done) | (simp [*]; done)), H', ⟨by have := HJ5.out; have := HJ30.out; have := HK3.out; have := HJ69.out; omega⟩, ⟨by refine rx ?_; exact Kd.R_mono (Kd.R_far (p := ⟨gb1072, 2, none⟩) (Kd.R_far (p := ⟨gb1072, 1, none⟩) (Kd.R_far (p := ⟨gb1072, 0, none⟩) (Kd.R_types HO_3.out BK1072.out (by decide)) (fun _ hk => hk.2) (.string t1075)) (fun _ hk => hk.2) (.int .i64 t1076)) (fun _ hk => hk.2) (.int .i64 t1077)) (fun _ hk => trivial)⟩, ⟨by refine rx ?_; exact Kd.R_mono (Kd.R_far (p := ⟨gb1072, 2, none⟩) (Kd.R_far (p := ⟨gb1072, 1, none⟩) (Kd.R_far (p := ⟨gb1072, 0, none⟩) (Kd.R_types HO_4.out BK1072.out (by decide)) (fun _ hk => hk.2) (.string t1075)) (fun _ hk => hk.2) (.int .i64 t1076)) (fun _ hk => hk.2) (.int .i64 t1077)) (fun _ hk => trivial)⟩, ⟨by refine rx ?_; exact Kd.R_mono (Kd.R_far (p := ⟨gb1072, 2, none⟩) (Kd.R_far (p := ⟨gb1072, 1, none⟩) (Kd.R_far (p := ⟨gb1072, 0, none⟩) (Kd.R_types HO_6.out BK1072.out (by decide)) (fun _ hk => hk.2) (.string t1075)) (fun _ hk => hk.2) (.int .i64 t1076)) (fun _ hk => hk.2) (.int .i64 t1077)) (fun _ hk => trivial)⟩, ⟨by refine bx ?_; refine blk_far ?_ NB1052_1072.out _; refine bx ?_; refine blk_far ?_ NB1052_1072.out _; refine bx ?_; refine blk_far ?_ NB1052_1072.out _; refine bx ?_; exact BK1052.out⟩, ⟨by refine bx ?_; refine blk_far ?_ NB1059_1072.out _; refine bx ?_; refine blk_far ?_ NB1059_1072.out _; refine bx ?_; refine blk_far ?_ NB1059_1072.out _; refine bx ?_; exact BK1059.out⟩, ⟨by refine bx ?_; refine blk_put (cs := #[.string t1075, .int .i64 t1076, .int .i64 x1073002_3]) ?_ 2 _ rfl; refine bx ?_; refine blk_put (cs := #[.string t1075, .int .i64 x1073001_3, .int .i64 x1073002_3]) ?_ 1 _ rfl; refine bx ?_; refine blk_put (cs := #[.string x1073000_3, .int .i64 x1073001_3, .int .i64 x1073002_3]) ?_ 0 _ rfl; refine bx ?_; exact BK1072.out⟩, (hbw HB)⟩
                    ·replace c125 := Bool.eq_false_iff.mpr c125; subst c125; rw [if_neg (show ¬ (false = true) by decide)] at H; exact top_no HRT.out H
                 ·rw [if_neg c87] at H; exact top_no HRT.out H
                ·rw [if_neg c86] at H
                 exact absurd H (by simp)
               ·rw [if_neg c85] at H
                exact absurd H (by simp)
              ·replace c84 := Bool.eq_false_iff.mpr c84; subst c84; rw [if_neg (show ¬ (false = true) by decide)] at H; exact top_no HRT.out H
           ·rw [if_neg c69] at H
            have c69b0 : decide (x11_3 < (t1049.length : Int)) = false := decide_eq_false c69
            clear c69
            obtain rfl := Option.some.inj H
            obtain ⟨Ao200, co200, eo200⟩ := Kd.R_slice HO_6.out
            subst eo200
            have hnb201 := NB1072_1052.out
            have hnc201 := NB1052_1072.out
            have hnb202 := NB1072_1059.out
            have hnc202 := NB1059_1072.out
            have hcz203_0 := b0 BK1072
            have hcz203_1 := b1 BK1072
            have hcz203_2 := b2 BK1072
            have hfz203_0 := fz BK1072 0
            have hfz203_1 := fz BK1072 1
            have hfz203_2 := fz BK1072 2
            have hnb204 := NB1052_1059.out
            have hnc204 := NB1059_1052.out
            have hcz205_0 := b0 BK1052
            have hcz205_1 := b1 BK1052
            have hcz205_2 := b2 BK1052
            have hfz205_0 := fz BK1052 0
            have hfz205_1 := fz BK1052 1
            have hfz205_2 := fz BK1052 2
            go_wp2
            go_ret
            exact ⟨exq, bw HB.out⟩
     ·replace c29 := Bool.eq_false_iff.mpr c29
      subst c29
      rw [if_neg (show ¬ (false = true) by decide)] at H
      by_cases c206 : (t1046.toList == ([] : List UInt8) && (t1047 == 0 && (t1048 == 0))) = true
      ·rw [if_pos c206] at H
       have c206b0 : (t1046.toList == ([] : List UInt8) && (t1047 == 0 && (t1048 == 0))) = true := c206
       (try (have c206b1 : decide (t1046.toList = ([] : List UInt8) && (t1047 == 0 && (t1048 == 0))) = true := by simpa using c206))
       (try (have c206b2 : (t1046.toList == ([] : List UInt8) && (t1047 == 0 && (t1048 == 0))) = true := by simpa using c206))
       clear c206
       obtain rfl := Option.some.inj H
       go_wp2_with (first | ((with_reducible refine gate_callee (f := 24) rfl ?_); refine goesL_ (some 45) rfl rfl Try.func24 (by kernel_rfl) rfl #[.slice Ao8 t1040.length co8] rfl mxp ?_; (with_reducible refine (spec_RecOk.calls kj5 _ _ t1040 false _ ?side1 ?side2 A28.out).mono ?_); (case side1 => exact cx (Kd.R_reads' HO_3.out).2.2); (case side2 => exact (Kd.R_reads' HO_3.out).2.1); rintro e w207 ⟨rfl, hb⟩; refine ⟨_, rfl, ?_⟩; have t_ := And.intro (Aside0.mk (Kd.R_below (rx HO_3.out) hb)) <| And.intro (Aside0.mk (Kd.R_below (rx HO_4.out) hb)) <| And.intro (Aside0.mk (Kd.R_below (rx HO_6.out) hb)) <| And.intro (up BK1052 hb) <| And.intro (up BK1059 hb) <| (bs HB hb); clear HO_3 HO_4 HO_6 BK1052 BK1059 HB; obtain ⟨HO_3, HO_4, HO_6, BK1052, BK1059, HB⟩ := t_; (try clear hb); (try clear hb2); (try clear hk); (try clear hi); have hnb208 := NB1052_1059.out; have hnc208 := NB1059_1052.out; have hcz209_0 := b0 BK1052; have hcz209_1 := b1 BK1052; have hcz209_2 := b2 BK1052; have hfz209_0 := fz BK1052 0; have hfz209_1 := fz BK1052 1; have hfz209_2 := fz BK1052 2; obtain ⟨Ao210, co210, eo210⟩ := Kd.R_slice HO_6.out; subst eo210))
       go_ret
       exact ⟨exq, bw HB.out⟩
       exact absurd (show t1046.toList = [] ∧ t1047 = 0 ∧ t1048 = 0 from by simpa using c206b0) (by assumption)
      ·rw [if_neg c206] at H; exact top_no HRT.out H
/-- THE ONE PURE STATEMENT of laws_FnTop: yours. -/
def laws_FnTop.Pure : Prop := ∀ (l0 : List Int), l0.length ≤ maxLen → l0.length * 1 ≤ 140737488351232 → (∀ x ∈ l0, (Lit.int .u8 x).wf = true) → ∃ k, laws_FnTop.f k l0 = some true
theorem laws_FnTop.walk (P : laws_FnTop.Pure) (a0 : Option Addr) (len0 cap0 : Nat) (z0 : List Int) (w : World) (w0 : (a0 = none ∧ len0 = 0 ∧ cap0 = 0 ∧ z0 = []) ∨ ∃ x, a0 = some x ∧ len0 ≤ cap0 ∧ cap0 ≤ maxLen ∧ z0.length = cap0 ∧ (∀ i, i < z0.length → w.cell? (x.add i) = some (.int .u8 (z0.getD i 0))) ∧ ∀ n ∈ z0, (Lit.int .u8 n).wf = true) (y0 : len0 * 1 ≤ 140737488351232) :
  Calls Try.prog 5 #[.slice a0 len0 cap0] w fun e w' => e = .returned (.bool true) ∧ Below w.heap.size w w' := by
 obtain ⟨l0, rfl, hr0, hm0, hw0, hc0⟩ := ReadsInt.ofRowC w0
 obtain ⟨k, h⟩ := P l0 hm0 y0 hw0
 refine (laws_FnTop.calls k _ _ l0 true w (Kd.C_of_reads (d := (0 : Int)) (h1 := fun _ => rfl) hr0) hc0 h rfl).mono ?_
 rintro e w' ⟨rfl, hd⟩
 exact ⟨rfl, hd⟩


/-! ### spec_RecBound: function 40 -/
def spec_RecBound.f (k : Nat) (l0 : List (S39)) (a1 : ByteArray) : Option (Int) := (spec_RecOk.f k l0).bind fun t396 => (if t396 = true then ((spec_l2Bound.f k l0 a1).bind fun t397 => (some t397)) else (some 0))
theorem spec_RecBound.mono : ∀ a0 a1 k, LeO (spec_RecBound.f k a0 a1) (spec_RecBound.f (k + 1) a0 a1) := by
 intro a0 a1 k
 unfold spec_RecBound.f
 repeat' first
   | (with_reducible exact spec_RecOk.mono _ _)
   | (with_reducible exact spec_l2Bound.mono _ _ _)
   | (with_reducible exact LeO.refl _)
   | (with_reducible exact LeO.none _)
   | (with_reducible refine LeO.ite ?_ ?_)
   | (with_reducible refine LeO.bind ?_ (fun _ => ?_))
   | exact spec_RecOk.mono _ _
   | exact spec_l2Bound.mono _ _ _
   | exact LeO.none _
   | refine LeO.ite ?_ ?_
   | refine LeO.bind ?_ (fun _ => ?_)
set_option maxHeartbeats 8000000 in
set_option maxRecDepth 100000 in
theorem spec_RecBound.calls (k : Nat) (A0 : Option Addr) (c0 : Nat) (l0 : List (S39)) (a1 : ByteArray) (r : Int) (w : World) (hr0 : Kd.C k39 w A0 l0.length l0) (hc0 : l0.length ≤ c0) (h : spec_RecBound.f k l0 a1 = some r) :
  Calls Try.prog 40 #[.slice A0 l0.length c0, .string a1] w fun e w' => e = .returned (.int .i64 r) ∧ Below w.heap.size w w' := by
 have HR0 := Aside0.mk hr0
 have HC0 := Aside0.mk hc0
 clear hr0 hc0
 have HB := Aside0.mk (Below.refl w.heap.size w)
 have H : ((spec_RecOk.f k l0).bind fun t396 => (if t396 = true then ((spec_l2Bound.f k l0 a1).bind fun t397 => (some t397)) else (some 0))) = some r := h
 clear h
 replace H := Option.bind_eq_some_iff.mp H
 obtain ⟨t396, A30, H⟩ := H
 try dsimp only at H
 have A3 := Aside0.mk A30
 clear A30
 by_cases c4 : t396 = true
 ·subst c4
  rw [if_pos rfl] at H
  replace H := Option.bind_eq_some_iff.mp H
  obtain ⟨t397, A50, H⟩ := H
  try dsimp only at H
  have A5 := Aside0.mk A50
  clear A50
  obtain rfl := Option.some.inj H
  go_enter Try.func40, Try.ntmps40
  go_wp2_with (first | ((with_reducible refine gate_callee (f := 24) rfl ?_); refine goesL_ (some 6) rfl rfl Try.func24 (by kernel_rfl) rfl #[.slice A0 l0.length c0] rfl mxp ?_; (with_reducible refine (spec_RecOk.calls k _ _ l0 true _ ?side1 ?side2 A3.out).mono ?_); (case side1 => exact cx HR0.out); (case side2 => exact HC0.out); rintro e w6 ⟨rfl, hb⟩; refine ⟨_, rfl, ?_⟩; replace HB := bs HB hb; (try clear hb); (try clear hb2); (try clear hk); (try clear hi)) | ((with_reducible refine gate_callee (f := 84) rfl ?_); refine goesL_ (some 10) rfl rfl Try.func84 (by kernel_rfl) rfl #[.slice A0 l0.length c0, .string a1] rfl mxp ?_; (with_reducible refine (spec_l2Bound.calls k _ _ l0 a1 t397 _ ?side1 ?side2 A5.out).mono ?_); (case side1 => exact cx (Kd.C_below HR0.out HB.out)); (case side2 => exact HC0.out); rintro e w' ⟨rfl, ⟨nd, rfl⟩⟩; refine ⟨_, rfl, ?_⟩))
  go_ret
  exact ⟨exq, bw HB.out⟩
 ·replace c4 := Bool.eq_false_iff.mpr c4
  subst c4
  rw [if_neg (show ¬ (false = true) by decide)] at H
  obtain rfl := Option.some.inj H
  go_enter Try.func40, Try.ntmps40
  go_wp2_with (first | ((with_reducible refine gate_callee (f := 24) rfl ?_); refine goesL_ (some 6) rfl rfl Try.func24 (by kernel_rfl) rfl #[.slice A0 l0.length c0] rfl mxp ?_; (with_reducible refine (spec_RecOk.calls k _ _ l0 false _ ?side1 ?side2 A3.out).mono ?_); (case side1 => exact cx HR0.out); (case side2 => exact HC0.out); rintro e w7 ⟨rfl, hb⟩; refine ⟨_, rfl, ?_⟩; replace HB := bs HB hb; (try clear hb); (try clear hb2); (try clear hk); (try clear hi)))
  go_ret
  exact ⟨exq, bw HB.out⟩

end Go.Proofs.Ytdkologncoofdaa.P
-- Q5b
namespace Go.Proofs.Ytdkologncoofdaa.P
open Go.RowKit Go.Proofs.YtdkologncoofdaaW.PrintWords Go.Proofs.YtdkologncoofdaaW.PrintLast
set_option linter.unusedVariables false
set_option linter.unusedSimpArgs false

theorem map_le (l : List S48) (h : l.length ≤ 1048576) : (l.map to39).length ≤ 1048576 := by rw [List.length_map]; exact h

theorem spec_rb (l : List S39) (a : ByteArray) (k : Nat) (hk : 80 ≤ k) : spec_RecBound.f k l a = some (if recOk l = true then boundOf l a else 0) := by
  unfold spec_RecBound.f
  rw [spec_ok l k (by omega), Option.bind_some]
  by_cases h : recOk l = true
  · rw [if_pos h, if_pos h, spec_bd l h a k (by omega)]; rfl
  · rw [if_neg h, if_neg h]
theorem impl_rb (l : List S39) (a : ByteArray) (k : Nat) (hk : 80 ≤ k) : impl_RecBound.f k l a = some (if recOk l = true then boundOf l a else 0) := by
  unfold impl_RecBound.f
  rw [impl_ok l k (by omega), Option.bind_some]
  by_cases h : recOk l = true
  · rw [if_pos h, if_pos h, impl_bd l h a k (by omega)]; rfl
  · rw [if_neg h, if_neg h]

end Go.Proofs.Ytdkologncoofdaa.P
-- Q18
namespace Go.Proofs.Ytdkologncoofdaa.P
open Go.RowKit Go.Proofs.YtdkologncoofdaaW.PrintWords Go.Proofs.YtdkologncoofdaaW.PrintLast
set_option linter.unusedVariables false
set_option linter.unusedSimpArgs false
theorem rdOf_nat (l : List ByteArray) (i : Nat) : rdOf ByteArray.empty l (i : Int) = l.getD i ByteArray.empty := by simp [rdOf]
theorem getD_mem (l : List ByteArray) (i : Nat) (h : i < l.length) : l.getD i ByteArray.empty ∈ l := by
  rw [List.getD_eq_getElem?_getD, List.getElem?_eq_getElem h]; exact List.getElem_mem h
theorem texts_loop (l : List ByteArray) (hl : l.length ≤ 1048576) (d : Nat) : ∀ (i k : Nat), i ≤ l.length → l.length - i = d → d < k → laws_wTexts.l0 k l l (i : Int) = some true := by
  induction d with
  | zero =>
    intro i k hi hd hk
    obtain ⟨k, rfl⟩ : ∃ m, k = m + 1 := ⟨k - 1, by omega⟩
    rw [laws_wTexts.l0, if_neg (by omega)]
  | succ d ih =>
    intro i k hi hd hk
    obtain ⟨k, rfl⟩ : ∃ m, k = m + 1 := ⟨k - 1, by omega⟩
    rw [laws_wTexts.l0, if_pos (by omega), if_pos (by omega), if_pos (by omega), if_pos rfl, wrap_id (by omega) (by omega)]
    exact ih (i + 1) k (by omega) (by omega) (by omega)
theorem texts_self (l : List ByteArray) (hl : l.length ≤ 1048576) (k : Nat) (hk : l.length < k) : laws_wTexts.f k l l = some true := by
  unfold laws_wTexts.f
  rw [if_pos rfl]
  exact texts_loop l hl l.length 0 k (by omega) (by omega) hk
theorem has_loop (l : List ByteArray) (hl : l.length ≤ 1048576) (a : ByteArray) (h : ltr a ∈ l.map ltr) (d : Nat) : ∀ (i k : Nat), i ≤ l.length → l.length - i = d → (∀ j, j < i → ltr (l.getD j ByteArray.empty) ≠ ltr a) → d < k → laws_wHas.l0 k l a (i : Int) = some true := by
  induction d with
  | zero =>
    intro i k hi hd hb hk
    exfalso
    obtain ⟨x, hx, e⟩ := List.mem_map.1 h
    obtain ⟨j, hj, rfl⟩ := List.getElem_of_mem hx
    exact hb j (by omega) (by rw [List.getD_eq_getElem?_getD, List.getElem?_eq_getElem hj]; exact e)
  | succ d ih =>
    intro i k hi hd hb hk
    obtain ⟨k, rfl⟩ : ∃ m, k = m + 1 := ⟨k - 1, by omega⟩
    rw [laws_wHas.l0, if_pos (by omega), if_pos (by omega), rdOf_nat, ltr_eq, ltr_eq]
    by_cases e : ltr (l.getD i ByteArray.empty) = ltr a
    · rw [if_pos e]
    · rw [if_neg e, wrap_id (by omega) (by omega)]
      refine ih (i + 1) k (by omega) (by omega) (fun j hj => ?_) (by omega)
      by_cases e2 : j = i
      · subst e2; exact e
      · exact hb j (by omega)
theorem has_true (l : List ByteArray) (hl : l.length ≤ 1048576) (a : ByteArray) (h : ltr a ∈ l.map ltr) (k : Nat) (hk : l.length < k) : laws_wHas.f k l a = some true := has_loop l hl a h l.length 0 k (by omega) (by omega) (fun j hj => by omega) hk
theorem all_loop (a b : List ByteArray) (ha : a.length ≤ 1048576) (hb : b.length ≤ 1048576) (h : ∀ x ∈ a.map ltr, x ∈ b.map ltr) (d : Nat) : ∀ (i k : Nat), i ≤ a.length → a.length - i = d → d + b.length + 1 < k → laws_wAll.l0 k a b (i : Int) = some true := by
  induction d with
  | zero =>
    intro i k hi hd hk
    obtain ⟨k, rfl⟩ : ∃ m, k = m + 1 := ⟨k - 1, by omega⟩
    rw [laws_wAll.l0, if_neg (by omega)]
  | succ d ih =>
    intro i k hi hd hk
    obtain ⟨k, rfl⟩ : ∃ m, k = m + 1 := ⟨k - 1, by omega⟩
    rw [laws_wAll.l0, if_pos (by omega), if_pos (by omega), rdOf_nat, has_true b hb _ (h _ (List.mem_map_of_mem (getD_mem a i (by omega)))) k (by omega), Option.bind_some, if_pos rfl, wrap_id (by omega) (by omega)]
    exact ih (i + 1) k (by omega) (by omega) (by omega)
theorem all_true (a b : List ByteArray) (ha : a.length ≤ 1048576) (hb : b.length ≤ 1048576) (h : ∀ x ∈ a.map ltr, x ∈ b.map ltr) (k : Nat) (hk : a.length + b.length + 1 < k) : laws_wAll.f k a b = some true := all_loop a b ha hb h a.length 0 k (by omega) (by omega) (by omega)
end Go.Proofs.Ytdkologncoofdaa.P
-- Px48
namespace Go.Proofs.Ytdkologncoofdaa.P
open Go.RowKit Go.Proofs.YtdkologncoofdaaW.PrintWords Go.Proofs.YtdkologncoofdaaW.PrintLast Go.Proofs.YtdkologncoofdaaW.PrintMore
attribute [local go_sem] max2_int min2_int max_two min_two max_three min_three max_four min_four   -- for this text's walks alone
set_option linter.unusedVariables false
set_option linter.unusedSimpArgs false

/-! ### laws_eqRecState: function 43 -/
def laws_eqRecState.f (a0_0 : ByteArray) (a0_1 : Int) (a0_2 : Int) (a1_0 : ByteArray) (a1_1 : Int) (a1_2 : Int) : Option (Bool) := if a0_0.toList = a1_0.toList then (if a0_1 = a1_1 then (if a0_2 = a1_2 then (some true) else (some false)) else (some false)) else (some false)
set_option maxHeartbeats 8000000 in
set_option maxRecDepth 100000 in
theorem laws_eqRecState.calls (a0_0 : ByteArray) (a0_1 : Int) (a0_2 : Int) (a1_0 : ByteArray) (a1_1 : Int) (a1_2 : Int) (r : Bool) (w : World) (h : laws_eqRecState.f a0_0 a0_1 a0_2 a1_0 a1_1 a1_2 = some r) :
  Calls Try.prog 43 #[.agg #[.string a0_0, .int .i64 a0_1, .int .i64 a0_2], .agg #[.string a1_0, .int .i64 a1_1, .int .i64 a1_2]] w fun e w' => e = .returned (.bool r) ∧ Below w.heap.size w w' := by
 have H := Aside0.mk h
 clear h
 go_enter Try.func43, Try.ntmps43
 go_wp2
 all_goals
  go_ret
  refine ⟨?_, by repeat (first | exact Below.refl _ _ | apply below_alloc | apply pw_below_drewN | apply below_drew1)⟩
  have h := H.out
  simp_all [laws_eqRecState.f]

end Go.Proofs.Ytdkologncoofdaa.P
-- Q5
namespace Go.Proofs.Ytdkologncoofdaa.P
open Go.RowKit Go.Proofs.YtdkologncoofdaaW.PrintWords Go.Proofs.YtdkologncoofdaaW.PrintLast
set_option linter.unusedVariables false
set_option linter.unusedSimpArgs false

theorem map_le2 (l : List S48) (h : l.length ≤ 1048576) : (l.map to39).length ≤ 1048576 := by rw [List.length_map]; exact h

/-! ### The begin -/
def beginOf (l : List S39) : ByteArray × Int × Int := if recOk l = true then ((rd_T39 l 0).f0, 0, boundOf l (rd_T39 l 0).f0) else (⟨#[]⟩, 0, 0)
theorem spec_bg (l : List S39) (k : Nat) (hk : 80 ≤ k) : spec_RecBegin.f k l = some (beginOf l) := by
  unfold spec_RecBegin.f beginOf spec_l4At.f
  rw [spec_ok l k (by omega), Option.bind_some]
  by_cases h : recOk l = true
  · have := recOk_len l h
    rw [if_pos h, if_pos h, if_pos (by omega), spec_bd l h _ k (by omega)]; rfl
  · rw [if_neg h, if_neg h]
theorem impl_bg (l : List S39) (k : Nat) (hk : 80 ≤ k) : impl_RecBegin.f k l = some (beginOf l) := by
  unfold impl_RecBegin.f beginOf
  rw [impl_ok l k (by omega), Option.bind_some]
  by_cases h : recOk l = true
  · have := recOk_len l h
    rw [if_pos h, if_pos h, if_pos (by omega), impl_bd l h _ k (by omega)]; rfl
  · rw [if_neg h, if_neg h]
theorem eqState_self (a : ByteArray) (b c : Int) : laws_eqRecState.f a b c a b c = some true := by
  unfold laws_eqRecState.f
  simp

end Go.Proofs.Ytdkologncoofdaa.P
-- Q6
namespace Go.Proofs.Ytdkologncoofdaa.P
open Go.RowKit Go.Proofs.YtdkologncoofdaaW.PrintWords Go.Proofs.YtdkologncoofdaaW.PrintLast
set_option linter.unusedVariables false
set_option linter.unusedSimpArgs false

/-- How long a phase takes, and whether it goes well. -/
def tickOf (p : S39) (t : Int) (w : Bool) : Int := if max t 0 > p.f5 then p.f5 else if w = true ∧ p.f1 = 3 then max (max t 0) p.f4 else max t 0
def wellOf (p : S39) (t : Int) (w : Bool) : Bool := if max t 0 > p.f5 then false else w
def nextOf (p : S39) (t : Int) (w : Bool) : ByteArray := if wellOf p t w = true then p.f6 else p.f7
def canGo (l : List S39) (a : ByteArray) (now : Int) : Bool := recOk l && !(decide (atOf l a < 0)) && inB now 0 12000
def goOf (l : List S39) (a : ByteArray) (now left : Int) (t : Int) (w : Bool) : ByteArray × Int × Int × Bool :=
  if canGo l a now = true then (nextOf (rd_T39 l (atOf l a)) t w, now + tickOf (rd_T39 l (atOf l a)) t w, boundOf l (nextOf (rd_T39 l (atOf l a)) t w), true) else (a, now, left, false)

theorem phase_of (l : List S39) (h : recOk l = true) (a : ByteArray) (h0 : ¬ atOf l a < 0) : phOk (rd_T39 l (atOf l a)) = true := by
  have hr := atOf_range l a
  obtain ⟨i, hi⟩ := Int.eq_ofNat_of_zero_le (show 0 ≤ atOf l a by omega)
  have hok := recOk_at l h i (by omega)
  unfold okAt at hok
  simp only [Bool.and_eq_true] at hok
  rw [hi]
  exact hok.1.1.1
theorem ph_within (p : S39) (h : phOk p = true) : 1 ≤ p.f5 ∧ p.f5 ≤ 1000 := by
  unfold phOk at h
  simp only [Bool.and_eq_true, inB_iff] at h
  exact h.1.1.1.2
theorem ph_hold (p : S39) (h : phOk p = true) (h3 : p.f1 = 3) : 1 ≤ p.f4 ∧ p.f4 ≤ p.f5 := by
  unfold phOk argsOk at h
  rw [if_neg (by omega), if_neg (by omega), if_pos h3] at h
  simp only [Bool.and_eq_true, inB_iff] at h
  exact h.1.1.2.2
theorem tick_range (p : S39) (h : phOk p = true) (t : Int) (w : Bool) : 0 ≤ tickOf p t w ∧ tickOf p t w ≤ p.f5 := by
  have := ph_within p h
  unfold tickOf
  split
  · omega
  · split
    · rename_i h3
      have := ph_hold p h h3.2
      omega
    · omega

theorem impl_go_j1 (l : List S39) (h : recOk l = true) (t : Int) (w : Bool) (a : ByteArray) (now left : Int) (p : S39) (k : Nat) (hk : 28 ≤ k) (hp : phOk p = true) (ht : 0 ≤ t ∧ t ≤ 1000) (hn : 0 ≤ now ∧ now ≤ 12000) :
    impl_RecGo.j1 k l t w a now left p.f0 p.f1 p.f2 p.f3 p.f4 p.f5 p.f6 p.f7 = some (if w = true then p.f6 else p.f7, now + (if w = true ∧ p.f1 = 3 then max t p.f4 else t), boundOf l (if w = true then p.f6 else p.f7), true) := by
  obtain ⟨k, rfl⟩ : ∃ m, k = m + 1 := ⟨k - 1, by omega⟩
  simp only [impl_RecGo.j1, impl_bd l h _ k (by omega), Option.bind_some]
  cases w
  · rw [if_neg (by decide), if_neg (by decide), if_neg (by simp), wrap_id (by omega) (by omega)]
  · by_cases h3 : p.f1 = 3
    · have := ph_hold p hp h3
      have := ph_within p hp
      rw [if_pos rfl, if_pos h3, if_pos rfl, if_pos ⟨rfl, h3⟩, mx_eq, wrap_id (by omega) (by omega)]
    · rw [if_pos rfl, if_neg h3, if_pos rfl, if_neg (fun z => h3 z.2), wrap_id (by omega) (by omega)]
theorem impl_go_j0 (l : List S39) (h : recOk l = true) (t : Int) (w : Bool) (a : ByteArray) (now left : Int) (k : Nat) (hk : 29 ≤ k) (h0 : ¬ atOf l a < 0) (hn : 0 ≤ now ∧ now ≤ 12000) :
    impl_RecGo.j0 k l false a now left t w = some (nextOf (rd_T39 l (atOf l a)) t w, now + tickOf (rd_T39 l (atOf l a)) t w, boundOf l (nextOf (rd_T39 l (atOf l a)) t w), true) := by
  obtain ⟨k, rfl⟩ : ∃ m, k = m + 1 := ⟨k - 1, by omega⟩
  have hp := phase_of l h a h0
  have hr := atOf_range l a
  have hw := ph_within _ hp
  simp only [impl_RecGo.j0, impl_at.f, Option.bind_some, mx_eq]
  rw [if_neg (by decide), if_pos (by omega), if_pos (by omega)]
  unfold nextOf wellOf tickOf
  by_cases c : max t 0 > (rd_T39 l (atOf l a)).f5
  · rw [if_pos c, if_pos c, if_pos c, impl_go_j1 l h _ _ a now left _ k (by omega) hp (by omega) hn]
    simp
  · rw [if_neg c, if_neg c, if_neg c, impl_go_j1 l h _ _ a now left _ k (by omega) hp (by omega) hn]
theorem impl_go (l : List S39) (a : ByteArray) (now left : Int) (t : Int) (w : Bool) (k : Nat) (hk : 80 ≤ k) : impl_RecGo.f k l a now left t w = some (goOf l a now left t w) := by
  have hj : impl_RecGo.j0 k l true a now left t w = some (a, now, left, false) := by
    obtain ⟨k, rfl⟩ : ∃ m, k = m + 1 := ⟨k - 1, by omega⟩
    simp [impl_RecGo.j0]
  unfold impl_RecGo.f goOf canGo
  rw [impl_ok l k (by omega), Option.bind_some]
  cases h : recOk l
  · rw [if_neg (by decide), hj]; simp
  · rw [if_pos rfl]
    simp only [impl_at.f, Option.bind_some, impl_in']
    by_cases h0 : atOf l a < 0
    · rw [if_pos h0, hj]; simp [h0]
    · rw [if_neg h0]
      cases hn : inB now 0 12000
      · simp only [Bool.not_false]; rw [hj]; simp
      · simp only [Bool.not_true]
        rw [impl_go_j0 l h t w a now left k (by omega) h0 (by simpa using inB_iff.1 hn)]
        simp [h0]

theorem spec_at4 (l : List S39) (h : recOk l = true) (a : ByteArray) (n : Int) (k : Nat) (hk : 27 ≤ k) : spec_l4At.f k l a n = some (a, n, boundOf l a) := by
  unfold spec_l4At.f
  rw [spec_bd l h a k hk]; rfl
theorem spec_go_j3 (l : List S39) (h : recOk l = true) (t : Int) (w : Bool) (a : ByteArray) (now left : Int) (p : S39) (k : Nat) (hk : 28 ≤ k) (ht : 0 ≤ t ∧ t ≤ 1000) (hn : 0 ≤ now ∧ now ≤ 12000) :
    spec_l4Go.j3 k l t w a now left p.f0 p.f1 p.f2 p.f3 p.f4 p.f5 p.f6 p.f7 = some (if w = true then p.f6 else p.f7, now + t, boundOf l (if w = true then p.f6 else p.f7)) := by
  obtain ⟨k, rfl⟩ : ∃ m, k = m + 1 := ⟨k - 1, by omega⟩
  simp only [spec_l4Go.j3, spec_at4 l h _ _ k (show 27 ≤ k by omega), Option.bind_some]
  cases w
  · rw [if_neg (by decide), if_neg (by decide), wrap_id (by omega) (by omega)]
  · rw [if_pos rfl, if_pos rfl, wrap_id (by omega) (by omega)]
theorem spec_go_j0 (l : List S39) (h : recOk l = true) (t : Int) (w : Bool) (a : ByteArray) (now left : Int) (p : S39) (k : Nat) (hk : 40 ≤ k) (hp : phOk p = true) (hn : 0 ≤ now ∧ now ≤ 12000) :
    spec_l4Go.j0 k l t w (decide (w = true ∧ p.f1 = 3 ∧ t < p.f4)) a now left p.f0 p.f1 p.f2 p.f3 p.f4 p.f5 p.f6 p.f7 = some (nextOf p t w, now + tickOf p t w, boundOf l (nextOf p t w)) := by
  obtain ⟨k, rfl⟩ : ∃ m, k = m + 3 := ⟨k - 3, by omega⟩
  have hw := ph_within p hp
  have hj : ∀ (x : Int) (b : Bool), (x > p.f5 → spec_l4Go.j1 (k + 2) l x b a now left p.f0 p.f1 p.f2 p.f3 p.f4 p.f5 p.f6 p.f7 = some (p.f7, now + p.f5, boundOf l p.f7)) ∧
      (¬ x > p.f5 → spec_l4Go.j1 (k + 2) l x b a now left p.f0 p.f1 p.f2 p.f3 p.f4 p.f5 p.f6 p.f7 = some (if b = true then p.f6 else p.f7, now + max x 0, boundOf l (if b = true then p.f6 else p.f7))) := by
    intro x b
    refine ⟨fun hx => ?_, fun hx => ?_⟩
    · simp only [spec_l4Go.j1, spec_l4Go.j2]
      rw [if_pos hx, if_neg (by omega), spec_go_j3 l h p.f5 false a now left p k (by omega) (by omega) hn, if_neg (by decide)]
    · simp only [spec_l4Go.j1, spec_l4Go.j2]
      rw [if_neg hx]
      by_cases h0 : x < 0
      · rw [if_pos h0, spec_go_j3 l h 0 b a now left p k (by omega) (by omega) hn, Int.max_eq_right (by omega)]
      · rw [if_neg h0, spec_go_j3 l h x b a now left p k (by omega) (by omega) hn, Int.max_eq_left (by omega)]
  simp only [spec_l4Go.j0]
  unfold nextOf wellOf tickOf
  by_cases c : w = true ∧ p.f1 = 3 ∧ t < p.f4
  · obtain ⟨rfl, h3, h4⟩ := c
    have hh := ph_hold p hp h3
    rw [if_pos (by simp [h3, h4]), (hj p.f4 true).2 (by omega)]
    have e1 : ¬ max t 0 > p.f5 := by omega
    rw [if_neg e1, if_neg e1, if_pos rfl, if_pos (⟨rfl, h3⟩ : true = true ∧ p.f1 = 3), Int.max_eq_left (by omega), Int.max_eq_right (by omega)]
  · rw [if_neg (by simpa using c)]
    by_cases e1 : max t 0 > p.f5
    · rw [(hj t w).1 (by omega), if_pos e1, if_pos e1, if_neg (by decide)]
    · rw [(hj t w).2 (by omega), if_neg e1, if_neg e1]
      by_cases c2 : w = true ∧ p.f1 = 3
      · have : ¬ t < p.f4 := fun z => c ⟨c2.1, c2.2, z⟩
        have hh := ph_hold p hp c2.2
        rw [if_pos c2, Int.max_eq_left (show 0 ≤ t by omega), Int.max_eq_left (by omega)]
      · rw [if_neg c2]
theorem spec_l4 (l : List S39) (h : recOk l = true) (t : Int) (w : Bool) (a : ByteArray) (now left : Int) (k : Nat) (hk : 40 ≤ k) (h0 : ¬ atOf l a < 0) (hn : 0 ≤ now ∧ now ≤ 12000) :
    spec_l4Go.f k l a now left (atOf l a) t w = some (nextOf (rd_T39 l (atOf l a)) t w, now + tickOf (rd_T39 l (atOf l a)) t w, boundOf l (nextOf (rd_T39 l (atOf l a)) t w)) := by
  have hp := phase_of l h a h0
  have hr := atOf_range l a
  rw [← spec_go_j0 l h t w a now left _ k hk hp hn]
  unfold spec_l4Go.f
  rw [if_pos (by omega), if_pos (by omega)]
  by_cases h3 : (rd_T39 l (atOf l a)).f1 = 3
  · rw [if_pos h3]
    cases w
    · rw [if_neg (by decide)]; simp
    · rw [if_pos rfl]; simp [h3]
  · rw [if_neg h3]; simp [h3]
theorem spec_go (l : List S39) (hl : l.length ≤ 1048576) (a : ByteArray) (now left : Int) (t : Int) (w : Bool) (k : Nat) (hk : 1048577 < k) : spec_RecGo.f k l a now left t w = some (goOf l a now left t w) := by
  unfold spec_RecGo.f goOf canGo
  rw [spec_at l a (by omega) k (by omega), Option.bind_some, spec_ok l k (by omega), Option.bind_some]
  cases h : recOk l
  · rw [if_neg (by decide)]; simp
  · rw [if_pos rfl]
    by_cases h0 : atOf l a < 0
    · rw [if_pos h0]; simp [h0]
    · rw [if_neg h0, spec_in, Option.bind_some]
      cases hn : inB now 0 12000
      · rw [if_neg (by decide)]; simp
      · rw [if_pos rfl, spec_l4 l h t w a now left k (by omega) h0 (by simpa using inB_iff.1 hn)]
        simp [h0]

end Go.Proofs.Ytdkologncoofdaa.P
-- Q9
namespace Go.Proofs.Ytdkologncoofdaa.P
open Go.RowKit Go.Proofs.YtdkologncoofdaaW.PrintWords Go.Proofs.YtdkologncoofdaaW.PrintLast
set_option linter.unusedVariables false
set_option linter.unusedSimpArgs false

/-- How phase number i is said to go. -/
def sayT (says : List S43) (i : Nat) : Int := if (i : Int) < (says.length : Int) then (rd_T43 says i).f0 else 1001
def sayW (says : List S43) (i : Nat) : Bool := if (i : Int) < (says.length : Int) then (rd_T43 says i).f1 else false
/-- A run that has come to a state, its path so far behind it. -/
def runFrom (l : List S39) (says : List S43) : Nat → List ByteArray → Nat → ByteArray × Int × Int → ByteArray × Int × Int × List ByteArray
  | 0, acc, _, s => (s.1, s.2.1, s.2.2, acc)
  | n + 1, acc, i, s => if endOf s.1 = 0 then runFrom l says n (acc ++ [s.1]) (i + 1) ((goOf l s.1 s.2.1 s.2.2 (sayT says i) (sayW says i)).1, (goOf l s.1 s.2.1 s.2.2 (sayT says i) (sayW says i)).2.1, (goOf l s.1 s.2.1 s.2.2 (sayT says i) (sayW says i)).2.2.1) else (s.1, s.2.1, s.2.2, acc)
def runOf (l : List S39) (says : List S43) : ByteArray × Int × Int × List ByteArray := if recOk l = true then runFrom l says 13 [] 0 (beginOf l) else (⟨#[]⟩, 0, 0, [])

/-- A place of a run: a phase or an end; and the ticks fit. -/
def At (l : List S39) (s : ByteArray × Int × Int) : Prop := (endOf s.1 = 0 → ¬ atOf l s.1 < 0) ∧ 0 ≤ s.2.1 ∧ s.2.1 + 1000 * (rk l s.1 : Int) ≤ 12000
theorem ref_at (l : List S39) (i : Int) (h0 : 0 ≤ i) (n : ByteArray) (h : refOk l i n = true) : endOf n = 0 → ¬ atOf l n < 0 := by
  intro he hn
  unfold refOk at h
  rw [he] at h
  simp only [Bool.or_eq_true, decide_eq_true_eq] at h
  rcases h with h | h
  · cases h
  · omega
theorem begin_at (l : List S39) (h : recOk l = true) : At l (beginOf l) := by
  have hl := recOk_len l h
  have hok := recOk_at l h 0 (by omega)
  unfold okAt at hok
  simp only [Bool.and_eq_true, beq_iff_eq] at hok
  unfold beginOf
  rw [if_pos h]
  have e : rd_T39 l ((0 : Nat) : Int) = rd_T39 l 0 := rfl
  rw [e] at hok
  refine ⟨fun _ => ?_, by simp, ?_⟩
  · simp only; omega
  · have := rk_le l h (rd_T39 l 0).f0
    simp only; omega
theorem go_can (l : List S39) (h : recOk l = true) (s : ByteArray × Int × Int) (hs : At l s) (he : endOf s.1 = 0) : canGo l s.1 s.2.1 = true := by
  unfold canGo
  rw [h, show decide (atOf l s.1 < 0) = false from decide_eq_false (hs.1 he), inB_iff.2 ⟨hs.2.1, by have := hs.2.2; omega⟩]
  rfl
theorem go_at (l : List S39) (h : recOk l = true) (s : ByteArray × Int × Int) (hs : At l s) (he : endOf s.1 = 0) (t : Int) (w : Bool) :
    At l ((goOf l s.1 s.2.1 s.2.2 t w).1, (goOf l s.1 s.2.1 s.2.2 t w).2.1, (goOf l s.1 s.2.1 s.2.2 t w).2.2.1) ∧ rk l (goOf l s.1 s.2.1 s.2.2 t w).1 < rk l s.1 := by
  have hc := go_can l h s hs he
  have h0 := hs.1 he
  have hp := phase_of l h s.1 h0
  have hx := ok_ref l h s.1 h0
  have ht := tick_range _ hp t w
  have hr := atOf_range l s.1
  obtain ⟨i, hi⟩ := Int.eq_ofNat_of_zero_le (show 0 ≤ atOf l s.1 by omega)
  have hok := recOk_at l h i (by omega)
  unfold okAt at hok
  simp only [Bool.and_eq_true] at hok
  rw [← hi] at hok
  have hn : rk l (nextOf (rd_T39 l (atOf l s.1)) t w) < rk l s.1 ∧ (endOf (nextOf (rd_T39 l (atOf l s.1)) t w) = 0 → ¬ atOf l (nextOf (rd_T39 l (atOf l s.1)) t w) < 0) := by
    unfold nextOf
    split
    · exact ⟨hx.1, ref_at l _ (by omega) _ hok.1.2⟩
    · exact ⟨hx.2.1, ref_at l _ (by omega) _ hok.2⟩
  unfold goOf
  rw [if_pos hc]
  refine ⟨⟨hn.2, ?_, ?_⟩, hn.1⟩
  · have := hs.2.1
    simp only; omega
  · have := hs.2.2
    have := hn.1
    simp only; omega

theorem impl_run_loop (l : List S39) (says : List S43) (h : recOk l = true) (n : Nat) : ∀ (acc : List ByteArray) (i k : Nat) (s : ByteArray × Int × Int), At l s → rk l s.1 < n → acc.length + n ≤ 1000 → i + n ≤ 1000 → n + 100 ≤ k →
    impl_RecRun.l0 k l says acc (i : Int) s.1 s.2.1 s.2.2 = some (runFrom l says n acc i s) := by
  induction n with
  | zero => intro acc i k s _ hn; omega
  | succ n ih =>
    intro acc i k s hs hn ha hi hk
    obtain ⟨k, rfl⟩ : ∃ m, k = m + 1 := ⟨k - 1, by omega⟩
    have he : impl_RecEnd.f k s.1 = some (endOf s.1) := by
      obtain ⟨q, rfl⟩ : ∃ q, k = q + 4 := ⟨k - 4, by omega⟩
      exact impl_end _ q
    simp only [impl_RecRun.l0, he, Option.bind_some, runFrom]
    by_cases c : endOf s.1 = 0
    · have hg := go_at l h s hs c (sayT says i) (sayW says i)
      have hw : wrap64 ((i : Int) + 1) = ((i + 1 : Nat) : Int) := by rw [wrap_id (by omega) (by omega)]; omega
      have := ih (acc ++ [s.1]) (i + 1) k _ hg.1 (by simp only; omega) (by simp; omega) (by omega) (by omega)
      rw [if_pos c, if_pos (by omega), if_pos c]
      unfold sayT sayW at this ⊢
      by_cases c2 : (i : Int) < (says.length : Int)
      · rw [if_pos c2, if_pos c2] at this
        rw [if_pos c2, if_pos (by omega), impl_go l _ _ _ _ _ k (by omega), Option.bind_some, hw, if_pos c2, if_pos c2]
        exact this
      · rw [if_neg c2, if_neg c2] at this
        rw [if_neg c2, impl_go l _ _ _ _ _ k (by omega), Option.bind_some, hw, if_neg c2, if_neg c2]
        exact this
    · rw [if_neg c, if_neg c]
theorem impl_run (l : List S39) (says : List S43) (k : Nat) (hk : 200 ≤ k) : impl_RecRun.f k l says = some (runOf l says) := by
  unfold impl_RecRun.f runOf
  rw [impl_ok l k (by omega), Option.bind_some]
  by_cases h : recOk l = true
  · rw [if_pos h, if_pos h, impl_bg l k (by omega), Option.bind_some]
    exact impl_run_loop l says h 13 [] 0 k (beginOf l) (begin_at l h) (by have := rk_le l h (beginOf l).1; omega) (by simp) (by omega) (by omega)
  · rw [if_neg h, if_neg h]

theorem spec_run_loop (l : List S39) (says : List S43) (h : recOk l = true) (n : Nat) : ∀ (acc : List ByteArray) (i k : Nat) (s : ByteArray × Int × Int), At l s → rk l s.1 < n → acc.length + n ≤ 1000 → i + n ≤ 1000 → 2 * n + 1048600 ≤ k →
    spec_RecRun.l0 k l says acc (i : Int) s.1 s.2.1 s.2.2 = some (runFrom l says n acc i s) := by
  induction n with
  | zero => intro acc i k s _ hn; omega
  | succ n ih =>
    intro acc i k s hs hn ha hi hk
    obtain ⟨k, rfl⟩ : ∃ m, k = m + 2 := ⟨k - 2, by omega⟩
    have hl := recOk_len l h
    simp only [spec_RecRun.l0, spec_ok l (k + 1) (by omega), spec_at l _ (show l.length ≤ 9223372036854775807 by omega) (k + 1) (by omega), Option.bind_some]
    rw [if_pos h]
    simp only [spec_RecRun.j1, runFrom]
    by_cases c : endOf s.1 = 0
    · have h0 := hs.1 c
      have hg := go_at l h s hs c (sayT says i) (sayW says i)
      have hw : wrap64 ((i : Int) + 1) = ((i + 1 : Nat) : Int) := by rw [wrap_id (by omega) (by omega)]; omega
      have := ih (acc ++ [s.1]) (i + 1) k _ hg.1 (by simp only; omega) (by simp; omega) (by omega) (by omega)
      rw [if_pos (decide_eq_true (by omega)), if_pos c]
      unfold sayT sayW at this ⊢
      by_cases c2 : (i : Int) < (says.length : Int)
      · rw [if_pos c2, if_pos c2] at this
        rw [if_pos c2, if_pos (by omega), if_pos (by omega), spec_go l (by omega) _ _ _ _ _ k (by omega), Option.bind_some, hw, if_pos c2, if_pos c2]
        exact this
      · rw [if_neg c2, if_neg c2] at this
        rw [if_neg c2, if_pos (by omega), spec_go l (by omega) _ _ _ _ _ k (by omega), Option.bind_some, hw, if_neg c2, if_neg c2]
        exact this
    · have := end_no l h s.1 c
      rw [if_neg (by simp; omega), if_neg c]
theorem spec_run (l : List S39) (says : List S43) (k : Nat) (hk : 1048630 ≤ k) : spec_RecRun.f k l says = some (runOf l says) := by
  unfold spec_RecRun.f runOf
  rw [spec_bg l k (by omega), Option.bind_some]
  by_cases h : recOk l = true
  · rw [if_pos h]
    exact spec_run_loop l says h 13 [] 0 k (beginOf l) (begin_at l h) (by have := rk_le l h (beginOf l).1; omega) (by simp) (by omega) (by omega)
  · rw [if_neg h]
    obtain ⟨k, rfl⟩ : ∃ m, k = m + 2 := ⟨k - 2, by omega⟩
    simp only [spec_RecRun.l0, spec_ok l (k + 1) (by omega), Option.bind_some]
    rw [if_neg h]
    simp only [spec_RecRun.j1]
    rw [if_neg (by decide)]
    unfold beginOf
    rw [if_neg h]

end Go.Proofs.Ytdkologncoofdaa.P
-- Q7
namespace Go.Proofs.Ytdkologncoofdaa.P
open Go.RowKit Go.Proofs.YtdkologncoofdaaW.PrintWords Go.Proofs.YtdkologncoofdaaW.PrintLast
set_option linter.unusedVariables false
set_option linter.unusedSimpArgs false

theorem xor64 (a b : Int) (h1 : 0 ≤ a) (h2 : a < 4611686018427387904) (h3 : 0 ≤ b) (h4 : b < 4611686018427387904) : 0 ≤ Go.bits .xor .i64 a b ∧ Go.bits .xor .i64 a b < 4611686018427387904 := by
  obtain ⟨A, rfl⟩ := Int.eq_ofNat_of_zero_le h1
  obtain ⟨B, rfl⟩ := Int.eq_ofNat_of_zero_le h3
  have hx : A ^^^ B < 2 ^ 62 := Nat.xor_lt_two_pow (by omega) (by omega)
  have e : Go.bits .xor .i64 (A : Int) (B : Int) = ((A ^^^ B : Nat) : Int) := by
    show IntKind.i64.wrap ((BitVec.ofInt 64 (A : Int) ^^^ BitVec.ofInt 64 (B : Int)).toNat : Int) = _
    rw [i64_w, BitVec.toNat_xor, show (BitVec.ofInt 64 (A : Int)).toNat = A from by simp [BitVec.toNat_ofInt]; omega, show (BitVec.ofInt 64 (B : Int)).toNat = B from by simp [BitVec.toNat_ofInt]; omega]
    exact wrap_id (by omega) (by omega)
  rw [e]
  omega

/-- A reader's bytes. -/
def Bytes (b : List Int) : Prop := b.length ≤ 2000 ∧ ∀ x ∈ b, 0 ≤ x ∧ x ≤ 255
theorem Bytes.rd_ok {b : List Int} (h : Bytes b) (i : Int) : 0 ≤ rd b i ∧ rd b i ≤ 255 := by
  unfold rd
  rw [List.getD_eq_getElem?_getD]
  cases e : b[i.toNat]? with
  | none => simp
  | some x => simpa using h.2 x (List.mem_of_getElem? e)
theorem tmod_pos {x n : Int} (h : 0 ≤ x) (hn : 1 ≤ n) : 0 ≤ Int.tmod x n ∧ Int.tmod x n < n := ⟨Int.tmod_nonneg _ h, Int.tmod_lt_of_pos _ (by omega)⟩

theorem pick_ok {b : List Int} (hb : Bytes b) {p : Int} (h0 : 0 ≤ p) (h1 : p ≤ 1000000000) (n : Int) (k : Nat) (hk : 1 ≤ k) :
    ∃ v, spec_l1Rd_pick.f k b p n = some (v, p + 1) ∧ 0 ≤ v ∧ (1 ≤ n → v < n) := by
  obtain ⟨k, rfl⟩ : ∃ m, k = m + 1 := ⟨k - 1, by omega⟩
  have hl := hb.1
  unfold spec_l1Rd_pick.f
  rw [wrap_id (x := p + 1) (by omega) (by omega)]
  by_cases c : n < 1
  · rw [if_pos c]
    simp only [spec_l1Rd_pick.j0]
    rw [if_pos trivial]
    exact ⟨0, rfl, by omega, fun z => by omega⟩
  · rw [if_neg c]
    simp only [spec_l1Rd_pick.j0]
    by_cases e : (b.length : Int) = 0
    · rw [if_pos (by simpa using e)]
      exact ⟨0, rfl, by omega, fun z => by omega⟩
    · rw [if_neg (by simpa using e), show wrap64 (p + 1 - 1) = p from by rw [wrap_id (by omega) (by omega)]; omega]
      by_cases hp : p < (b.length : Int)
      · rw [if_pos hp, if_pos h0, if_neg (by omega)]
        have hr := hb.rd_ok p
        rw [wrap_id (by omega) (by omega)]
        have := tmod_pos hr.1 (show 1 ≤ n by omega)
        exact ⟨_, rfl, this.1, fun _ => this.2⟩
      · have hL : 1 ≤ (b.length : Int) := by omega
        have m1 := tmod_pos h0 hL
        have w7 : wrap64 (p * 7) = p * 7 := wrap_id (by omega) (by omega)
        have w73 : wrap64 (p * 7 + 3) = p * 7 + 3 := wrap_id (by omega) (by omega)
        have m2 := tmod_pos (show 0 ≤ p * 7 + 3 by omega) hL
        rw [if_neg hp, if_neg e, w7, w73, if_pos m1.1, if_pos m1.2, if_pos m2.1, if_pos m2.2, if_neg (by omega)]
        have r1 := hb.rd_ok (Int.tmod p b.length)
        have r2 := hb.rd_ok (Int.tmod (p * 7 + 3) b.length)
        generalize rd b (Int.tmod p b.length) = x1 at r1 ⊢
        generalize rd b (Int.tmod (p * 7 + 3) b.length) = x2 at r2 ⊢
        have d1 : 0 ≤ Int.tdiv p b.length ∧ Int.tdiv p b.length ≤ p := ⟨Int.tdiv_nonneg h0 (by omega), by rw [Int.tdiv_eq_ediv_of_nonneg h0]; exact Int.ediv_le_self _ h0⟩
        generalize Int.tdiv p b.length = dd at d1 ⊢
        have e1 : wrap64 x1 = x1 := wrap_id (by omega) (by omega)
        have e2 : wrap64 x2 = x2 := wrap_id (by omega) (by omega)
        have e3 : wrap64 dd = dd := wrap_id (by omega) (by omega)
        have e4 : wrap64 (x1 * 131) = x1 * 131 := wrap_id (by omega) (by omega)
        have e5 : wrap64 (x2 * 1117) = x2 * 1117 := wrap_id (by omega) (by omega)
        have e6 : wrap64 (x1 * 131 + x2 * 1117) = x1 * 131 + x2 * 1117 := wrap_id (by omega) (by omega)
        have e7 : wrap64 (p * 29) = p * 29 := wrap_id (by omega) (by omega)
        have e8 : wrap64 (x1 * 131 + x2 * 1117 + p * 29) = x1 * 131 + x2 * 1117 + p * 29 := wrap_id (by omega) (by omega)
        have e9 : wrap64 (dd * 53) = dd * 53 := wrap_id (by omega) (by omega)
        have e10 : wrap64 (x1 * 131 + x2 * 1117 + p * 29 + dd * 53) = x1 * 131 + x2 * 1117 + p * 29 + dd * 53 := wrap_id (by omega) (by omega)
        rw [e1, e2, e3, e4, e5, e6, e7, e8, e9, e10]
        have hy : 0 ≤ x1 * 131 + x2 * 1117 + p * 29 + dd * 53 ∧ x1 * 131 + x2 * 1117 + p * 29 + dd * 53 < 4611686018427387904 := by omega
        generalize x1 * 131 + x2 * 1117 + p * 29 + dd * 53 = y at hy ⊢
        have hq : 0 ≤ Int.tdiv y 64 ∧ Int.tdiv y 64 ≤ y := ⟨Int.tdiv_nonneg hy.1 (by omega), by rw [Int.tdiv_eq_ediv_of_nonneg hy.1]; exact Int.ediv_le_self _ hy.1⟩
        rw [wrap_id (x := Int.tdiv y 64) (by omega) (by omega)]
        have hxor := xor64 y (Int.tdiv y 64) hy.1 hy.2 hq.1 (by omega)
        have := tmod_pos hxor.1 (show 1 ≤ n by omega)
        exact ⟨_, rfl, this.1, fun _ => this.2⟩
theorem of_ok {b : List Int} (hb : Bytes b) {p : Int} (h0 : 0 ≤ p) (h1 : p ≤ 1000000000) (l : List ByteArray) (hl : 1 ≤ l.length) (k : Nat) (hk : 1 ≤ k) :
    ∃ v, spec_l1Rd_of.f k b p l = some (v, p + 1) ∧ v ∈ l := by
  obtain ⟨v, hv, h2, h3⟩ := pick_ok hb h0 h1 (l.length : Int) k hk
  have h3 := h3 (by omega)
  unfold spec_l1Rd_of.f
  rw [hv, Option.bind_some, if_pos h2, if_pos h3]
  refine ⟨_, rfl, ?_⟩
  simp only [rdOf]
  rw [List.getD_eq_getElem?_getD, List.getElem?_eq_getElem (show v.toNat < l.length by omega)]
  exact List.getElem_mem _
theorem slot_ok {b : List Int} (hb : Bytes b) {p : Int} (h0 : 0 ≤ p) (h1 : p ≤ 1000000000) (k : Nat) (hk : 1 ≤ k) : ∃ v, spec_l5Slot.f k b p = some (v, p + 1) := by
  unfold spec_l5Slot.f
  obtain ⟨v, hv, _⟩ := of_ok hb h0 h1 ([(⟨#[115, 49]⟩ : ByteArray), (⟨#[115, 49]⟩ : ByteArray), (⟨#[115, 50]⟩ : ByteArray), (⟨#[115, 51]⟩ : ByteArray), (⟨#[107, 101, 103]⟩ : ByteArray)]) (by simp) k hk
  exact ⟨v, by rw [hv]; rfl⟩
/-- The eight cells of a phase beside where the reader then is. -/
def tup (x : S39) (p : Int) : ByteArray × Int × ByteArray × ByteArray × Int × Int × ByteArray × ByteArray × Int := (x.f0, x.f1, x.f2, x.f3, x.f4, x.f5, x.f6, x.f7, p)
theorem ph_j0 {b : List Int} (hb : Bytes b) {p : Int} (h0 : 0 ≤ p) (h1 : p ≤ 900000000) (l : List ByteArray) (hl : l.length ≤ 1000) (n : ByteArray) (kd : Int) (A B : ByteArray) (N W : Int) (T E : ByteArray) (k : Nat) (hk : 2 ≤ k) :
    ∃ (x : S39) (q : Int), spec_l5Phase.j0 k l b p n kd A B N W T E = some (tup x q) ∧ p ≤ q ∧ q ≤ p + 3 := by
  obtain ⟨k, rfl⟩ : ∃ m, k = m + 1 := ⟨k - 1, by omega⟩
  simp only [spec_l5Phase.j0, Option.bind_some]
  rw [if_pos (by simp; omega)]
  generalize hy : ([(⟨#[103, 111, 111, 100]⟩ : ByteArray), (⟨#[115, 97, 118, 101, 100]⟩ : ByteArray), (⟨#[115, 99, 114, 97, 112, 112, 101, 100]⟩ : ByteArray)] ++ l) = y
  have hyl : 1 ≤ y.length := by rw [← hy]; simp
  obtain ⟨v1, e1, _⟩ := of_ok hb h0 (show p ≤ 1000000000 by omega) y hyl k (by omega)
  obtain ⟨v2, e2, _⟩ := of_ok hb (show 0 ≤ p + 1 by omega) (by omega) y hyl k (by omega)
  rw [e1]
  simp only [Option.bind_some]
  rw [e2]
  simp only [Option.bind_some]
  by_cases c : (l.length : Int) > 0
  · rw [if_pos c]
    obtain ⟨v3, e3, _, _⟩ := pick_ok hb (show 0 ≤ p + 1 + 1 by omega) (by omega) 4 k (by omega)
    rw [e3]
    simp only [Option.bind_some]
    by_cases c2 : v3 > 0
    · rw [if_pos c2, if_pos c]
      exact ⟨⟨n, kd, A, B, N, W, _, v2⟩, _, rfl, by omega, by omega⟩
    · rw [if_neg c2]
      exact ⟨⟨n, kd, A, B, N, W, v1, v2⟩, _, rfl, by omega, by omega⟩
  · rw [if_neg c]
    exact ⟨⟨n, kd, A, B, N, W, v1, v2⟩, _, rfl, by omega, by omega⟩
theorem drawn_phase {b : List Int} (hb : Bytes b) {p : Int} (h0 : 0 ≤ p) (h1 : p ≤ 800000000) (n : ByteArray) (l : List ByteArray) (hl : l.length ≤ 1000) (k : Nat) (hk : 2 ≤ k) :
    ∃ (x : S39) (q : Int), spec_l5Phase.f k b p n l = some (tup x q) ∧ p ≤ q ∧ q ≤ p + 20 := by
  unfold spec_l5Phase.f
  obtain ⟨v1, e1, r1, s1⟩ := pick_ok hb h0 (show p ≤ 1000000000 by omega) 5 k (by omega)
  obtain ⟨v2, e2⟩ := slot_ok hb (show 0 ≤ p + 1 by omega) (by omega) k (by omega)
  obtain ⟨v3, e3, r3, s3⟩ := pick_ok hb (show 0 ≤ p + 1 + 1 by omega) (by omega) 20 k (by omega)
  rw [e1]; simp only [Option.bind_some]
  rw [e2]; simp only [Option.bind_some]
  rw [e3]; simp only [Option.bind_some]
  have hj := fun (q : Int) (hq : p ≤ q) (hq2 : q ≤ p + 17) n kd A B N W T E => ph_j0 hb (show 0 ≤ q by omega) (show q ≤ 900000000 by omega) l hl n kd A B N W T E k hk
  split
  · obtain ⟨v4, e4, _⟩ := of_ok hb (show 0 ≤ p + 1 + 1 + 1 by omega) (by omega) [(⟨#[97, 108, 101]⟩ : ByteArray), (⟨#[109, 97, 108, 116]⟩ : ByteArray)] (by simp) k (by omega)
    obtain ⟨v5, e5, _, _⟩ := pick_ok hb (show 0 ≤ p + 1 + 1 + 1 + 1 by omega) (by omega) 30 k (by omega)
    rw [e4]; simp only [Option.bind_some]
    rw [e5]; simp only [Option.bind_some]
    obtain ⟨x, q, hx, ha, hz⟩ := hj (p + 1 + 1 + 1 + 1 + 1) (by omega) (by omega) n (wrap64 (1 + v1)) v2 v4 (wrap64 (1 + v5)) (wrap64 (1 + v3)) ⟨#[]⟩ ⟨#[]⟩
    exact ⟨x, q, hx, by omega, by omega⟩
  · split
    · obtain ⟨v4, e4⟩ := slot_ok hb (show 0 ≤ p + 1 + 1 + 1 by omega) (by omega) k (by omega)
      obtain ⟨v5, e5, _, _⟩ := pick_ok hb (show 0 ≤ p + 1 + 1 + 1 + 1 by omega) (by omega) 30 k (by omega)
      rw [e4]; simp only [Option.bind_some]
      rw [e5]; simp only [Option.bind_some]
      split
      · obtain ⟨x, q, hx, ha, hz⟩ := hj (p + 1 + 1 + 1 + 1 + 1) (by omega) (by omega) n (wrap64 (1 + v1)) v2 ⟨#[118, 97, 116]⟩ (wrap64 (1 + v5)) (wrap64 (1 + v3)) ⟨#[]⟩ ⟨#[]⟩
        exact ⟨x, q, hx, by omega, by omega⟩
      · obtain ⟨x, q, hx, ha, hz⟩ := hj (p + 1 + 1 + 1 + 1 + 1) (by omega) (by omega) n (wrap64 (1 + v1)) v2 v4 (wrap64 (1 + v5)) (wrap64 (1 + v3)) ⟨#[]⟩ ⟨#[]⟩
        exact ⟨x, q, hx, by omega, by omega⟩
    · split
      · obtain ⟨v5, e5, _, _⟩ := pick_ok hb (show 0 ≤ p + 1 + 1 + 1 by omega) (by omega) (wrap64 (1 + v3)) k (by omega)
        rw [e5]; simp only [Option.bind_some]
        obtain ⟨x, q, hx, ha, hz⟩ := hj (p + 1 + 1 + 1 + 1) (by omega) (by omega) n (wrap64 (1 + v1)) v2 ⟨#[]⟩ (wrap64 (1 + v5)) (wrap64 (1 + v3)) ⟨#[]⟩ ⟨#[]⟩
        exact ⟨x, q, hx, by omega, by omega⟩
      · obtain ⟨x, q, hx, ha, hz⟩ := hj (p + 1 + 1 + 1) (by omega) (by omega) n (wrap64 (1 + v1)) v2 ⟨#[]⟩ 0 (wrap64 (1 + v3)) ⟨#[]⟩ ⟨#[]⟩
        exact ⟨x, q, hx, by omega, by omega⟩
theorem open_ok (l : List Int) (hb : ∀ x ∈ l, 0 ≤ x ∧ x ≤ 255) : ∃ b, spec_l1Open.f l = some (b, 0) ∧ Bytes b := by
  unfold spec_l1Open.f
  by_cases h : (l.length : Int) > 2000
  · rw [if_pos h, if_pos (by omega)]
    exact ⟨_, rfl, by rw [List.length_take]; omega, fun x hx => hb x (List.mem_of_mem_take hx)⟩
  · rw [if_neg h]
    exact ⟨_, rfl, by omega, hb⟩

end Go.Proofs.Ytdkologncoofdaa.P
-- Q8
namespace Go.Proofs.Ytdkologncoofdaa.P
open Go.RowKit Go.Proofs.YtdkologncoofdaaW.PrintWords Go.Proofs.YtdkologncoofdaaW.PrintLast
set_option linter.unusedVariables false
set_option linter.unusedSimpArgs false

theorem spoilt_phase {b : List Int} (hb : Bytes b) {p : Int} (h0 : 0 ≤ p) (h1 : p ≤ 800000000) (x : S39) (k : Nat) (hk : 2 ≤ k) :
    ∃ (y : S39) (q : Int), spec_l5SpoilPhase.f k b p x.f0 x.f1 x.f2 x.f3 x.f4 x.f5 x.f6 x.f7 = some (tup y q) ∧ p ≤ q ∧ q ≤ p + 5 := by
  unfold spec_l5SpoilPhase.f
  obtain ⟨v1, e1, r1, s1⟩ := pick_ok hb h0 (show p ≤ 1000000000 by omega) 8 k (by omega)
  rw [e1]; simp only [Option.bind_some]
  have ho := fun (l : List ByteArray) (hl : 1 ≤ l.length) => of_ok hb (show 0 ≤ p + 1 by omega) (by omega) l hl k (by omega)
  have hp := fun (n : Int) => pick_ok hb (show 0 ≤ p + 1 by omega) (by omega) n k (by omega)
  split
  · obtain ⟨v, e, _⟩ := ho ([(⟨#[]⟩ : ByteArray), (⟨#[65]⟩ : ByteArray), (⟨#[103, 111, 111, 100]⟩ : ByteArray), (⟨#[102, 49]⟩ : ByteArray), (⟨#[110, 105, 110, 101, 45, 98, 121, 116, 101, 115]⟩ : ByteArray)]) (by simp)
    rw [e]
    exact ⟨⟨v, x.f1, x.f2, x.f3, x.f4, x.f5, x.f6, x.f7⟩, _, rfl, by omega, by omega⟩
  · split
    · obtain ⟨v, e, _⟩ := hp 8
      rw [e]
      exact ⟨⟨x.f0, wrap64 (v - 1), x.f2, x.f3, x.f4, x.f5, x.f6, x.f7⟩, _, rfl, by omega, by omega⟩
    · split
      · obtain ⟨v, e, _⟩ := ho ([(⟨#[]⟩ : ByteArray), (⟨#[65]⟩ : ByteArray), x.f3, (⟨#[103, 111, 111, 100]⟩ : ByteArray)]) (by simp)
        rw [e]
        exact ⟨⟨x.f0, x.f1, v, x.f3, x.f4, x.f5, x.f6, x.f7⟩, _, rfl, by omega, by omega⟩
      · split
        · obtain ⟨v, e, _⟩ := ho ([(⟨#[]⟩ : ByteArray), (⟨#[65]⟩ : ByteArray), x.f2, (⟨#[103, 111, 111, 100]⟩ : ByteArray)]) (by simp)
          rw [e]
          exact ⟨⟨x.f0, x.f1, x.f2, v, x.f4, x.f5, x.f6, x.f7⟩, _, rfl, by omega, by omega⟩
        · split
          · obtain ⟨v, e, r, s⟩ := hp 7
            rw [e]; simp only [Option.bind_some]
            rw [if_pos r, if_pos (by simpa using s (by omega))]
            exact ⟨⟨x.f0, x.f1, x.f2, x.f3, rd [-1, 0, 1, x.f5, wrap64 (x.f5 + 1), 1000, 1001] v, x.f5, x.f6, x.f7⟩, p + 1 + 1, rfl, by omega, by omega⟩
          · split
            · obtain ⟨v, e, r, s⟩ := hp 5
              rw [e]; simp only [Option.bind_some]
              rw [if_pos r, if_pos (by simpa using s (by omega))]
              exact ⟨⟨x.f0, x.f1, x.f2, x.f3, x.f4, rd [-1, 0, 1, 1000, 1001] v, x.f6, x.f7⟩, p + 1 + 1, rfl, by omega, by omega⟩
            · split
              · obtain ⟨v, e, _⟩ := ho ([(⟨#[]⟩ : ByteArray), (⟨#[98, 114, 101, 119]⟩ : ByteArray), (⟨#[102, 49]⟩ : ByteArray), (⟨#[114, 101, 115, 116]⟩ : ByteArray), (⟨#[110, 111, 110, 101]⟩ : ByteArray)]) (by simp)
                rw [e]
                exact ⟨⟨x.f0, x.f1, x.f2, x.f3, x.f4, x.f5, v, x.f7⟩, _, rfl, by omega, by omega⟩
              · obtain ⟨v, e, _⟩ := ho ([(⟨#[]⟩ : ByteArray), (⟨#[98, 114, 101, 119]⟩ : ByteArray), (⟨#[102, 49]⟩ : ByteArray), (⟨#[114, 101, 115, 116]⟩ : ByteArray), (⟨#[110, 111, 110, 101]⟩ : ByteArray)]) (by simp)
                rw [e]
                exact ⟨⟨x.f0, x.f1, x.f2, x.f3, x.f4, x.f5, x.f6, v⟩, _, rfl, by omega, by omega⟩

end Go.Proofs.Ytdkologncoofdaa.P
-- Px54
namespace Go.Proofs.Ytdkologncoofdaa.P
open Go.RowKit Go.Proofs.YtdkologncoofdaaW.PrintWords Go.Proofs.YtdkologncoofdaaW.PrintLast Go.Proofs.YtdkologncoofdaaW.PrintMore
attribute [local go_sem] max2_int min2_int max_two min_two max_three min_three max_four min_four   -- for this text's walks alone
set_option linter.unusedVariables false
set_option linter.unusedSimpArgs false

/-! ### spec_l5From: function 87 -/
def spec_l5From.j0 : Nat → List (S39) → Bool → List Int → Int → Option (ByteArray × Int)
 | 0, _, _, _, _ => none
 | k + 1, x1, x12, x1000, x1001 => if x12 = true then ((spec_l1Rd_pick.f k x1000 x1001 (x1.length : Int)).bind fun bt578 => (if 0 ≤ bt578.1 then (if bt578.1 < (x1.length : Int) then (some ((rd_T39 x1 bt578.1).f0, bt578.2)) else (none)) else (none))) else ((spec_l1Rd_of.f k x1000 x1001 (([(⟨#[103, 111, 111, 100]⟩ : ByteArray), (⟨#[115, 99, 114, 97, 112, 112, 101, 100]⟩ : ByteArray), (⟨#[110, 111, 110, 101]⟩ : ByteArray), (⟨#[]⟩ : ByteArray)] : List ByteArray))).bind fun bt584 => (some (bt584.1, bt584.2)))
def spec_l5From.f (k : Nat) (s0_0 : List Int) (s0_1 : Int) (l1 : List (S39)) : Option (ByteArray × Int) := if (l1.length : Int) > 0 then ((spec_l1Rd_pick.f k s0_0 s0_1 8).bind fun bt576 => (spec_l5From.j0 k l1 (decide (bt576.1 > 0)) s0_0 bt576.2)) else (spec_l5From.j0 k l1 false s0_0 s0_1)
theorem spec_l5From.mono_l : ∀ k, (∀ y0 y1 y2 y3, LeO (spec_l5From.j0 k y0 y1 y2 y3) (spec_l5From.j0 (k + 1) y0 y1 y2 y3))
 | 0 => fun _ _ _ _ r h => by simp [spec_l5From.j0] at h
 | k + 1 => by
  have ih0 := spec_l5From.mono_l k
  ·intro y0 y1 y2 y3
   unfold spec_l5From.j0
   repeat' first
   | (with_reducible exact ih0 _ _ _ _)
   | (with_reducible exact spec_l1Rd_of.mono _ _ _ _)
   | (with_reducible exact spec_l1Rd_pick.mono _ _ _ _)
   | (with_reducible exact LeO.refl _)
   | (with_reducible exact LeO.none _)
   | (with_reducible refine LeO.ite ?_ ?_)
   | (with_reducible refine LeO.bind ?_ (fun _ => ?_))
   | exact ih0 _ _ _ _
   | exact spec_l1Rd_of.mono _ _ _ _
   | exact spec_l1Rd_pick.mono _ _ _ _
   | exact LeO.none _
   | refine LeO.ite ?_ ?_
   | refine LeO.bind ?_ (fun _ => ?_)
theorem spec_l5From.mono : ∀ a0 a1 a2 k, LeO (spec_l5From.f k a0 a1 a2) (spec_l5From.f (k + 1) a0 a1 a2) := by
 intro a0 a1 a2 k
 have ih0 := spec_l5From.mono_l k
 unfold spec_l5From.f
 repeat' first
   | (with_reducible exact ih0 _ _ _ _)
   | (with_reducible exact spec_l1Rd_of.mono _ _ _ _)
   | (with_reducible exact spec_l1Rd_pick.mono _ _ _ _)
   | (with_reducible exact LeO.refl _)
   | (with_reducible exact LeO.none _)
   | (with_reducible refine LeO.ite ?_ ?_)
   | (with_reducible refine LeO.bind ?_ (fun _ => ?_))
   | exact ih0 _ _ _ _
   | exact spec_l1Rd_of.mono _ _ _ _
   | exact spec_l1Rd_pick.mono _ _ _ _
   | exact LeO.none _
   | refine LeO.ite ?_ ?_
   | refine LeO.bind ?_ (fun _ => ?_)
set_option maxHeartbeats 8000000 in
set_option maxRecDepth 100000 in
theorem spec_l5From.calls (k : Nat) (g : Nat) (s0_0 : List Int) (s0_1 : Int) (A1 : Option Addr) (c1 : Nat) (l1 : List (S39)) (r1 : ByteArray) (r2 : Int) (w0 w : World) (hI : IsS107 w0 w g s0_0 s0_1) (hB : Below w0.heap.size w0 w) (hr1 : ∀ W_, KeepBut w W_ g none → Kd.C k39 W_ A1 l1.length l1) (hc1 : l1.length ≤ c1) (h : spec_l5From.f k s0_0 s0_1 l1 = some (r1, r2)) :
  Calls Try.prog 87 #[.pointer (some ⟨g, 0, none⟩), .slice A1 l1.length c1] w fun e w' => e = .returned (.string r1) ∧ IsS107 w0 w' g s0_0 r2 ∧ Below w0.heap.size w0 w' ∧ KeepBut w w' g none := by
 have HR1 := Aside0.mk hr1
 have HC1 := Aside0.mk hc1
 clear hr1 hc1
 have HI0 := Aside0.mk hI
 have HK := Aside0.mk (KeepBut.refl w g none)
 have HL := Aside0.mk hB.size
 clear hI
 have HW0 := Aside0.mk hB.size
 have HB := Aside0.mk hB
 clear hB
 have H : (if (l1.length : Int) > 0 then ((spec_l1Rd_pick.f k s0_0 s0_1 8).bind fun bt576 => (spec_l5From.j0 k l1 (decide (bt576.1 > 0)) s0_0 bt576.2)) else (spec_l5From.j0 k l1 false s0_0 s0_1)) = some (r1, r2) := h
 clear h
 have HC3 := Aside0.mk H
 clear H
 go_enter Try.func87, Try.ntmps87
 go_upto_region 1 with (fail)
 go_cut [12] (fun v12 wc => ∃ (kq : Nat) (x12_2 : Bool) (x1001_2 : Int), v12 = .bool x12_2 ∧ Aside0 (spec_l5From.j0 kq l1 x12_2 s0_0 x1001_2 = some (r1, r2)) ∧ Aside0 (kq ≤ k) ∧ Aside0 (IsS107 w0 wc g s0_0 x1001_2) ∧ Aside0 (KeepBut w wc g none) ∧ Aside0 (Below w0.heap.size w0 wc))
 case first =>
  have H := HC3.out
  clear HC3
  by_cases c4 : (l1.length : Int) > 0
  ·rw [if_pos c4] at H
   have c4b0 : decide (0 < (l1.length : Int)) = true := decide_eq_true c4
   have c4b1 : decide (0 < l1.length) = true := decide_eq_true (by omega)
   clear c4
   (first | rw [c4b0] | (simp only [i64_w, i32_w]; rw [c4b0]) | skip)
   replace H := Option.bind_eq_some_iff.mp H
   obtain ⟨⟨t576, t577⟩, A50, H⟩ := H
   try dsimp only at H
   have A5 := Aside0.mk A50
   clear A50
   have H' := Aside0.mk H
   clear H
   go_wp2_with (first | (go_at_call 64; (with_reducible refine (spec_l1Rd_pick.calls k g s0_0 s0_1 8 t576 t577 w0 _ ?side1 ?side2 A5.out).mono ?_); (case side1 => exact ib HI0.out); (case side2 => exact bi HB.out); rintro e w6 ⟨rfl, hi, hb, hk⟩; have t_ := And.intro (kt HK hk) <| And.intro (Aside0.mk (hb)) <| (Aside0.mk (hi)); clear HK HB HI0; obtain ⟨HK, HB, HI0⟩ := t_; (try clear hb); (try clear hb2); (try clear hk); (try clear hi)))
   go_meet
   case rel => exact ⟨_, (decide (t576 > 0)), (t577), (by first | rfl | (simp; done) | (simp [*]; done)), H', ⟨by first | omega | exact Nat.le_refl _⟩, ⟨ib HI0.out⟩, ⟨kb HK.out⟩, (hbi HB)⟩
  ·rw [if_neg c4] at H
   have c4b0 : decide (0 < (l1.length : Int)) = false := decide_eq_false c4
   have c4b1 : decide (0 < l1.length) = false := decide_eq_false (by omega)
   clear c4
   (first | rw [c4b0] | (simp only [i64_w, i32_w]; rw [c4b0]) | skip)
   have H' := Aside0.mk H
   clear H
   go_wp2
   go_meet
   case rel => exact ⟨_, (false), (s0_1), (by first | rfl | (simp; done) | (simp [*]; done)), H', ⟨by first | omega | exact Nat.le_refl _⟩, ⟨ib HI0.out⟩, ⟨kb HK.out⟩, (hbi HB)⟩
 case rest =>
  clear HC3
  obtain ⟨kq, x12_2, x1001_2, rfl, HA, HJ2, HI0, HK, HB⟩ := hcut
  cases kq with
  | zero => exact absurd HA.out (by simp [spec_l5From.j0])
  | succ kj2 =>
   have H := HA.out
   clear HA
   simp only [spec_l5From.j0] at H
   by_cases c7 : x12_2 = true
   ·subst c7
    rw [if_pos rfl] at H
    replace H := Option.bind_eq_some_iff.mp H
    obtain ⟨⟨t578, t579⟩, A80, H⟩ := H
    try dsimp only at H
    have A8 := Aside0.mk A80
    clear A80
    by_cases c9 : 0 ≤ t578
    ·rw [if_pos c9] at H
     have c9b0 : decide (0 ≤ t578) = true := decide_eq_true c9
     clear c9
     by_cases c10 : t578 < (l1.length : Int)
     ·rw [if_pos c10] at H
      have c10b0 : decide (t578 < (l1.length : Int)) = true := decide_eq_true c10
      clear c10
      simp only [Option.some.injEq, Prod.mk.injEq] at H
      obtain ⟨rfl, rfl⟩ := H
      go_wp2_with (first | ((with_reducible refine gate_callee (f := 64) rfl ?_); refine goesL_ (some 17) rfl rfl Try.func64 (by kernel_rfl) rfl #[.pointer (some ⟨g, 0, none⟩), .int .i64 (l1.length : Int)] rfl mxp ?_; (with_reducible refine (spec_l1Rd_pick.calls kj2 g s0_0 x1001_2 (l1.length : Int) t578 t579 w0 _ ?side1 ?side2 A8.out).mono ?_); (case side1 => exact ib HI0.out); (case side2 => exact bi HB.out); rintro e w11 ⟨rfl, hi, hb, hk⟩; refine ⟨_, rfl, ?_⟩; have t_ := And.intro (kt HK hk) <| And.intro (Aside0.mk (hb)) <| (Aside0.mk (hi)); clear HK HB HI0; obtain ⟨HK, HB, HI0⟩ := t_; (try clear hb); (try clear hb2); (try clear hk); (try clear hi); have p580 : 0 ≤ (t578 : Int) := oda; have q580 : t578 < (l1.length : Int) := oda; obtain ⟨ad580, e580, hx580_0, hx580_1, hx580_2, hx580_3, hx580_4, hx580_5, hx580_6, hx580_7⟩ := at_T39 (Kd.C_foot_now HR1.out HK.out) t578 p580 q580; cases e580; replace p580 := eq_true p580; replace q580 := eq_true q580))
      go_ret
      exact ⟨exq, ib HI0.out, bi HB.out, kb HK.out⟩
     ·rw [if_neg c10] at H
      exact absurd H (by simp)
    ·rw [if_neg c9] at H
     exact absurd H (by simp)
   ·replace c7 := Bool.eq_false_iff.mpr c7
    subst c7
    rw [if_neg (show ¬ (false = true) by decide)] at H
    obtain ⟨y581, hy581⟩ : ∃ y_ : List ByteArray, y_ = (([(⟨#[103, 111, 111, 100]⟩ : ByteArray), (⟨#[115, 99, 114, 97, 112, 112, 101, 100]⟩ : ByteArray), (⟨#[110, 111, 110, 101]⟩ : ByteArray), (⟨#[]⟩ : ByteArray)] : List ByteArray)) := ⟨_, rfl⟩
    replace H : ((spec_l1Rd_of.f kj2 s0_0 x1001_2 y581).bind fun bt584 => (some (bt584.1, bt584.2))) = some (r1, r2) := rpl H hy581
    have Ny581 := Aside0.mk hy581
    clear hy581
    replace H := Option.bind_eq_some_iff.mp H
    obtain ⟨⟨t584, t585⟩, A120, H⟩ := H
    try dsimp only at H
    have A12 := Aside0.mk A120
    clear A120
    simp only [Option.some.injEq, Prod.mk.injEq] at H
    obtain ⟨rfl, rfl⟩ := H
    go_wp2_with (first | ((with_reducible refine gate_dst (N := 22) rfl ?_); refine Kd.R_lit Kd.string _ 9 ?hg (N := 22) ?hd (xs := ([(⟨#[103, 111, 111, 100]⟩ : ByteArray), (⟨#[115, 99, 114, 97, 112, 112, 101, 100]⟩ : ByteArray), (⟨#[110, 111, 110, 101]⟩ : ByteArray), (⟨#[]⟩ : ByteArray)] : List ByteArray)) (inner := [.string (⟨#[103, 111, 111, 100]⟩ : ByteArray), .string (⟨#[115, 99, 114, 97, 112, 112, 101, 100]⟩ : ByteArray), .string (⟨#[110, 111, 110, 101]⟩ : ByteArray), .string (⟨#[]⟩ : ByteArray)]) (ok := fun _ => True) (okp := fun _ => True) ?hr ?hp (fun _ hk => hk) trivial (Below.refl _ _) (Nat.le_refl _) (by simp) ?_; (case hd => rfl); (case hg => rfl); (case hr => first | (go_simp; done) | (go_simp; rfl)); (case hp => exact (Reps.one (show Kd.M Kd.string _ _ _ (⟨#[103, 111, 111, 100]⟩ : ByteArray) [.string (⟨#[103, 111, 111, 100]⟩ : ByteArray)] from rfl) (Reps.one (show Kd.M Kd.string _ _ _ (⟨#[115, 99, 114, 97, 112, 112, 101, 100]⟩ : ByteArray) [.string (⟨#[115, 99, 114, 97, 112, 112, 101, 100]⟩ : ByteArray)] from rfl) (Reps.one (show Kd.M Kd.string _ _ _ (⟨#[110, 111, 110, 101]⟩ : ByteArray) [.string (⟨#[110, 111, 110, 101]⟩ : ByteArray)] from rfl) (Reps.one (show Kd.M Kd.string _ _ _ (⟨#[]⟩ : ByteArray) [.string (⟨#[]⟩ : ByteArray)] from rfl) (Reps.none _ _)))))); intro v582 w13 ho14 hb hg_ hnew_; clear hg_ hnew_; (first | rw [← Ny581.out] at ho14 | (simp only [Int.reduceToNat] at ho14; rw [← Ny581.out] at ho14)); have t_ := And.intro (Aside0.mk (Kd.R_lower ho14 (keep_size (w := w) (g := g) (row := none) (kb HK.out)))) <| And.intro (Aside0.mk (IsS107.below (ib HI0.out) hb)) <| And.intro (kt HK (KeepBut.of_below hb g none)) <| (bsi HB hb); clear HI0 HK HB; obtain ⟨HO583, HI0, HK, HB⟩ := t_; clear hb ho14; obtain ⟨Ao15, co15, eo15⟩ := Kd.R_slice HO583.out; subst eo15) | ((with_reducible refine gate_callee (f := 80) rfl ?_); refine goesL_ (some 23) rfl rfl Try.func80 (by kernel_rfl) rfl #[.pointer (some ⟨g, 0, none⟩), .slice Ao15 y581.length co15] rfl mxp ?_; (with_reducible refine (spec_l1Rd_of.calls kj2 g s0_0 x1001_2 _ _ y581 t584 t585 w0 _ ?side1 ?side2 ?side3 ?side4 ?side5 A12.out).mono ?_); (case side1 => exact ib HI0.out); (case side2 => exact bi HB.out); (case side3 => exact cx (Kd.R_reads' HO583.out).2.2); (case side4 => exact (Kd.R_reads' HO583.out).2.1); (case side5 => exact far_slice (IsS107.own_ne HI0.out HO583.out (by decide))); rintro e w16 ⟨rfl, hi, hb, hk⟩; refine ⟨_, rfl, ?_⟩; have t_ := And.intro (Aside0.mk (Kd.R_mono (Kd.R_keep (IsS107.apart (show IsS107 w0 _ g s0_0 x1001_2 from ib HI0.out) (rx HO583.out) (by decide)) hk (fun _ h => h.2)) (fun _ h => h.1))) <| And.intro (kt HK hk) <| And.intro (Aside0.mk (hb)) <| (Aside0.mk (hi)); clear HO583 HK HB HI0; obtain ⟨HO583, HK, HB, HI0⟩ := t_; (try clear hb); (try clear hb2); (try clear hk); (try clear hi)))
    go_ret
    exact ⟨exq, ib HI0.out, bi HB.out, kb HK.out⟩

end Go.Proofs.Ytdkologncoofdaa.P
-- Q14
namespace Go.Proofs.Ytdkologncoofdaa.P
open Go.RowKit Go.Proofs.YtdkologncoofdaaW.PrintWords Go.Proofs.YtdkologncoofdaaW.PrintLast
set_option linter.unusedVariables false
set_option linter.unusedSimpArgs false

theorem dec_ok (n : Int) (h0 : 0 ≤ n) (h : n ≤ 12) (k : Nat) (hk : 2 ≤ k) : ∃ t, spec_l3Dec.f k n = some t ∧ t.size ≤ 100 := by
  obtain ⟨k, rfl⟩ : ∃ m, k = m + 2 := ⟨k - 2, by omega⟩
  rw [spec_l3Dec.f]
  by_cases h10 : n < 10
  · rw [if_pos h10]
    exact ⟨_, rfl, by rw [strOfNums_size]; simp⟩
  · have ht : wrap64 (Int.tdiv n 10) = 1 := by
      rcases (show n = 10 ∨ n = 11 ∨ n = 12 by omega) with rfl | rfl | rfl
      · rw [show Int.tdiv 10 10 = 1 by decide]; exact wrap_id (by omega) (by omega)
      · rw [show Int.tdiv 11 10 = 1 by decide]; exact wrap_id (by omega) (by omega)
      · rw [show Int.tdiv 12 10 = 1 by decide]; exact wrap_id (by omega) (by omega)
    rw [if_neg h10, ht, spec_l3Dec.f, if_pos (by omega)]
    simp only [Option.bind_some]
    rw [if_pos (by rw [strOfNums_size, strOfNums_size]; simp)]
    exact ⟨_, rfl, by rw [ByteArray.size_append, strOfNums_size, strOfNums_size]; simp⟩

theorem rec_l1 {b : List Int} (hb : Bytes b) (d : Nat) : ∀ (x : List S39) (i p : Int) (k : Nat), 12 - x.length = d → x.length ≤ 12 → 0 ≤ i → i + d ≤ 12 → 0 ≤ p → p ≤ 700000000 - 20 * d → d + 3 ≤ k →
    ∃ y q, spec_l5Recipe.l1 k x i b p = some (y, q) ∧ x.length ≤ y.length ∧ y.length ≤ 12 ∧ p ≤ q ∧ q ≤ p + 20 * d := by
  induction d with
  | zero =>
    intro x i p k hd hx hi hi2 h0 h1 hk
    obtain ⟨k, rfl⟩ : ∃ m, k = m + 1 := ⟨k - 1, by omega⟩
    rw [spec_l5Recipe.l1, if_neg (by omega)]
    exact ⟨x, p, rfl, by omega, by omega, by omega, by omega⟩
  | succ d ih =>
    intro x i p k hd hx hi hi2 h0 h1 hk
    obtain ⟨k, rfl⟩ : ∃ m, k = m + 1 := ⟨k - 1, by omega⟩
    obtain ⟨t, et, ht⟩ := dec_ok i hi (by omega) k (by omega)
    obtain ⟨z, q, ez, h2, h3⟩ := drawn_phase hb h0 (show p ≤ 800000000 by omega) ((⟨#[121]⟩ : ByteArray) ++ t) [] (by simp) k (by omega)
    rw [spec_l5Recipe.l1, if_pos (by omega), et, Option.bind_some, if_pos (by omega), ez, Option.bind_some, if_pos (by omega), wrap_id (by omega) (by omega)]
    obtain ⟨y, q2, ey, a1, a2, a3, a4⟩ := ih (x ++ [z]) (i + 1) q k (by simp; omega) (by simp; omega) (by omega) (by omega) (by omega) (by omega) (by omega)
    simp only [List.length_append, List.length_singleton] at a1
    exact ⟨y, q2, ey, by omega, a2, by omega, by omega⟩

theorem rec_l0 {b : List Int} (hb : Bytes b) (ns : List ByteArray) (hns : ns.length ≤ 100) (n : Nat) (hn : n ≤ ns.length) (hn12 : n ≤ 12) (hn1 : 1 ≤ n) (d : Nat) : ∀ (x : List S39) (i : Nat) (p : Int) (k : Nat), n - i = d → i ≤ n → x.length = i → 0 ≤ p → p ≤ 600000000 - 20 * d → d + 40 ≤ k →
    ∃ y q, spec_l5Recipe.l0 k ns (n : Int) x (i : Int) b p = some (y, q) ∧ 1 ≤ y.length ∧ y.length ≤ 12 ∧ p ≤ q ∧ q ≤ p + 20 * d + 300 := by
  induction d with
  | zero =>
    intro x i p k hd hx hi h0 h1 hk
    obtain ⟨k, rfl⟩ : ∃ m, k = m + 1 := ⟨k - 1, by omega⟩
    rw [spec_l5Recipe.l0, if_neg (by omega)]
    obtain ⟨v, ev, _, _⟩ := pick_ok hb h0 (show p ≤ 1000000000 by omega) 20 k (by omega)
    rw [ev, Option.bind_some]
    by_cases hv : v = 0
    · rw [if_pos hv]
      obtain ⟨y, q, ey, a1, a2, a3, a4⟩ := rec_l1 hb (12 - x.length) x 0 (p + 1) k rfl (by omega) (by omega) (by omega) (by omega) (by omega) (by omega)
      exact ⟨y, q, ey, by omega, a2, by omega, by omega⟩
    · rw [if_neg hv]
      exact ⟨x, p + 1, rfl, by omega, by omega, by omega, by omega⟩
  | succ d ih =>
    intro x i p k hd hx hi h0 h1 hk
    obtain ⟨k, rfl⟩ : ∃ m, k = m + 1 := ⟨k - 1, by omega⟩
    obtain ⟨z, q, ez, h2, h3⟩ := drawn_phase hb h0 (show p ≤ 800000000 by omega) (rdOf ByteArray.empty ns (i : Int)) ((ns.take ((n : Nat) : Int).toNat).drop (((i : Int) + 1) : Int).toNat) (by simp; omega) k (by omega)
    have hw : wrap64 ((i : Int) + 1) = (i : Int) + 1 := wrap_id (by omega) (by omega)
    rw [spec_l5Recipe.l0, if_pos (by omega), if_pos (by omega), if_pos (by omega), hw, if_pos (by omega), if_pos (by omega), if_pos (by omega), ez, Option.bind_some, if_pos (by omega)]
    obtain ⟨y, q2, ey, a1, a2, a3, a4⟩ := ih (x ++ [z]) (i + 1) q k (by omega) (by omega) (by simp; omega) (by omega) (by omega) (by omega)
    refine ⟨y, q2, ?_, a1, a2, by omega, by omega⟩
    rw [← ey]
    simp [tup]

theorem recipe_ok {b : List Int} (hb : Bytes b) {p : Int} (h0 : 0 ≤ p) (h1 : p ≤ 500000000) (k : Nat) (hk : 60 ≤ k) :
    ∃ x q, spec_l5Recipe.f k b p = some (x, q) ∧ 1 ≤ x.length ∧ x.length ≤ 12 ∧ p ≤ q ∧ q ≤ p + 500 := by
  unfold spec_l5Recipe.f spec_l5Names.f
  simp only [Option.bind_some]
  generalize hns : ([(⟨#[98, 114, 101, 119]⟩ : ByteArray), (⟨#[102, 49]⟩ : ByteArray), (⟨#[102, 50]⟩ : ByteArray), (⟨#[103]⟩ : ByteArray), (⟨#[104]⟩ : ByteArray), (⟨#[109, 97, 115, 104]⟩ : ByteArray), (⟨#[114, 101, 115, 116]⟩ : ByteArray), (⟨#[120, 45, 57]⟩ : ByteArray)] : List ByteArray) = ns
  have hl : ns.length = 8 := by rw [← hns]; rfl
  clear hns
  obtain ⟨v, ev, v0, v1⟩ := pick_ok hb h0 (show p ≤ 1000000000 by omega) (ns.length : Int) k (by omega)
  rw [ev, Option.bind_some]
  have hv := v1 (by omega)
  obtain ⟨m, rfl⟩ := Int.eq_ofNat_of_zero_le v0
  have hw : wrap64 (1 + (m : Int)) = ((1 + m : Nat) : Int) := by rw [wrap_id (by omega) (by omega)]; omega
  simp only [hw]
  obtain ⟨y, q, ey, a1, a2, a3, a4⟩ := rec_l0 hb ns (by omega) (1 + m) (by omega) (by omega) (by omega) (1 + m) [] 0 (p + 1) k (by omega) (by omega) rfl (by omega) (by omega) (by omega)
  exact ⟨y, q, ey, a1, a2, by omega, by omega⟩

theorem spoil_l0 {b : List Int} (hb : Bytes b) (n : Nat) (hn : n ≤ 13) (d : Nat) : ∀ (x : List S39) (i p : Int) (k : Nat), n - x.length = d → x.length ≤ 13 → 0 ≤ i → i + d ≤ 12 → 0 ≤ p → p ≤ 700000000 - 20 * d → d + 3 ≤ k →
    ∃ y q, spec_l5Spoil.l0 k x (n : Int) i b p = some (y, q) ∧ y.length ≤ 13 ∧ p ≤ q ∧ q ≤ p + 20 * d := by
  induction d with
  | zero =>
    intro x i p k hd hx hi hi2 h0 h1 hk
    obtain ⟨k, rfl⟩ : ∃ m, k = m + 1 := ⟨k - 1, by omega⟩
    rw [spec_l5Spoil.l0, if_neg (by omega)]
    exact ⟨x, p, rfl, by omega, by omega, by omega⟩
  | succ d ih =>
    intro x i p k hd hx hi hi2 h0 h1 hk
    obtain ⟨k, rfl⟩ : ∃ m, k = m + 1 := ⟨k - 1, by omega⟩
    obtain ⟨t, et, ht⟩ := dec_ok i hi (by omega) k (by omega)
    obtain ⟨z, q, ez, h2, h3⟩ := drawn_phase hb h0 (show p ≤ 800000000 by omega) ((⟨#[122]⟩ : ByteArray) ++ t) [] (by simp) k (by omega)
    rw [spec_l5Spoil.l0, if_pos (by omega), et, Option.bind_some, if_pos (by omega), ez, Option.bind_some, if_pos (by omega), wrap_id (by omega) (by omega)]
    obtain ⟨y, q2, ey, a2, a3, a4⟩ := ih (x ++ [z]) (i + 1) q k (by simp; omega) (by simp; omega) (by omega) (by omega) (by omega) (by omega) (by omega)
    exact ⟨y, q2, ey, a2, by omega, by omega⟩

theorem spoil_ok {b : List Int} (hb : Bytes b) {p : Int} (h0 : 0 ≤ p) (h1 : p ≤ 500000000) (l : List S39) (hl1 : 1 ≤ l.length) (hl2 : l.length ≤ 12) (k : Nat) (hk : 60 ≤ k) :
    ∃ x q, spec_l5Spoil.f k b p l = some (x, q) ∧ x.length ≤ 13 ∧ p ≤ q ∧ q ≤ p + 500 := by
  unfold spec_l5Spoil.f
  simp only [Option.bind_some, List.nil_append]
  rw [if_pos (by simp; omega)]
  obtain ⟨v, ev, v0, v1⟩ := pick_ok hb h0 (show p ≤ 1000000000 by omega) (l.length : Int) k (by omega)
  obtain ⟨u, eu, u0, u1⟩ := pick_ok hb (show 0 ≤ p + 1 by omega) (show p + 1 ≤ 1000000000 by omega) 6 k (by omega)
  rw [ev, Option.bind_some, eu, Option.bind_some]
  have hv := v1 (by omega)
  split
  · simp only [v0, hv, if_true]
    rw [if_pos (by omega)]
    exact ⟨_, _, rfl, by simp; omega, by omega, by omega⟩
  · split
    · simp only [v0, hv, if_true]
      rw [if_pos (by omega)]
      exact ⟨_, _, rfl, by simp; omega, by omega, by omega⟩
    · split
      · obtain ⟨m, em, m0, m1⟩ := pick_ok hb (show 0 ≤ p + 1 + 1 by omega) (show p + 1 + 1 ≤ 1000000000 by omega) 2 k (by omega)
        rw [em, Option.bind_some]
        have hm := m1 (by omega)
        obtain ⟨j, rfl⟩ := Int.eq_ofNat_of_zero_le m0
        have hw : wrap64 (12 + (j : Int)) = ((12 + j : Nat) : Int) := by rw [wrap_id (by omega) (by omega)]; omega
        simp only [hw]
        obtain ⟨y, q, ey, a1, a2, a3⟩ := spoil_l0 hb (12 + j) (by omega) (12 + j - l.length) l 0 (p + 1 + 1 + 1) k rfl (by omega) (by omega) (by omega) (by omega) (by omega) (by omega)
        exact ⟨y, q, ey, by omega, by omega, by omega⟩
      · simp only [v0, hv, if_true]
        obtain ⟨y, q, ey, a1, a2⟩ := spoilt_phase hb (show 0 ≤ p + 1 + 1 by omega) (by omega) (rd_T39 l v) k (by omega)
        rw [ey]
        exact ⟨_, q, rfl, by simp; omega, by omega, by omega⟩

theorem any_ok {b : List Int} (hb : Bytes b) {p : Int} (h0 : 0 ≤ p) (h1 : p ≤ 400000000) (k : Nat) (hk : 60 ≤ k) :
    ∃ x q, spec_l5Any.f k b p = some (x, q) ∧ x.length ≤ 13 ∧ p ≤ q ∧ q ≤ p + 1100 := by
  unfold spec_l5Any.f
  obtain ⟨x, q, ex, x1, x2, x3, x4⟩ := recipe_ok hb h0 (by omega) k hk
  rw [ex, Option.bind_some]
  obtain ⟨v, ev, v0, v1⟩ := pick_ok hb (show 0 ≤ q by omega) (by omega) 24 k (by omega)
  simp only [ev, Option.bind_some]
  split
  · obtain ⟨y, q2, ey, y1, y2, y3⟩ := spoil_ok hb (show 0 ≤ q + 1 by omega) (by omega) x x1 x2 k hk
    rw [ey]
    exact ⟨y, q2, rfl, y1, by omega, by omega⟩
  · split
    · exact ⟨[], q + 1, rfl, by simp, by omega, by omega⟩
    · exact ⟨x, q + 1, rfl, by omega, by omega, by omega⟩
theorem from_ok {b : List Int} (hb : Bytes b) {p : Int} (h0 : 0 ≤ p) (h1 : p ≤ 500000000) (l : List S39) (hl : l.length ≤ 1000) (k : Nat) (hk : 60 ≤ k) :
    ∃ x q, spec_l5From.f k b p l = some (x, q) ∧ p ≤ q ∧ q ≤ p + 5 := by
  have hj : ∀ (c : Bool) (p : Int), 0 ≤ p → p ≤ 500000001 → (c = true → 1 ≤ l.length) → ∃ x q, spec_l5From.j0 k l c b p = some (x, q) ∧ p ≤ q ∧ q ≤ p + 1 := by
    intro c p h0 h1 hc
    obtain ⟨k, rfl⟩ : ∃ m, k = m + 1 := ⟨k - 1, by omega⟩
    rw [spec_l5From.j0]
    cases c with
    | true =>
      rw [if_pos rfl]
      obtain ⟨v, ev, v0, v1⟩ := pick_ok hb h0 (show p ≤ 1000000000 by omega) (l.length : Int) k (by omega)
      have := hc rfl
      rw [ev, Option.bind_some, if_pos v0, if_pos (v1 (by omega))]
      exact ⟨_, _, rfl, by omega, by omega⟩
    | false =>
      rw [if_neg (by decide)]
      obtain ⟨v, ev, _⟩ := of_ok hb h0 (show p ≤ 1000000000 by omega) ([(⟨#[103, 111, 111, 100]⟩ : ByteArray), (⟨#[115, 99, 114, 97, 112, 112, 101, 100]⟩ : ByteArray), (⟨#[110, 111, 110, 101]⟩ : ByteArray), (⟨#[]⟩ : ByteArray)] : List ByteArray) (by simp) k (by omega)
      rw [ev]
      exact ⟨_, _, rfl, by omega, by omega⟩
  unfold spec_l5From.f
  split
  · obtain ⟨v, ev, v0, v1⟩ := pick_ok hb h0 (show p ≤ 1000000000 by omega) 8 k (by omega)
    rw [ev, Option.bind_some]
    obtain ⟨x, q, e, a1, a2⟩ := hj (decide (v > 0)) (p + 1) (by omega) (by omega) (fun _ => by omega)
    exact ⟨x, q, e, by omega, by omega⟩
  · obtain ⟨x, q, e, a1, a2⟩ := hj false p (by omega) (by omega) (fun h => by cases h)
    exact ⟨x, q, e, by omega, by omega⟩
end Go.Proofs.Ytdkologncoofdaa.P
-- Q16
namespace Go.Proofs.Ytdkologncoofdaa.P
open Go.RowKit Go.Proofs.YtdkologncoofdaaW.PrintWords Go.Proofs.YtdkologncoofdaaW.PrintLast
set_option linter.unusedVariables false
set_option linter.unusedSimpArgs false
theorem say_ok {b : List Int} (hb : Bytes b) {p : Int} (h0 : 0 ≤ p) (h1 : p ≤ 500000000) (k : Nat) (hk : 1 ≤ k) :
    ∃ t w q, spec_l5Say.f k b p = some (t, w, q) ∧ p ≤ q ∧ q ≤ p + 5 := by
  unfold spec_l5Say.f
  obtain ⟨v1, e1, _, _⟩ := pick_ok hb h0 (show p ≤ 1000000000 by omega) 24 k hk
  obtain ⟨v2, e2, _, _⟩ := pick_ok hb (show 0 ≤ p + 1 by omega) (by omega) 3 k hk
  obtain ⟨v3, e3, _, _⟩ := pick_ok hb (show 0 ≤ p + 1 + 1 by omega) (by omega) 24 k hk
  obtain ⟨v4, e4, a4, b4⟩ := pick_ok hb (show 0 ≤ p + 1 + 1 + 1 by omega) (by omega) 4 k hk
  simp only [e1, e2, e3, e4, Option.bind_some]
  have := b4 (by omega)
  split
  · (try rw [if_pos a4]); rw [if_pos (by simpa using this)]
    exact ⟨_, _, _, rfl, by omega, by omega⟩
  · exact ⟨_, _, _, rfl, by omega, by omega⟩
end Go.Proofs.Ytdkologncoofdaa.P
-- Q19
namespace Go.Proofs.Ytdkologncoofdaa.P
open Go.RowKit Go.Proofs.YtdkologncoofdaaW.PrintWords Go.Proofs.YtdkologncoofdaaW.PrintLast
set_option linter.unusedVariables false
set_option linter.unusedSimpArgs false

theorem says_loop {b : List Int} (hb : Bytes b) (x : List S39) (d : Nat) : ∀ (says : List S43) (p : Int) (k : Nat), says.length + d ≤ 1000 → d ≤ 100 → 0 ≤ p → p + 5 * d ≤ 500000000 → d + 2 ≤ k → ∃ y, spec_DrawRecRun.l0 k x says (d : Int) b p = some (x, y) := by
  induction d with
  | zero =>
    intro says p k h1 h2 h3 h4 hk
    obtain ⟨k, rfl⟩ : ∃ m, k = m + 1 := ⟨k - 1, by omega⟩
    exact ⟨says, by rw [spec_DrawRecRun.l0, if_neg (by simp)]⟩
  | succ d ih =>
    intro says p k h1 h2 h3 h4 hk
    obtain ⟨k, rfl⟩ : ∃ m, k = m + 1 := ⟨k - 1, by omega⟩
    obtain ⟨t, w, q, e, q1, q2⟩ := say_ok hb h3 (show p ≤ 500000000 by omega) k (by omega)
    rw [spec_DrawRecRun.l0, if_pos (by omega), e, Option.bind_some]
    simp only
    rw [if_pos (by omega), wrap_id (by omega) (by omega), show ((d + 1 : Nat) : Int) - 1 = (d : Int) by omega]
    exact ih _ q k (by simp; omega) (by omega) (by omega) (by omega) (by omega)
theorem drawnRun (l : List Int) (hb : ∀ x ∈ l, 0 ≤ x ∧ x ≤ 255) (k : Nat) (hk : 60 ≤ k) : ∃ x y, spec_DrawRecRun.f k l = some (x, y) := by
  unfold spec_DrawRecRun.f
  obtain ⟨b, e0, hB⟩ := open_ok l hb
  rw [e0, Option.bind_some]
  obtain ⟨x, q, ex, x1, x2, x3⟩ := any_ok hB (p := 0) (by omega) (by omega) k hk
  simp only [ex, Option.bind_some]
  obtain ⟨v, ev, v0, v1⟩ := pick_ok hB (p := q) (by omega) (by omega) 12 k (by omega)
  simp only [ev, Option.bind_some]
  have v1 := v1 (by omega)
  obtain ⟨d, hd⟩ := Int.eq_ofNat_of_zero_le v0
  rw [hd]
  obtain ⟨y, ey⟩ := says_loop hB x d [] (q + 1) k (by simp; omega) (by omega) (by omega) (by omega) (by omega)
  exact ⟨x, y, ey⟩

/-- One step of a run. -/
theorem step_ok (l : List S39) (h : recOk l = true) (s : ByteArray × Int × Int) (hs : At l s) (he : endOf s.1 = 0) (hl : s.2.2 = boundOf l s.1) (t : Int) (w : Bool) (x : ByteArray × Int × Int × Bool) (hx : x = goOf l s.1 s.2.1 s.2.2 t w) :
    x.2.2.2 = true ∧ ¬ x.2.1 < s.2.1 ∧ ¬ wrap64 (x.2.1 + x.2.2.1) > wrap64 (s.2.1 + s.2.2) ∧ x.2.2.1 = boundOf l x.1 ∧ x.2.1 + boundOf l x.1 ≤ s.2.1 + boundOf l s.1 ∧ (x.1 = (rd_T39 l (atOf l s.1)).f6 ∨ x.1 = (rd_T39 l (atOf l s.1)).f7) ∧ (∀ y ∈ (slotsAt l x.1).map ltr, y ∈ (slotsAt l s.1).map ltr) := by
  have hc := go_can l h s hs he
  have h0 := hs.1 he
  have hp := phase_of l h s.1 h0
  have ht := tick_range _ hp t w
  have hb := boundOf_step l h s.1
  rw [if_neg h0] at hb
  have h1 := boundOf_range l h s.1
  have hn : nextOf (rd_T39 l (atOf l s.1)) t w = (rd_T39 l (atOf l s.1)).f6 ∨ nextOf (rd_T39 l (atOf l s.1)) t w = (rd_T39 l (atOf l s.1)).f7 := by
    unfold nextOf; split
    · exact .inl rfl
    · exact .inr rfl
  have hbn : boundOf l (nextOf (rd_T39 l (atOf l s.1)) t w) ≤ max (boundOf l (rd_T39 l (atOf l s.1)).f6) (boundOf l (rd_T39 l (atOf l s.1)).f7) := by
    rcases hn with e | e <;> rw [e] <;> omega
  have hbr := boundOf_range l h (nextOf (rd_T39 l (atOf l s.1)) t w)
  have hs1 := hs.2.1
  have hs2 := hs.2.2
  unfold goOf at hx
  rw [if_pos hc] at hx
  subst hx
  simp only
  refine ⟨trivial, by omega, ?_, trivial, by omega, hn, fun y hy => ?_⟩
  · rw [wrap_id (by omega) (by omega), wrap_id (by omega) (by omega)]; omega
  · unfold slotsAt at hy ⊢
    rw [if_pos h] at hy ⊢
    rw [slt_mem l h y 12 _ (rk_le l h _)] at hy ⊢
    refine (uses_step l h s.1 h0 y).2 (.inr ?_)
    rcases hn with e | e
    · rw [e] at hy; exact .inl hy
    · rw [e] at hy; exact .inr hy
/-- How a run ends. -/
theorem run_end (l : List S39) (says : List S43) (h : recOk l = true) (n0 : ByteArray) (n : Nat) : ∀ (acc : List ByteArray) (i : Nat) (s : ByteArray × Int × Int), At l s → rk l s.1 < n → R l n0 (ltr s.1) = true → s.2.1 + boundOf l s.1 ≤ boundOf l n0 → s.2.2 = boundOf l s.1 →
    ∀ r, r = runFrom l says n acc i s → endOf r.1 ≠ 0 ∧ R l n0 (ltr r.1) = true ∧ r.2.1 ≤ boundOf l n0 ∧ r.2.2.1 = 0 ∧ ∃ t, r.2.2.2 = acc ++ t ∧ (endOf s.1 = 0 → ∃ t', t = s.1 :: t') := by
  induction n with
  | zero => intro acc i s _ hr; omega
  | succ n ih =>
    intro acc i s hs hr hR hb hl r hrr
    unfold runFrom at hrr
    by_cases he : endOf s.1 = 0
    · rw [if_pos he] at hrr
      have h0 := hs.1 he
      have hg := go_at l h s hs he (sayT says i) (sayW says i)
      obtain ⟨x, hx⟩ : ∃ x, x = goOf l s.1 s.2.1 s.2.2 (sayT says i) (sayW says i) := ⟨_, rfl⟩
      have hst := step_ok l h s hs he hl (sayT says i) (sayW says i) x hx
      rw [← hx] at hg hrr
      have hcl := R_closed l h 12 n0 (rk_le l h n0) s.1 hR h0
      obtain ⟨r1, r2, r3, r4, t, r5, _⟩ := ih (acc ++ [s.1]) (i + 1) (x.1, x.2.1, x.2.2.1) hg.1 (by have := hg.2; simp only; omega) (by rcases hst.2.2.2.2.2.1 with e | e <;> simp only <;> rw [e]; exact hcl.1; exact hcl.2) (by have := hst.2.2.2.2.1; simp only; omega) hst.2.2.2.1 r hrr
      exact ⟨r1, r2, r3, r4, s.1 :: t, by rw [r5]; simp, fun _ => ⟨t, rfl⟩⟩
    · rw [if_neg he] at hrr
      subst hrr
      have hz := end_no l h s.1 he
      have hb0 := boundOf_step l h s.1
      rw [if_pos hz] at hb0
      exact ⟨he, hR, by simp only; omega, by simp only; omega, [], by simp, fun e => absurd e he⟩
end Go.Proofs.Ytdkologncoofdaa.P
-- PureFnTop
namespace Go.Proofs.Ytdkologncoofdaa.Pure
open Go.RowKit Go.Proofs.Ytdkologncoofdaa.P Go.Proofs.YtdkologncoofdaaW.PrintWords Go.Proofs.YtdkologncoofdaaW.PrintLast
set_option linter.unusedVariables false
set_option linter.unusedSimpArgs false

theorem ft_loop (l : List S39) (says : List S43) (h : recOk l = true) (n0 : ByteArray) (path : List ByteArray) (S0 : ByteArray) (S1 S2 : Int) (n : Nat) : ∀ (acc : List ByteArray) (i : Nat) (s : ByteArray × Int × Int), At l s → rk l s.1 < n → R l n0 (ltr s.1) = true → s.2.1 + boundOf l s.1 ≤ boundOf l n0 → s.2.2 = boundOf l s.1 → acc.length = i → i + n ≤ 1000 →
    (S0, S1, S2, path) = runFrom l says n acc i s → Evn (fun k => laws_FnTop.l0 k l says path (i : Int) S0 S1 S2 s.1 s.2.1 s.2.2) true := by
  induction n with
  | zero => intro acc i s _ hr; omega
  | succ n ih =>
    intro acc i s hs hr hR hb hl ha hi hrr
    have hend := run_end l says h n0 (n + 1) acc i s hs hr hR hb hl _ hrr
    obtain ⟨r1, r2, r3, r4, t, r5, r6⟩ := hend
    simp only at r5
    unfold runFrom at hrr
    by_cases he : endOf s.1 = 0
    · obtain ⟨t', e'⟩ := r6 he
      subst e'
      have hlt : i < path.length := by rw [r5]; simp; omega
      have hpi : rdOf ByteArray.empty path (i : Int) = s.1 := by
        rw [rdOf_nat, r5, List.getD_eq_getElem?_getD, List.getElem?_append_right (by omega), ha, Nat.sub_self]; rfl
      rw [if_pos he] at hrr
      have h0 := hs.1 he
      have hg := go_at l h s hs he (sayT says i) (sayW says i)
      obtain ⟨x, hx⟩ : ∃ x, x = goOf l s.1 s.2.1 s.2.2 (sayT says i) (sayW says i) := ⟨_, rfl⟩
      have hst := step_ok l h s hs he hl (sayT says i) (sayW says i) x hx
      rw [← hx] at hg hrr
      have hcl := R_closed l h 12 n0 (rk_le l h n0) s.1 hR h0
      have hih := ih (acc ++ [s.1]) (i + 1) (x.1, x.2.1, x.2.2.1) hg.1 (by have := hg.2; simp only; omega) (by rcases hst.2.2.2.2.2.1 with e | e <;> simp only <;> rw [e]; exact hcl.1; exact hcl.2) (by have := hst.2.2.2.2.1; simp only; omega) hst.2.2.2.1 (by simp; omega) (by omega) hrr
      have hplen : path.length ≤ 1048576 → True := fun _ => trivial
      have hsl1 := slotsAt_len l x.1
      have hsl2 := slotsAt_len l s.1
      have hcall : Evn (fun k => laws_FnTop.j3 k l says path (i : Int) S0 S1 S2 s.1 s.2.1 s.2.2 (sayT says i) (sayW says i)) true := by
        refine Evn.succ (f := fun k => (impl_RecGo.f k l s.1 s.2.1 s.2.2 (sayT says i) (sayW says i)).bind fun bt => (if bt.2.2.2 = true then (if 0 ≤ (i : Int) then (if (i : Int) < (path.length : Int) then (if s.1.toList = (rdOf ByteArray.empty path (i : Int)).toList then (if bt.2.1 < s.2.1 then (some false) else (if (wrap64 (bt.2.1 + bt.2.2.1)) > (wrap64 (s.2.1 + s.2.2)) then (some false) else ((impl_RecSlots.f k l bt.1).bind fun t1081 => ((impl_RecSlots.f k l s.1).bind fun t1084 => ((laws_wAll.f k t1081 t1084).bind fun t1087 => (if t1087 = true then (laws_FnTop.l0 k l says path (wrap64 ((i : Int) + 1)) S0 S1 S2 bt.1 bt.2.1 bt.2.2.1) else (some false))))))) else (some false)) else (none)) else (none)) else (some false))) ?_ (fun k => by rw [laws_FnTop.j3])
        refine Evn.bind ⟨80, fun k hk => impl_go l s.1 s.2.1 s.2.2 _ _ k hk⟩ ?_
        rw [← hx]
        refine Evn.yes hst.1 (Evn.yes (by omega) (Evn.yes (by omega) (Evn.yes (by rw [hpi]) (Evn.no hst.2.1 (Evn.no hst.2.2.1 (Evn.bind' (Evn.bind' (Evn.bind (r := true) ⟨100000, fun k hk => all_true (slotsAt l x.1) (slotsAt l s.1) (by omega) (by omega) hst.2.2.2.2.2.2 k (by omega)⟩ (Evn.yes rfl ?_)))))))))
        rw [wrap_id (by omega) (by omega)]
        exact hih
      by_cases c : (i : Int) < (says.length : Int)
      · unfold sayT sayW at hcall
        rw [if_pos c, if_pos c] at hcall
        exact Evn.succ hcall (fun k => by rw [laws_FnTop.l0, if_pos (by omega), if_pos c, if_pos (by omega)])
      · unfold sayT sayW at hcall
        rw [if_neg c, if_neg c] at hcall
        exact Evn.succ hcall (fun k => by rw [laws_FnTop.l0, if_pos (by omega), if_neg c])
    · rw [if_neg he] at hrr
      simp only [Prod.mk.injEq] at hrr
      obtain ⟨rfl, rfl, rfl, rfl⟩ := hrr
      exact Evn.succ (f := fun _ => some true) (Evn.pure _) (fun k => by rw [laws_FnTop.l0, if_neg (by omega)]; simp)
theorem runFrom_len (l : List S39) (says : List S43) (n : Nat) : ∀ (acc : List ByteArray) (i : Nat) (s : ByteArray × Int × Int), (runFrom l says n acc i s).2.2.2.length ≤ acc.length + n := by
  induction n with
  | zero => intro acc i s; simp [runFrom]
  | succ n ih =>
    intro acc i s
    unfold runFrom
    split
    · refine Nat.le_trans (ih _ _ _) ?_
      simp; omega
    · simp
theorem runOf_short (l : List S39) (says : List S43) : (runOf l says).2.2.2.length ≤ 1048576 := by
  unfold runOf
  split
  · exact Nat.le_trans (runFrom_len l says 13 [] 0 _) (by simp)
  · simp
theorem FnTop : laws_FnTop.Pure := by
  intro l _ _ hw
  have hb : ∀ x ∈ l, 0 ≤ x ∧ x ≤ 255 := by
    intro x hx
    have := hw x hx
    simp [Lit.wf, IntKind.min, IntKind.max, IntKind.signed, IntKind.bits] at this
    omega
  refine Evn.ends ?_
  unfold laws_FnTop.f
  by_cases h0 : (l.length : Int) > 1048576
  · exact Evn.yes h0 (Evn.pure _)
  refine Evn.no h0 ?_
  obtain ⟨x, says, hx⟩ := drawnRun l hb 60 (Nat.le_refl _)
  have hmono : ∀ j, spec_DrawRecRun.f (60 + j) l = some (x, says) := by
    intro j
    induction j with
    | zero => exact hx
    | succ j ih => exact spec_DrawRecRun.mono l (60 + j) _ ih
  refine Evn.bind ⟨60, fun k hk => by obtain ⟨j, rfl⟩ : ∃ j, k = 60 + j := ⟨k - 60, by omega⟩; exact hmono j⟩ ?_
  refine Evn.bind ⟨200, fun k hk => impl_run x says k hk⟩ (Evn.bind ⟨1048630, fun k hk => spec_run x says k hk⟩ (Evn.no (by simp) ?_))
  obtain ⟨S, hS⟩ : ∃ S, S = runOf x says := ⟨_, rfl⟩
  simp only
  rw [← hS]
  cases hok : recOk x with
  | false =>
    unfold runOf at hS
    rw [hok, if_neg (by decide)] at hS
    subst hS
    refine Evn.bind (r := true) ⟨1048577, fun k hk => texts_self [] (by simp) k (by simp; omega)⟩ ?_
    refine ⟨100, fun k hk => ?_⟩
    obtain ⟨k, rfl⟩ : ∃ m, k = m + 1 := ⟨k - 1, by omega⟩
    simp only
    rw [laws_FnTop.j0, if_neg (by decide), spec_ok x k (by omega), Option.bind_some, hok, if_neg (by decide)]
    simp [ByteArray.toList_eq]
  | true =>
    have hrun : S = runFrom x says 13 [] 0 (beginOf x) := by rw [hS]; unfold runOf; rw [if_pos hok]
    have hlen := recOk_len x hok
    have hbg : beginOf x = ((rd_T39 x 0).f0, 0, boundOf x (rd_T39 x 0).f0) := by unfold beginOf; rw [if_pos hok]
    have hat := begin_at x hok
    have hrk := rk_le x hok (beginOf x).1
    have hR : R x (rd_T39 x 0).f0 (ltr (beginOf x).1) = true := by rw [hbg]; exact R_self x hok _
    have hbb : (beginOf x).2.1 + boundOf x (beginOf x).1 ≤ boundOf x (rd_T39 x 0).f0 := by rw [hbg]; simp
    have hll : (beginOf x).2.2 = boundOf x (beginOf x).1 := by rw [hbg]
    obtain ⟨r1, r2, r3, r4, t, r5, r6⟩ := run_end x says hok _ 13 [] 0 (beginOf x) hat (by omega) hR hbb hll S hrun
    have hokat := recOk_at x hok 0 (by omega)
    unfold okAt phOk at hokat
    simp only [Bool.and_eq_true, beq_iff_eq] at hokat
    have he0 : endOf (beginOf x).1 = 0 := by rw [hbg]; exact hokat.1.1.1.1.1.1.1.2
    obtain ⟨t', e'⟩ := r6 he0
    subst e'
    rw [List.nil_append] at r5
    have hl0 := ft_loop x says hok (rd_T39 x 0).f0 S.2.2.2 S.1 S.2.1 S.2.2.1 13 [] 0 (beginOf x) hat (by omega) hR hbb hll rfl (by omega) hrun
    have hj1 : Evn (fun k => laws_FnTop.j1 k x says S.2.2.2 false S.1 S.2.1 S.2.2.1) true := by
      refine Evn.succ (f := fun k => (impl_RecBegin.f k x).bind fun bt => laws_FnTop.l0 k x says S.2.2.2 0 S.1 S.2.1 S.2.2.1 bt.1 bt.2.1 bt.2.2) (Evn.bind ⟨80, fun k hk => impl_bg x k hk⟩ hl0) (fun k => by rw [laws_FnTop.j1, if_neg (by decide)])
    have hplen : S.2.2.2.length ≤ 1048576 := by rw [hS]; exact runOf_short x says
    refine Evn.bind (r := true) ⟨1048577, fun k hk => texts_self S.2.2.2 hplen k (by omega)⟩ ?_
    obtain ⟨K, hK⟩ := hj1
    refine ⟨K + 201, fun k hk => ?_⟩
    obtain ⟨k, rfl⟩ : ∃ m, k = m + 4 + 1 := ⟨k - 5, by omega⟩
    have her := endOf_range S.1
    have hcan : canOf x (rd_T39 x 0).f0 (endOf S.1) = true := by
      unfold canOf
      rw [hok, inB_iff.2 ⟨by omega, by omega⟩, (canB_iff x hok (endOf S.1) (by omega) 12 _ (rk_le x hok _)).2 ⟨S.1, r2, rfl⟩]
      rfl
    simp only
    rw [laws_FnTop.j0, if_neg (by decide), spec_ok x _ (by omega), Option.bind_some, hok, if_pos rfl, impl_end S.1 k, Option.bind_some, if_neg r1, if_pos (by omega)]
    simp only [impl_RecCan.f, Option.bind_some]
    rw [hcan, if_pos rfl, impl_rb x _ _ (by omega), Option.bind_some, if_pos hok, if_neg (by omega), if_pos r4, r5, if_neg (by simp; omega), if_pos (by simp), ← r5]
    have hfirst : ((rdOf ByteArray.empty S.2.2.2 0).toList != ((rd_T39 x 0).f0).toList) = false := by
      rw [r5, hbg]
      simp [rdOf]
    rw [hfirst]
    exact hK (k + 4) (by omega)

end Go.Proofs.Ytdkologncoofdaa.Pure
