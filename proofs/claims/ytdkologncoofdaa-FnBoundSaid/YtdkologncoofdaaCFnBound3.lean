/- Part 3 of the texts that the law FnBound reaches: contracts of the functions and plain lemmas. -/
import Derived.Test.YtdkologncoofdaaCFnBound2
-- Px84
namespace Go.Proofs.Ytdkologncoofdaa.P
open Go.RowKit Go.Proofs.YtdkologncoofdaaW.PrintWords Go.Proofs.YtdkologncoofdaaW.PrintLast Go.Proofs.YtdkologncoofdaaW.PrintMore
attribute [local go_sem] max2_int min2_int max_two min_two max_three min_three max_four min_four   -- for this text's walks alone
set_option linter.unusedVariables false
set_option linter.unusedSimpArgs false

/-! ### laws_wTexts: function 23 -/
def laws_wTexts.l0 : Nat → List ByteArray → List ByteArray → Int → Option (Bool)
 | 0, _, _, _ => none
 | k + 1, x0, x1, x5 => if x5 < (x0.length : Int) then (if 0 ≤ x5 then (if x5 < (x1.length : Int) then (if (rdOf ByteArray.empty x0 x5).toList = (rdOf ByteArray.empty x1 x5).toList then (laws_wTexts.l0 k x0 x1 (wrap64 (x5 + 1))) else (some false)) else (none)) else (none)) else (some true)
def laws_wTexts.f (k : Nat) (l0 : List ByteArray) (l1 : List ByteArray) : Option (Bool) := if (l0.length : Int) = (l1.length : Int) then (laws_wTexts.l0 k l0 l1 0) else (some false)
theorem laws_wTexts.mono_l : ∀ k, (∀ y0 y1 y2, LeO (laws_wTexts.l0 k y0 y1 y2) (laws_wTexts.l0 (k + 1) y0 y1 y2))
 | 0 => fun _ _ _ r h => by simp [laws_wTexts.l0] at h
 | k + 1 => by
  have ih0 := laws_wTexts.mono_l k
  ·intro y0 y1 y2
   unfold laws_wTexts.l0
   repeat' first
   | (with_reducible exact ih0 _ _ _)
   | (with_reducible exact LeO.refl _)
   | (with_reducible exact LeO.none _)
   | (with_reducible refine LeO.ite ?_ ?_)
   | (with_reducible refine LeO.bind ?_ (fun _ => ?_))
   | exact ih0 _ _ _
   | exact LeO.none _
   | refine LeO.ite ?_ ?_
   | refine LeO.bind ?_ (fun _ => ?_)
theorem laws_wTexts.mono : ∀ a0 a1 k, LeO (laws_wTexts.f k a0 a1) (laws_wTexts.f (k + 1) a0 a1) := by
 intro a0 a1 k
 have ih0 := laws_wTexts.mono_l k
 unfold laws_wTexts.f
 repeat' first
   | (with_reducible exact ih0 _ _ _)
   | (with_reducible exact LeO.refl _)
   | (with_reducible exact LeO.none _)
   | (with_reducible refine LeO.ite ?_ ?_)
   | (with_reducible refine LeO.bind ?_ (fun _ => ?_))
   | exact ih0 _ _ _
   | exact LeO.none _
   | refine LeO.ite ?_ ?_
   | refine LeO.bind ?_ (fun _ => ?_)
set_option maxHeartbeats 8000000 in
set_option maxRecDepth 100000 in
theorem laws_wTexts.calls (k : Nat) (A0 : Option Addr) (c0 : Nat) (l0 : List ByteArray) (A1 : Option Addr) (c1 : Nat) (l1 : List ByteArray) (r : Bool) (w : World) (hr0 : Kd.C Kd.string w A0 l0.length l0) (hc0 : l0.length ≤ c0) (hr1 : Kd.C Kd.string w A1 l1.length l1) (hc1 : l1.length ≤ c1) (h : laws_wTexts.f k l0 l1 = some r) :
  Calls Try.prog 23 #[.slice A0 l0.length c0, .slice A1 l1.length c1] w fun e w' => e = .returned (.bool r) ∧ Drawn0 w w' := by
 have HR0 := Aside0.mk hr0
 have HC0 := Aside0.mk hc0
 clear hr0 hc0
 have HR1 := Aside0.mk hr1
 have HC1 := Aside0.mk hc1
 clear hr1 hc1
 have H : (if (l0.length : Int) = (l1.length : Int) then (laws_wTexts.l0 k l0 l1 0) else (some false)) = some r := h
 clear h
 by_cases c3 : (l0.length : Int) = (l1.length : Int)
 ·rw [if_pos c3] at H
  have c3b0 : ((l0.length : Int) == (l1.length : Int)) = true := beq_iff_eq.mpr c3
  have c3b1 : ((l0.length : Int) != (l1.length : Int)) = false := bne_eq_false_iff_eq.mpr c3
  have c3b2 : (l0.length == l1.length) = true := by first | simpa using c3 | (simp at c3 ⊢; omega)
  clear c3
  have H' := Aside0.mk H
  clear H
  go_enter Try.func23, Try.ntmps23
  go_wp2
  repeat (go_quiet (fail); try go_wp2)
  go_loopg [5] k (fun kq v5 w' => ∃ (x5_1 : Int), v5 = .int .i64 x5_1 ∧ Aside0 (laws_wTexts.l0 kq l0 l1 x5_1 = some r) ∧ Aside0 (kq ≤ k) ∧ Drawn0 w w')
  case atStart => exact ⟨(0), (by first | rfl | (simp; done) | (simp [*]; done)), H', ⟨Nat.le_refl _⟩, by repeat (first | exact Drawn0.refl _ | apply Drawn0.step)⟩
  case round =>
   clear H'
   try clear c1
   try clear c2
   try clear p2
   try clear c3
   try clear c3b0
   try clear c3b1
   try clear c3b2
   obtain ⟨x5_1, rfl, HA, HK1, ⟨m1, rfl⟩⟩ := hrel
   cases gk with
   | zero => exact absurd HA.out (by simp [laws_wTexts.l0])
   | succ k1 =>
    have H := HA.out
    clear HA
    simp only [laws_wTexts.l0] at H
    by_cases c4 : x5_1 < (l0.length : Int)
    ·rw [if_pos c4] at H
     have c4b0 : decide (x5_1 < (l0.length : Int)) = true := decide_eq_true c4
     clear c4
     by_cases c5 : 0 ≤ x5_1
     ·rw [if_pos c5] at H
      have c5b0 : decide (0 ≤ x5_1) = true := decide_eq_true c5
      clear c5
      by_cases c6 : x5_1 < (l1.length : Int)
      ·rw [if_pos c6] at H
       have c6b0 : decide (x5_1 < (l1.length : Int)) = true := decide_eq_true c6
       clear c6
       by_cases c7 : (rdOf ByteArray.empty l0 x5_1).toList = (rdOf ByteArray.empty l1 x5_1).toList
       ·rw [if_pos c7] at H
        have c7b0 : ((rdOf ByteArray.empty l0 x5_1).toList == (rdOf ByteArray.empty l1 x5_1).toList) = true := beq_iff_eq.mpr c7
        have c7b1 : ((rdOf ByteArray.empty l0 x5_1).toList != (rdOf ByteArray.empty l1 x5_1).toList) = false := bne_eq_false_iff_eq.mpr c7
        clear c7
        have H' := Aside0.mk H
        clear H
        have p965 : 0 ≤ (x5_1 : Int) := oda
        have q965 : x5_1 < (l0.length : Int) := oda
        obtain ⟨ad965, e965, hx965_0⟩ := Kd.at_string HR0.out x5_1 p965 q965
        cases e965
        replace p965 := eq_true p965
        replace q965 := eq_true q965
        have p966 : 0 ≤ (x5_1 : Int) := oda
        have q966 : x5_1 < (l1.length : Int) := oda
        obtain ⟨ad966, e966, hx966_0⟩ := Kd.at_string HR1.out x5_1 p966 q966
        cases e966
        replace p966 := eq_true p966
        replace q966 := eq_true q966
        go_wp2
        repeat (go_quiet (fail); try go_wp2)
        go_roundg k1
        case measure => have := HK1.out; omega
        case rel => exact ⟨(wrap64 (x5_1 + 1)), (by first | rfl | (simp; done) | (simp [*]; done)), H', ⟨by have := HK1.out; omega⟩, by repeat (first | exact Drawn0.refl _ | apply Drawn0.step)⟩
       ·rw [if_neg c7] at H
        have c7b0 : ((rdOf ByteArray.empty l0 x5_1).toList == (rdOf ByteArray.empty l1 x5_1).toList) = false := beq_eq_false_iff_ne.mpr c7
        have c7b1 : ((rdOf ByteArray.empty l0 x5_1).toList != (rdOf ByteArray.empty l1 x5_1).toList) = true := bne_iff_ne.mpr c7
        obtain rfl := Option.some.inj H
        have p965 : 0 ≤ (x5_1 : Int) := oda
        have q965 : x5_1 < (l0.length : Int) := oda
        obtain ⟨ad965, e965, hx965_0⟩ := Kd.at_string HR0.out x5_1 p965 q965
        cases e965
        replace p965 := eq_true p965
        replace q965 := eq_true q965
        have p966 : 0 ≤ (x5_1 : Int) := oda
        have q966 : x5_1 < (l1.length : Int) := oda
        obtain ⟨ad966, e966, hx966_0⟩ := Kd.at_string HR1.out x5_1 p966 q966
        cases e966
        replace p966 := eq_true p966
        replace q966 := eq_true q966
        go_wp2
        repeat (go_quiet (fail); try go_wp2)
        go_ret
        exact ⟨by first | rfl | (simp; done) | (simp [*]; done), by repeat (first | exact Drawn0.refl _ | apply Drawn0.step)⟩
      ·rw [if_neg c6] at H
       exact absurd H (by simp)
     ·rw [if_neg c5] at H
      exact absurd H (by simp)
    ·rw [if_neg c4] at H
     have c4b0 : decide (x5_1 < (l0.length : Int)) = false := decide_eq_false c4
     clear c4
     obtain rfl := Option.some.inj H
     go_wp2
     repeat (go_quiet (fail); try go_wp2)
     go_ret
     exact ⟨by first | rfl | (simp; done) | (simp [*]; done), by repeat (first | exact Drawn0.refl _ | apply Drawn0.step)⟩
 ·rw [if_neg c3] at H
  have c3b0 : ((l0.length : Int) == (l1.length : Int)) = false := beq_eq_false_iff_ne.mpr c3
  have c3b1 : ((l0.length : Int) != (l1.length : Int)) = true := bne_iff_ne.mpr c3
  have c3b2 : (l0.length == l1.length) = false := by first | simpa using c3 | (simp at c3 ⊢; omega)
  obtain rfl := Option.some.inj H
  go_enter Try.func23, Try.ntmps23
  go_wp2
  repeat (go_quiet (fail); try go_wp2)
  go_ret
  exact ⟨by first | rfl | (simp; done) | (simp [*]; done), by repeat (first | exact Drawn0.refl _ | apply Drawn0.step)⟩


/-! ### laws_wHas: function 72 -/
def laws_wHas.l0 : Nat → List ByteArray → ByteArray → Int → Option (Bool)
 | 0, _, _, _ => none
 | k + 1, x0, x1, x5 => if x5 < (x0.length : Int) then (if 0 ≤ x5 then (if (rdOf ByteArray.empty x0 x5).toList = x1.toList then (some true) else (laws_wHas.l0 k x0 x1 (wrap64 (x5 + 1)))) else (none)) else (some false)
def laws_wHas.f (k : Nat) (l0 : List ByteArray) (a1 : ByteArray) : Option (Bool) := laws_wHas.l0 k l0 a1 0
theorem laws_wHas.mono_l : ∀ k, (∀ y0 y1 y2, LeO (laws_wHas.l0 k y0 y1 y2) (laws_wHas.l0 (k + 1) y0 y1 y2))
 | 0 => fun _ _ _ r h => by simp [laws_wHas.l0] at h
 | k + 1 => by
  have ih0 := laws_wHas.mono_l k
  ·intro y0 y1 y2
   unfold laws_wHas.l0
   repeat' first
   | (with_reducible exact ih0 _ _ _)
   | (with_reducible exact LeO.refl _)
   | (with_reducible exact LeO.none _)
   | (with_reducible refine LeO.ite ?_ ?_)
   | (with_reducible refine LeO.bind ?_ (fun _ => ?_))
   | exact ih0 _ _ _
   | exact LeO.none _
   | refine LeO.ite ?_ ?_
   | refine LeO.bind ?_ (fun _ => ?_)
theorem laws_wHas.mono : ∀ a0 a1 k, LeO (laws_wHas.f k a0 a1) (laws_wHas.f (k + 1) a0 a1) := by
 intro a0 a1 k
 have ih0 := laws_wHas.mono_l k
 unfold laws_wHas.f
 repeat' first
   | (with_reducible exact ih0 _ _ _)
   | (with_reducible exact LeO.refl _)
   | (with_reducible exact LeO.none _)
   | (with_reducible refine LeO.ite ?_ ?_)
   | (with_reducible refine LeO.bind ?_ (fun _ => ?_))
   | exact ih0 _ _ _
   | exact LeO.none _
   | refine LeO.ite ?_ ?_
   | refine LeO.bind ?_ (fun _ => ?_)
set_option maxHeartbeats 8000000 in
set_option maxRecDepth 100000 in
theorem laws_wHas.calls (k : Nat) (A0 : Option Addr) (c0 : Nat) (l0 : List ByteArray) (a1 : ByteArray) (r : Bool) (w : World) (hr0 : Kd.C Kd.string w A0 l0.length l0) (hc0 : l0.length ≤ c0) (h : laws_wHas.f k l0 a1 = some r) :
  Calls Try.prog 72 #[.slice A0 l0.length c0, .string a1] w fun e w' => e = .returned (.bool r) ∧ Drawn0 w w' := by
 have HR0 := Aside0.mk hr0
 have HC0 := Aside0.mk hc0
 clear hr0 hc0
 have H : (laws_wHas.l0 k l0 a1 0) = some r := h
 clear h
 have H' := Aside0.mk H
 clear H
 go_enter Try.func72, Try.ntmps72
 go_wp2
 go_loopg [5] k (fun kq v5 w' => ∃ (x5_1 : Int), v5 = .int .i64 x5_1 ∧ Aside0 (laws_wHas.l0 kq l0 a1 x5_1 = some r) ∧ Aside0 (kq ≤ k) ∧ Drawn0 w w')
 case atStart => exact ⟨(0), (by first | rfl | (simp; done) | (simp [*]; done)), H', ⟨Nat.le_refl _⟩, by repeat (first | exact Drawn0.refl _ | apply Drawn0.step)⟩
 case round =>
  clear H'
  try clear p2
  obtain ⟨x5_1, rfl, HA, HK1, ⟨m1, rfl⟩⟩ := hrel
  cases gk with
  | zero => exact absurd HA.out (by simp [laws_wHas.l0])
  | succ k1 =>
   have H := HA.out
   clear HA
   simp only [laws_wHas.l0] at H
   by_cases c3 : x5_1 < (l0.length : Int)
   ·rw [if_pos c3] at H
    have c3b0 : decide (x5_1 < (l0.length : Int)) = true := decide_eq_true c3
    clear c3
    by_cases c4 : 0 ≤ x5_1
    ·rw [if_pos c4] at H
     have c4b0 : decide (0 ≤ x5_1) = true := decide_eq_true c4
     clear c4
     by_cases c5 : (rdOf ByteArray.empty l0 x5_1).toList = a1.toList
     ·rw [if_pos c5] at H
      have c5b0 : ((rdOf ByteArray.empty l0 x5_1).toList == a1.toList) = true := beq_iff_eq.mpr c5
      have c5b1 : ((rdOf ByteArray.empty l0 x5_1).toList != a1.toList) = false := bne_eq_false_iff_eq.mpr c5
      clear c5
      obtain rfl := Option.some.inj H
      have p967 : 0 ≤ (x5_1 : Int) := oda
      have q967 : x5_1 < (l0.length : Int) := oda
      obtain ⟨ad967, e967, hx967_0⟩ := Kd.at_string HR0.out x5_1 p967 q967
      cases e967
      replace p967 := eq_true p967
      replace q967 := eq_true q967
      go_wp2
      go_ret
      exact ⟨by first | rfl | (simp; done) | (simp [*]; done), by repeat (first | exact Drawn0.refl _ | apply Drawn0.step)⟩
     ·rw [if_neg c5] at H
      have c5b0 : ((rdOf ByteArray.empty l0 x5_1).toList == a1.toList) = false := beq_eq_false_iff_ne.mpr c5
      have c5b1 : ((rdOf ByteArray.empty l0 x5_1).toList != a1.toList) = true := bne_iff_ne.mpr c5
      have H' := Aside0.mk H
      clear H
      have p967 : 0 ≤ (x5_1 : Int) := oda
      have q967 : x5_1 < (l0.length : Int) := oda
      obtain ⟨ad967, e967, hx967_0⟩ := Kd.at_string HR0.out x5_1 p967 q967
      cases e967
      replace p967 := eq_true p967
      replace q967 := eq_true q967
      go_wp2
      go_roundg k1
      case measure => have := HK1.out; omega
      case rel => exact ⟨(wrap64 (x5_1 + 1)), (by first | rfl | (simp; done) | (simp [*]; done)), H', ⟨by have := HK1.out; omega⟩, by repeat (first | exact Drawn0.refl _ | apply Drawn0.step)⟩
    ·rw [if_neg c4] at H
     exact absurd H (by simp)
   ·rw [if_neg c3] at H
    have c3b0 : decide (x5_1 < (l0.length : Int)) = false := decide_eq_false c3
    clear c3
    obtain rfl := Option.some.inj H
    go_wp2
    go_ret
    exact ⟨by first | rfl | (simp; done) | (simp [*]; done), by repeat (first | exact Drawn0.refl _ | apply Drawn0.step)⟩


/-! ### laws_wAll: function 29 -/
def laws_wAll.l0 : Nat → List ByteArray → List ByteArray → Int → Option (Bool)
 | 0, _, _, _ => none
 | k + 1, x0, x1, x5 => if x5 < (x0.length : Int) then (if 0 ≤ x5 then ((laws_wHas.f k x1 (rdOf ByteArray.empty x0 x5)).bind fun t969 => (if t969 = true then (laws_wAll.l0 k x0 x1 (wrap64 (x5 + 1))) else (some false))) else (none)) else (some true)
def laws_wAll.f (k : Nat) (l0 : List ByteArray) (l1 : List ByteArray) : Option (Bool) := laws_wAll.l0 k l0 l1 0
theorem laws_wAll.mono_l : ∀ k, (∀ y0 y1 y2, LeO (laws_wAll.l0 k y0 y1 y2) (laws_wAll.l0 (k + 1) y0 y1 y2))
 | 0 => fun _ _ _ r h => by simp [laws_wAll.l0] at h
 | k + 1 => by
  have ih0 := laws_wAll.mono_l k
  ·intro y0 y1 y2
   unfold laws_wAll.l0
   repeat' first
   | (with_reducible exact ih0 _ _ _)
   | (with_reducible exact laws_wHas.mono _ _ _)
   | (with_reducible exact LeO.refl _)
   | (with_reducible exact LeO.none _)
   | (with_reducible refine LeO.ite ?_ ?_)
   | (with_reducible refine LeO.bind ?_ (fun _ => ?_))
   | exact ih0 _ _ _
   | exact laws_wHas.mono _ _ _
   | exact LeO.none _
   | refine LeO.ite ?_ ?_
   | refine LeO.bind ?_ (fun _ => ?_)
theorem laws_wAll.mono : ∀ a0 a1 k, LeO (laws_wAll.f k a0 a1) (laws_wAll.f (k + 1) a0 a1) := by
 intro a0 a1 k
 have ih0 := laws_wAll.mono_l k
 unfold laws_wAll.f
 repeat' first
   | (with_reducible exact ih0 _ _ _)
   | (with_reducible exact laws_wHas.mono _ _ _)
   | (with_reducible exact LeO.refl _)
   | (with_reducible exact LeO.none _)
   | (with_reducible refine LeO.ite ?_ ?_)
   | (with_reducible refine LeO.bind ?_ (fun _ => ?_))
   | exact ih0 _ _ _
   | exact laws_wHas.mono _ _ _
   | exact LeO.none _
   | refine LeO.ite ?_ ?_
   | refine LeO.bind ?_ (fun _ => ?_)
set_option maxHeartbeats 8000000 in
set_option maxRecDepth 100000 in
theorem laws_wAll.calls (k : Nat) (A0 : Option Addr) (c0 : Nat) (l0 : List ByteArray) (A1 : Option Addr) (c1 : Nat) (l1 : List ByteArray) (r : Bool) (w : World) (hr0 : Kd.C Kd.string w A0 l0.length l0) (hc0 : l0.length ≤ c0) (hr1 : Kd.C Kd.string w A1 l1.length l1) (hc1 : l1.length ≤ c1) (h : laws_wAll.f k l0 l1 = some r) :
  Calls Try.prog 29 #[.slice A0 l0.length c0, .slice A1 l1.length c1] w fun e w' => e = .returned (.bool r) ∧ Drawn0 w w' := by
 have HR0 := Aside0.mk hr0
 have HC0 := Aside0.mk hc0
 clear hr0 hc0
 have HR1 := Aside0.mk hr1
 have HC1 := Aside0.mk hc1
 clear hr1 hc1
 have H : (laws_wAll.l0 k l0 l1 0) = some r := h
 clear h
 have H' := Aside0.mk H
 clear H
 go_enter Try.func29, Try.ntmps29
 go_wp2
 go_loopg [5] k (fun kq v5 w' => ∃ (x5_1 : Int), v5 = .int .i64 x5_1 ∧ Aside0 (laws_wAll.l0 kq l0 l1 x5_1 = some r) ∧ Aside0 (kq ≤ k) ∧ Drawn0 w w')
 case atStart => exact ⟨(0), (by first | rfl | (simp; done) | (simp [*]; done)), H', ⟨Nat.le_refl _⟩, by repeat (first | exact Drawn0.refl _ | apply Drawn0.step)⟩
 case round =>
  clear H'
  try clear c1
  try clear c2
  try clear p2
  obtain ⟨x5_1, rfl, HA, HK1, ⟨m1, rfl⟩⟩ := hrel
  cases gk with
  | zero => exact absurd HA.out (by simp [laws_wAll.l0])
  | succ k1 =>
   have H := HA.out
   clear HA
   simp only [laws_wAll.l0] at H
   by_cases c3 : x5_1 < (l0.length : Int)
   ·rw [if_pos c3] at H
    have c3b0 : decide (x5_1 < (l0.length : Int)) = true := decide_eq_true c3
    clear c3
    by_cases c4 : 0 ≤ x5_1
    ·rw [if_pos c4] at H
     have c4b0 : decide (0 ≤ x5_1) = true := decide_eq_true c4
     clear c4
     replace H := Option.bind_eq_some_iff.mp H
     obtain ⟨t969, A50, H⟩ := H
     replace H : (if t969 = true then (laws_wAll.l0 k1 l0 l1 (wrap64 (x5_1 + 1))) else (some false)) = some r := H
     have A5 := Aside0.mk A50
     clear A50
     by_cases c6 : t969 = true
     ·subst c6
      have H1 : (laws_wAll.l0 k1 l0 l1 (wrap64 (x5_1 + 1))) = some r := by rw [if_pos rfl] at H; exact H
      clear H
      have H := H1
      clear H1
      have H' := Aside0.mk H
      clear H
      have p968 : 0 ≤ (x5_1 : Int) := oda
      have q968 : x5_1 < (l0.length : Int) := oda
      obtain ⟨ad968, e968, hx968_0⟩ := Kd.at_string HR0.out x5_1 p968 q968
      cases e968
      replace p968 := eq_true p968
      replace q968 := eq_true q968
      go_wp2_with (first | ((with_reducible refine gate_callee (f := 72) rfl ?_); refine goesL_ (some 17) rfl rfl Try.func72 (by kernel_rfl) rfl #[.slice A1 l1.length c1, .string (rdOf ByteArray.empty l0 x5_1)] rfl mxp ?_; (with_reducible refine (laws_wHas.calls k1 _ _ l1 (rdOf ByteArray.empty l0 x5_1) true _ ?side1 ?side2 A5.out).mono ?_); (case side1 => exact cx HR1.out); (case side2 => exact HC1.out); rintro e w' ⟨rfl, ⟨nd, rfl⟩⟩; refine ⟨_, rfl, ?_⟩))
      go_roundg k1
      case measure => have := HK1.out; omega
      case rel => exact ⟨(wrap64 (x5_1 + 1)), (by first | rfl | (simp; done) | (simp [*]; done)), H', ⟨by have := HK1.out; omega⟩, by repeat (first | exact Drawn0.refl _ | apply Drawn0.step)⟩
     ·replace c6 := Bool.eq_false_iff.mpr c6
      subst c6
      have H1 : (some false) = some r := by rw [if_neg (show ¬ (false = true) by decide)] at H; exact H
      clear H
      have H := H1
      clear H1
      obtain rfl := Option.some.inj H
      have p968 : 0 ≤ (x5_1 : Int) := oda
      have q968 : x5_1 < (l0.length : Int) := oda
      obtain ⟨ad968, e968, hx968_0⟩ := Kd.at_string HR0.out x5_1 p968 q968
      cases e968
      replace p968 := eq_true p968
      replace q968 := eq_true q968
      go_wp2_with (first | ((with_reducible refine gate_callee (f := 72) rfl ?_); refine goesL_ (some 17) rfl rfl Try.func72 (by kernel_rfl) rfl #[.slice A1 l1.length c1, .string (rdOf ByteArray.empty l0 x5_1)] rfl mxp ?_; (with_reducible refine (laws_wHas.calls k1 _ _ l1 (rdOf ByteArray.empty l0 x5_1) false _ ?side1 ?side2 A5.out).mono ?_); (case side1 => exact cx HR1.out); (case side2 => exact HC1.out); rintro e w' ⟨rfl, ⟨nd, rfl⟩⟩; refine ⟨_, rfl, ?_⟩))
      go_ret
      exact ⟨by first | rfl | (simp; done) | (simp [*]; done), by repeat (first | exact Drawn0.refl _ | apply Drawn0.step)⟩
    ·rw [if_neg c4] at H
     exact absurd H (by simp)
   ·rw [if_neg c3] at H
    have c3b0 : decide (x5_1 < (l0.length : Int)) = false := decide_eq_false c3
    clear c3
    obtain rfl := Option.some.inj H
    go_wp2
    go_ret
    exact ⟨by first | rfl | (simp; done) | (simp [*]; done), by repeat (first | exact Drawn0.refl _ | apply Drawn0.step)⟩


/-- A state of type 107 at block g of W; what its slices lead to came in by w0. -/
def IsS107 (w0 W : World) (g : Nat) (f0 : List Int) (f1 : Int) : Prop := ∃ A0 c0, W.heap[g]? = some (.cells #[.slice A0 f0.length c0, .int .i64 f1] 107 (0, 0)) ∧ w0.heap.size ≤ g ∧ Kd.C (Kd.int .u8) w0 A0 f0.length f0
theorem IsS107.grown {w0 W : World} {g : Nat} {f0 : List Int} {f1 : Int} {W1 : World} {row : Option Nat} (h : IsS107 w0 W g f0 f1) (hw : W.grownBy W1 row) (hne : some g ≠ row) : IsS107 w0 W1 g f0 f1 := by
 obtain ⟨A0, c0, hb, hg, hr0⟩ := h
 exact ⟨A0, c0, blk_grown hb hw hne, hg, hr0⟩
theorem IsS107.own_neN {w0 W : World} {g : Nat} {f0 : List Int} {f1 : Int} {α : Type} {d : Kd α} {e : Nat} {base : Nat} {ok : Nat → Prop} {v : Value} {xs : List α} (h : IsS107 w0 W g f0 f1) (ho : Kd.N d e W base ok v xs) (ht : e ≠ 107) : some g ≠ v.ownBlock := by
 obtain ⟨A0, c0, hb, hg, hr0⟩ := h
 exact Kd.N_ne ho hb ht
theorem IsS107.fresh {w0 W : World} {g : Nat} {f0 : List Int} {f1 : Int} (h : IsS107 w0 W g f0 f1) : ∀ k, W.heap.size ≤ k → k ≠ g := by
 obtain ⟨A0, c0, hb, hg, hr0⟩ := h
 exact Kd.freshB hb
theorem IsS107.kept {w0 W : World} {g : Nat} {f0 : List Int} {f1 : Int} {W1 : World} {S : Nat → Prop} (h : IsS107 w0 W g f0 f1) (hk : Kept W W1 S) (hne : ¬ S g) : IsS107 w0 W1 g f0 f1 := by
 obtain ⟨A0, c0, hb, hg, hr0⟩ := h
 exact ⟨A0, c0, blk_kept hb hk hne, hg, hr0⟩
theorem IsS107.below {w0 W : World} {g : Nat} {f0 : List Int} {f1 : Int} {W1 : World} (h : IsS107 w0 W g f0 f1) (hw : Below W.heap.size W W1) : IsS107 w0 W1 g f0 f1 := h.grown (grown_of_below hw none) (by simp)
theorem IsS107.alloc {w0 W : World} {g : Nat} {f0 : List Int} {f1 : Int} (h : IsS107 w0 W g f0 f1) (o : Obj) : IsS107 w0 (W.alloc o) g f0 f1 := h.below (below_alloc (Below.refl _ _) o)
theorem IsS107.drewN {w0 W : World} {g : Nat} {f0 : List Int} {f1 : Int} (h : IsS107 w0 W g f0 f1) (m : Nat) : IsS107 w0 (W.drewN m) g f0 f1 := h
theorem IsS107.drew {w0 W : World} {g : Nat} {f0 : List Int} {f1 : Int} (h : IsS107 w0 W g f0 f1) : IsS107 w0 W.drew g f0 f1 := h
theorem IsS107.at_ {w0 W : World} {g : Nat} {f0 : List Int} {f1 : Int} {w' : World} {m : Nat} (hq : W.drewN m = w') (h : IsS107 w0 W g f0 f1) : IsS107 w0 w' g f0 f1 := by subst hq; exact IsS107.drewN h m
theorem IsS107.apart {w0 W : World} {g : Nat} {f0 : List Int} {f1 : Int} {α : Type} {d : Kd α} {e : Nat} {base : Nat} {ok : Nat → Prop} {v : Value} {xs : List α} (h : IsS107 w0 W g f0 f1) (ho : d.R e W base ok v xs) (ht : ∀ q, q ∈ e :: d.E → q ≠ 107) : d.R e W base (fun k => ok k ∧ k ≠ g) v xs := by
 obtain ⟨A0, c0, hb, hg, hr0⟩ := h
 exact Kd.R_types ho hb ht
theorem IsS107.own_ne {w0 W : World} {g : Nat} {f0 : List Int} {f1 : Int} {α : Type} {d : Kd α} {e : Nat} {base : Nat} {ok : Nat → Prop} {v : Value} {xs : List α} (h : IsS107 w0 W g f0 f1) (ho : d.R e W base ok v xs) (ht : e ≠ 107) : some g ≠ v.ownBlock := by
 obtain ⟨A0, c0, hb, hg, hr0⟩ := h
 exact Kd.R_ne ho hb ht
theorem IsS107.apartQ {w0 W : World} {g : Nat} {f0 : List Int} {f1 : Int} {α : Type} {d : Kd α} {e : Nat} {base : Nat} {ok : Nat → Prop} {v : Value} {xs : List α} (h : IsS107 w0 W g f0 f1) (ho : d.Q e W base ok v xs) (ht : ∀ q, q ∈ e :: d.E → q ≠ 107) : d.Q e W base (fun k => ok k ∧ k ≠ g) v xs := by
 obtain ⟨A0, c0, hb, hg, hr0⟩ := h
 exact Kd.Q_types ho hb ht
theorem IsS107.own_neQ {w0 W : World} {g : Nat} {f0 : List Int} {f1 : Int} {α : Type} {d : Kd α} {e : Nat} {base : Nat} {ok : Nat → Prop} {v : Value} {xs : List α} (h : IsS107 w0 W g f0 f1) (ho : d.Q e W base ok v xs) (ht : e ≠ 107) : some g ≠ v.ownBlock := by
 obtain ⟨A0, c0, hb, hg, hr0⟩ := h
 exact Kd.Q_ne ho hb ht
theorem IsS107.apartS {w0 W : World} {g : Nat} {f0 : List Int} {f1 : Int} {α : Type} {d : Kd α} {e : Nat} {base : Nat} {ok : Nat → Prop} {v : Value} {xs : List α} (h : IsS107 w0 W g f0 f1) (ho : d.S e W base ok v xs) (ht : ∀ q, q ∈ e :: d.E → q ≠ 107) : d.S e W base (fun k => ok k ∧ k ≠ g) v xs := by
 obtain ⟨A0, c0, hb, hg, hr0⟩ := h
 exact Kd.S_types ho hb ht
theorem IsS107.own_neS {w0 W : World} {g : Nat} {f0 : List Int} {f1 : Int} {α : Type} {d : Kd α} {e : Nat} {base : Nat} {ok : Nat → Prop} {v : Value} {xs : List α} (h : IsS107 w0 W g f0 f1) (ho : d.S e W base ok v xs) (ht : e ≠ 107) : some g ≠ v.ownBlock := by
 obtain ⟨A0, c0, hb, hg, hr0⟩ := h
 exact Kd.S_ne ho hb ht
theorem IsS107.lt {w0 W : World} {g : Nat} {f0 : List Int} {f1 : Int} (h : IsS107 w0 W g f0 f1) : g < W.heap.size := by
 obtain ⟨A0, c0, hb, hg, hr0⟩ := h
 exact blk_lt hb
theorem IsS107.ge {w0 W : World} {g : Nat} {f0 : List Int} {f1 : Int} (h : IsS107 w0 W g f0 f1) : w0.heap.size ≤ g := by
 obtain ⟨A0, c0, hb, hg, hr0⟩ := h
 exact hg
theorem IsS107.ne_blk {w0 W : World} {g : Nat} {f0 : List Int} {f1 : Int} {a : Nat} {cs : Array Value} {t : TypeId} {fr : Nat × Nat} (h : IsS107 w0 W g f0 f1) (hb2 : W.heap[a]? = some (.cells cs t fr)) (ht : t ≠ 107) : g ≠ a := by
 obtain ⟨A0, c0, hb, hg, hr0⟩ := h
 rintro rfl
 rw [hb] at hb2
 injection hb2 with hb2
 injection hb2 with _ ht2
 exact ht ht2.symm
theorem IsS107.far {w0 W : World} {g : Nat} {f0 : List Int} {f1 : Int} {p : Addr} (h : IsS107 w0 W g f0 f1) (hne : g ≠ p.block) (u : Value) : IsS107 w0 (W.setCell p u) g f0 f1 := by
 obtain ⟨A0, c0, hb, hg, hr0⟩ := h
 exact ⟨A0, c0, blk_far hb hne u, hg, hr0⟩
theorem cellS107_0 {W : World} {g : Nat} {A0 : Option Addr} {c0 : Nat} {f0 : List Int} {f1 : Int} (h : W.heap[g]? = some (.cells #[.slice A0 f0.length c0, .int .i64 f1] 107 (0, 0))) : W.cell? ⟨g, 0, none⟩ = some (.slice A0 f0.length c0) := (blk_cell h 0).trans rfl
theorem cellS107_1 {W : World} {g : Nat} {A0 : Option Addr} {c0 : Nat} {f0 : List Int} {f1 : Int} (h : W.heap[g]? = some (.cells #[.slice A0 f0.length c0, .int .i64 f1] 107 (0, 0))) : W.cell? ⟨g, 1, none⟩ = some (.int .i64 f1) := (blk_cell h 1).trans rfl
theorem IsS107.set_1 {w0 W : World} {g : Nat} {f0 : List Int} {f1 : Int} (h : IsS107 w0 W g f0 f1) (x : Int) : IsS107 w0 (W.setCell ⟨g, 1, none⟩ (.int .i64 x)) g f0 x := by
 obtain ⟨A0, c0, hb, hg, hr0⟩ := h
 exact ⟨A0, c0, by simpa using blk_set hb 1 (.int .i64 x), hg, hr0⟩
theorem IsS107.new (w0 W : World) (A0 : Option Addr) (c0 : Nat) (f0 : List Int) (f1 : Int) (hB : Below w0.heap.size w0 W) (hr0 : Kd.C (Kd.int .u8) w0 A0 f0.length f0) : IsS107 w0 (W.alloc (.cells #[.slice A0 f0.length c0, .int .i64 f1] 107)) W.heap.size f0 f1 := ⟨A0, c0, by simpa using heap_alloc_new W _, hB.size, hr0⟩

/-! ### spec_l1Open: function 62 -/
def spec_l1Open.f (l0 : List Int) : Option (List Int × Int) := if (l0.length : Int) > 2000 then (if 2000 ≤ (l0.length : Int) then (some (l0.take 2000, 0)) else (none)) else (some (l0, 0))
set_option maxHeartbeats 8000000 in
set_option maxRecDepth 100000 in
theorem spec_l1Open.calls (A0 : Option Addr) (c0 : Nat) (l0 : List Int) (r1 : List Int) (r2 : Int) (w0 w : World) (hB : Below w0.heap.size w0 w) (hr0 : Kd.C (Kd.int .u8) w0 A0 l0.length l0) (hc0 : l0.length ≤ c0) (h : spec_l1Open.f l0 = some (r1, r2)) :
  Calls Try.prog 62 #[.slice A0 l0.length c0] w fun e w' => ∃ g_ : Nat, e = .returned (.pointer (some ⟨g_, 0, none⟩)) ∧ IsS107 w0 w' g_ r1 r2 ∧ Below w0.heap.size w0 w' ∧ Below w.heap.size w w' := by
 have hu107 := Try.underlying107
 have HR0 := Aside0.mk hr0
 have HC0 := Aside0.mk hc0
 clear hr0 hc0
 have HBW := Aside0.mk (Below.refl w.heap.size w)
 have HW0 := Aside0.mk hB.size
 have HB := Aside0.mk hB
 clear hB
 have H : (if (l0.length : Int) > 2000 then (if 2000 ≤ (l0.length : Int) then (some (l0.take 2000, 0)) else (none)) else (some (l0, 0))) = some (r1, r2) := h
 clear h
 by_cases c2 : (l0.length : Int) > 2000
 ·rw [if_pos c2] at H
  have c2b0 : decide (2000 < (l0.length : Int)) = true := decide_eq_true c2
  have c2b1 : decide (2000 < l0.length) = true := decide_eq_true (by omega)
  clear c2
  by_cases c3 : 2000 ≤ (l0.length : Int)
  ·rw [if_pos c3] at H
   have c3b0 := eq_true c3
   have c3b1 : decide (2000 ≤ (l0.length : Int)) = true := decide_eq_true c3
   clear c3
   simp only [Option.some.injEq, Prod.mk.injEq] at H
   obtain ⟨rfl, rfl⟩ := H
   obtain ⟨i04, hi04, _, hsz4, _⟩ := info_parts info5
   obtain ⟨hcut4, hA4, hC4⟩ := print_take_of (P := Try.prog) (Value.int .u8) 0 25 5 .i64 Try.underlying25 hi04 hsz4 A0 c0 l0 2000 (by omega) (oda) HC0.out
   have HR185 := Aside0.mk (Kd.C_of_reads (h1 := fun _ => rfl) (hA4 _ (Kd.reads_of_C HR0.out)))
   have HC185 := Aside0.mk hC4
   clear hA4 hC4 hi04 hsz4
   go_enter Try.func62, Try.ntmps62
   go_wp2_with (first | ((with_reducible refine gate_dst (N := 10) rfl ?_); refine box_event ?hg (N := 10) ?hd (cs := #[.slice A0 (l0.take 2000).length c0, .int .i64 0]) (t := 107) ?hr ?_; (case hd => rfl); (case hg => rfl); (case hr => first | (go_simp; done) | (go_simp; rfl)); intro gb186 hg w5 hbox hb; have n0_ := Aside0.mk (below_step HBW.out hb); have n1_ := bs HB hb; have n2_ := Aside0.mk (hbox); have n3_ := gh hg HBW; have n4_ := Aside0.mk ((Nat.le_trans HW0.out (by rw [hg]; exact (below_size (bw HBW.out)) : w.heap.size ≤ gb186) : w0.heap.size ≤ gb186)); clear HBW; clear HB; have HBW := n0_; have HB := n1_; have BK186 := n2_; have GW186 := n3_; have GE186 := n4_; clear n0_ n1_ n2_ n3_ n4_; clear hb hbox hg))
   go_ret
   exact ⟨_, rfl, (show IsS107 w0 _ gb186 (l0.take 2000) 0 from ⟨_, _, by refine bx ?_; exact BK186.out, GE186.out, HR185.out⟩), bw HB.out, bw HBW.out⟩
  ·rw [if_neg c3] at H
   exact absurd H (by simp)
 ·rw [if_neg c2] at H
  have c2b0 : decide (2000 < (l0.length : Int)) = false := decide_eq_false c2
  have c2b1 : decide (2000 < l0.length) = false := decide_eq_false (by omega)
  clear c2
  simp only [Option.some.injEq, Prod.mk.injEq] at H
  obtain ⟨rfl, rfl⟩ := H
  go_enter Try.func62, Try.ntmps62
  go_wp2_with (first | ((with_reducible refine gate_dst (N := 10) rfl ?_); refine box_event ?hg (N := 10) ?hd (cs := #[.slice A0 l0.length c0, .int .i64 0]) (t := 107) ?hr ?_; (case hd => rfl); (case hg => rfl); (case hr => first | (go_simp; done) | (go_simp; rfl)); intro gb187 hg w6 hbox hb; have n0_ := Aside0.mk (below_step HBW.out hb); have n1_ := bs HB hb; have n2_ := Aside0.mk (hbox); have n3_ := gh hg HBW; have n4_ := Aside0.mk ((Nat.le_trans HW0.out (by rw [hg]; exact (below_size (bw HBW.out)) : w.heap.size ≤ gb187) : w0.heap.size ≤ gb187)); clear HBW; clear HB; have HBW := n0_; have HB := n1_; have BK187 := n2_; have GW187 := n3_; have GE187 := n4_; clear n0_ n1_ n2_ n3_ n4_; clear hb hbox hg))
  go_ret
  exact ⟨_, rfl, (show IsS107 w0 _ gb187 l0 0 from ⟨_, _, by refine bx ?_; exact BK187.out, GE187.out, HR0.out⟩), bw HB.out, bw HBW.out⟩

end Go.Proofs.Ytdkologncoofdaa.P
-- Short2
namespace Go.Proofs.Ytdkologncoofdaa.P
open Go.RowKit Go.Proofs.YtdkologncoofdaaW.PrintWords Go.Proofs.YtdkologncoofdaaW.PrintLast Go.Proofs.YtdkologncoofdaaW.PrintMore
/-! Short words, where a reader's struct lies in memory. -/
theorem ib {P Q : Prop} (h : Q) (f : Q → P := by intro h; repeat (first | (with_reducible first | exact h | apply IsS107.alloc | apply IsS107.drewN | apply IsS107.drew | apply IsS107.set_1 | refine IsS107.far ?_ (Aside0.out (by assumption)) _) | exact h)) : P := f h
theorem bi {P Q : Prop} (h : Q) (f : Q → P := by intro h; repeat (first | (with_reducible first | exact h | apply below_alloc | apply pw_below_drewN | apply below_drew1 | refine below_set ?_ (Aside0.out (by assumption)) | refine below_set ?_ (IsS107.ge (Aside0.out (by assumption)))) | exact h)) : P := f h
theorem hbi {P Q : Prop} (h : Aside0 Q) (f : Q → P := by intro h; repeat (first | (with_reducible first | exact h | apply below_alloc | apply pw_below_drewN | apply below_drew1 | refine below_set ?_ (Aside0.out (by assumption)) | refine below_set ?_ (IsS107.ge (Aside0.out (by assumption)))) | exact h)) : Aside0 P := ⟨f h.out⟩
theorem bsi {w W W' w2 : World} (h : Aside0 (Below w.heap.size w W)) (hb : Below W'.heap.size W' w2) (f : Below w.heap.size w W → Below w.heap.size w W' := by intro h; repeat (first | (with_reducible first | exact h | apply below_alloc | apply pw_below_drewN | apply below_drew1 | refine below_set ?_ (Aside0.out (by assumption)) | refine below_set ?_ (IsS107.ge (Aside0.out (by assumption)))) | exact h)) : Aside0 (Below w.heap.size w w2) := ⟨below_step (f h.out) hb⟩
end Go.Proofs.Ytdkologncoofdaa.P
-- Px21
namespace Go.Proofs.Ytdkologncoofdaa.P
open Go.RowKit Go.Proofs.YtdkologncoofdaaW.PrintWords Go.Proofs.YtdkologncoofdaaW.PrintLast Go.Proofs.YtdkologncoofdaaW.PrintMore
attribute [local go_sem] max2_int min2_int max_two min_two max_three min_three max_four min_four   -- for this text's walks alone
set_option linter.unusedVariables false
set_option linter.unusedSimpArgs false

/-! ### spec_l1Rd_pick: function 64 -/
def spec_l1Rd_pick.j0 : Nat → Int → Bool → List Int → Int → Option (Int × Int)
 | 0, _, _, _, _ => none
 | k + 1, x1, x24, x1000, x1001 => if x24 = true then (some (0, x1001)) else (if (wrap64 (x1001 - 1)) < (x1000.length : Int) then (if 0 ≤ (wrap64 (x1001 - 1)) then (if x1 = 0 then (none) else (some (Int.tmod (wrap64 (rd x1000 (wrap64 (x1001 - 1)))) x1, x1001))) else (none)) else (if (x1000.length : Int) = 0 then (none) else (if 0 ≤ (Int.tmod (wrap64 (x1001 - 1)) (x1000.length : Int)) then (if (Int.tmod (wrap64 (x1001 - 1)) (x1000.length : Int)) < (x1000.length : Int) then (if 0 ≤ (Int.tmod (wrap64 ((wrap64 ((wrap64 (x1001 - 1)) * 7)) + 3)) (x1000.length : Int)) then (if (Int.tmod (wrap64 ((wrap64 ((wrap64 (x1001 - 1)) * 7)) + 3)) (x1000.length : Int)) < (x1000.length : Int) then (if x1 = 0 then (none) else (some (Int.tmod (Go.bits .xor .i64 (wrap64 ((wrap64 ((wrap64 ((wrap64 ((wrap64 (rd x1000 (Int.tmod (wrap64 (x1001 - 1)) (x1000.length : Int)))) * 131)) + (wrap64 ((wrap64 (rd x1000 (Int.tmod (wrap64 ((wrap64 ((wrap64 (x1001 - 1)) * 7)) + 3)) (x1000.length : Int)))) * 1117)))) + (wrap64 ((wrap64 (x1001 - 1)) * 29)))) + (wrap64 ((wrap64 (Int.tdiv (wrap64 (x1001 - 1)) (x1000.length : Int))) * 53)))) (wrap64 (Int.tdiv (wrap64 ((wrap64 ((wrap64 ((wrap64 ((wrap64 (rd x1000 (Int.tmod (wrap64 (x1001 - 1)) (x1000.length : Int)))) * 131)) + (wrap64 ((wrap64 (rd x1000 (Int.tmod (wrap64 ((wrap64 ((wrap64 (x1001 - 1)) * 7)) + 3)) (x1000.length : Int)))) * 1117)))) + (wrap64 ((wrap64 (x1001 - 1)) * 29)))) + (wrap64 ((wrap64 (Int.tdiv (wrap64 (x1001 - 1)) (x1000.length : Int))) * 53)))) 64))) x1, x1001))) else (none)) else (none)) else (none)) else (none))))
def spec_l1Rd_pick.f (k : Nat) (s0_0 : List Int) (s0_1 : Int) (a1 : Int) : Option (Int × Int) := if a1 < 1 then (spec_l1Rd_pick.j0 k a1 true s0_0 (wrap64 (s0_1 + 1))) else (spec_l1Rd_pick.j0 k a1 ((s0_0.length : Int) == 0) s0_0 (wrap64 (s0_1 + 1)))
theorem spec_l1Rd_pick.mono_l : ∀ k, (∀ y0 y1 y2 y3, LeO (spec_l1Rd_pick.j0 k y0 y1 y2 y3) (spec_l1Rd_pick.j0 (k + 1) y0 y1 y2 y3))
 | 0 => fun _ _ _ _ r h => by simp [spec_l1Rd_pick.j0] at h
 | k + 1 => by
  have ih0 := spec_l1Rd_pick.mono_l k
  ·intro y0 y1 y2 y3
   unfold spec_l1Rd_pick.j0
   repeat' first
   | (with_reducible exact ih0 _ _ _ _)
   | (with_reducible exact LeO.refl _)
   | (with_reducible exact LeO.none _)
   | (with_reducible refine LeO.ite ?_ ?_)
   | (with_reducible refine LeO.bind ?_ (fun _ => ?_))
   | exact ih0 _ _ _ _
   | exact LeO.none _
   | refine LeO.ite ?_ ?_
   | refine LeO.bind ?_ (fun _ => ?_)
theorem spec_l1Rd_pick.mono : ∀ a0 a1 a2 k, LeO (spec_l1Rd_pick.f k a0 a1 a2) (spec_l1Rd_pick.f (k + 1) a0 a1 a2) := by
 intro a0 a1 a2 k
 have ih0 := spec_l1Rd_pick.mono_l k
 unfold spec_l1Rd_pick.f
 repeat' first
   | (with_reducible exact ih0 _ _ _ _)
   | (with_reducible exact LeO.refl _)
   | (with_reducible exact LeO.none _)
   | (with_reducible refine LeO.ite ?_ ?_)
   | (with_reducible refine LeO.bind ?_ (fun _ => ?_))
   | exact ih0 _ _ _ _
   | exact LeO.none _
   | refine LeO.ite ?_ ?_
   | refine LeO.bind ?_ (fun _ => ?_)
set_option maxHeartbeats 8000000 in
set_option maxRecDepth 100000 in
theorem spec_l1Rd_pick.calls (k : Nat) (g : Nat) (s0_0 : List Int) (s0_1 : Int) (a1 : Int) (r1 : Int) (r2 : Int) (w0 w : World) (hI : IsS107 w0 w g s0_0 s0_1) (hB : Below w0.heap.size w0 w) (h : spec_l1Rd_pick.f k s0_0 s0_1 a1 = some (r1, r2)) :
  Calls Try.prog 64 #[.pointer (some ⟨g, 0, none⟩), .int .i64 a1] w fun e w' => e = .returned (.int .i64 r1) ∧ IsS107 w0 w' g s0_0 r2 ∧ Below w0.heap.size w0 w' ∧ KeepBut w w' g none := by
 have HI0 := Aside0.mk hI
 have HK := Aside0.mk (KeepBut.refl w g none)
 have HL := Aside0.mk hB.size
 clear hI
 have HW0 := Aside0.mk hB.size
 have HB := Aside0.mk hB
 clear hB
 have H : (if a1 < 1 then (spec_l1Rd_pick.j0 k a1 true s0_0 (wrap64 (s0_1 + 1))) else (spec_l1Rd_pick.j0 k a1 ((s0_0.length : Int) == 0) s0_0 (wrap64 (s0_1 + 1)))) = some (r1, r2) := h
 clear h
 have HC3 := Aside0.mk H
 clear H
 obtain ⟨ASz4_0, cSz4_0, HGz4, hgz4, HSz4_0⟩ := HI0.out
 have hcz4_0 := cellS107_0 HGz4
 have hcz4_1 := cellS107_1 HGz4
 have hfz4_1 := blk_frozen HGz4 1
 clear HGz4 hgz4
 go_enter Try.func64, Try.ntmps64
 go_upto_region 2 with (fail)
 repeat (go_quiet (fail); go_upto_region 2 with (fail))
 go_cut [24] (fun v24 wc => ∃ (kq : Nat) (x24_2 : Bool), v24 = .bool x24_2 ∧ Aside0 (spec_l1Rd_pick.j0 kq a1 x24_2 s0_0 (wrap64 (s0_1 + 1)) = some (r1, r2)) ∧ Aside0 (kq ≤ k) ∧ Aside0 (IsS107 w0 wc g s0_0 (wrap64 (s0_1 + 1))) ∧ Aside0 (KeepBut w wc g none) ∧ Aside0 (Below w0.heap.size w0 wc))
 case first =>
  have H := HC3.out
  clear HC3
  by_cases c5 : a1 < 1
  ·rw [if_pos c5] at H
   have c5b0 : decide (a1 < 1) = true := decide_eq_true c5
   clear c5
   (first | rw [c5b0] | (simp only [i64_w, i32_w]; rw [c5b0]) | skip)
   have H' := Aside0.mk H
   clear H
   go_wp2
   repeat (go_quiet (fail); try go_wp2)
   go_meet
   case rel => exact ⟨_, (true), (by first | rfl | (simp; done) | (simp [*]; done)), H', ⟨by first | omega | exact Nat.le_refl _⟩, ⟨ib HI0.out⟩, ⟨kb HK.out⟩, (hbi HB)⟩
  ·rw [if_neg c5] at H
   have c5b0 : decide (a1 < 1) = false := decide_eq_false c5
   clear c5
   (first | rw [c5b0] | (simp only [i64_w, i32_w]; rw [c5b0]) | skip)
   have H' := Aside0.mk H
   clear H
   obtain ⟨ASz6_0, cSz6_0, HGz6, hgz6, HSz6_0⟩ := HI0.out
   have hcz6_0 := cellS107_0 HGz6
   have hcz6_1 := cellS107_1 HGz6
   have hfz6_1 := blk_frozen HGz6 1
   clear HGz6 hgz6
   go_wp2
   repeat (go_quiet (fail); try go_wp2)
   go_meet
   case rel => exact ⟨_, (((s0_0.length : Int) == 0)), (by first | rfl | (simp; done) | (simp [*]; done)), H', ⟨by first | omega | exact Nat.le_refl _⟩, ⟨ib HI0.out⟩, ⟨kb HK.out⟩, (hbi HB)⟩
 case rest =>
  clear HC3
  try clear p2
  try clear c5
  try clear c5b0
  try clear c6
  try clear p6
  try clear hcz4_0
  try clear hcz4_1
  try clear hcz6_0
  try clear hcz6_1
  try clear hfz4_1
  try clear hfz6_1
  obtain ⟨kq, x24_2, rfl, HA, HJ2, HI0, HK, HB⟩ := hcut
  cases kq with
  | zero => exact absurd HA.out (by simp [spec_l1Rd_pick.j0])
  | succ kj2 =>
   have H := HA.out
   clear HA
   simp only [spec_l1Rd_pick.j0] at H
   by_cases c7 : x24_2 = true
   ·subst c7
    have H1 : (some (0, (wrap64 (s0_1 + 1)))) = some (r1, r2) := by rw [if_pos rfl] at H; exact H
    clear H
    have H := H1
    clear H1
    simp only [Option.some.injEq, Prod.mk.injEq] at H
    obtain ⟨rfl, rfl⟩ := H
    go_wp2
    repeat (go_quiet (fail); try go_wp2)
    go_ret
    exact ⟨exq, ib HI0.out, bi HB.out, kb HK.out⟩
   ·replace c7 := Bool.eq_false_iff.mpr c7
    subst c7
    have H1 : (if (wrap64 ((wrap64 (s0_1 + 1)) - 1)) < (s0_0.length : Int) then (if 0 ≤ (wrap64 ((wrap64 (s0_1 + 1)) - 1)) then (if a1 = 0 then (none) else (some (Int.tmod (wrap64 (rd s0_0 (wrap64 ((wrap64 (s0_1 + 1)) - 1)))) a1, (wrap64 (s0_1 + 1))))) else (none)) else (if (s0_0.length : Int) = 0 then (none) else (if 0 ≤ (Int.tmod (wrap64 ((wrap64 (s0_1 + 1)) - 1)) (s0_0.length : Int)) then (if (Int.tmod (wrap64 ((wrap64 (s0_1 + 1)) - 1)) (s0_0.length : Int)) < (s0_0.length : Int) then (if 0 ≤ (Int.tmod (wrap64 ((wrap64 ((wrap64 ((wrap64 (s0_1 + 1)) - 1)) * 7)) + 3)) (s0_0.length : Int)) then (if (Int.tmod (wrap64 ((wrap64 ((wrap64 ((wrap64 (s0_1 + 1)) - 1)) * 7)) + 3)) (s0_0.length : Int)) < (s0_0.length : Int) then (if a1 = 0 then (none) else (some (Int.tmod (Go.bits .xor .i64 (wrap64 ((wrap64 ((wrap64 ((wrap64 ((wrap64 (rd s0_0 (Int.tmod (wrap64 ((wrap64 (s0_1 + 1)) - 1)) (s0_0.length : Int)))) * 131)) + (wrap64 ((wrap64 (rd s0_0 (Int.tmod (wrap64 ((wrap64 ((wrap64 ((wrap64 (s0_1 + 1)) - 1)) * 7)) + 3)) (s0_0.length : Int)))) * 1117)))) + (wrap64 ((wrap64 ((wrap64 (s0_1 + 1)) - 1)) * 29)))) + (wrap64 ((wrap64 (Int.tdiv (wrap64 ((wrap64 (s0_1 + 1)) - 1)) (s0_0.length : Int))) * 53)))) (wrap64 (Int.tdiv (wrap64 ((wrap64 ((wrap64 ((wrap64 ((wrap64 (rd s0_0 (Int.tmod (wrap64 ((wrap64 (s0_1 + 1)) - 1)) (s0_0.length : Int)))) * 131)) + (wrap64 ((wrap64 (rd s0_0 (Int.tmod (wrap64 ((wrap64 ((wrap64 ((wrap64 (s0_1 + 1)) - 1)) * 7)) + 3)) (s0_0.length : Int)))) * 1117)))) + (wrap64 ((wrap64 ((wrap64 (s0_1 + 1)) - 1)) * 29)))) + (wrap64 ((wrap64 (Int.tdiv (wrap64 ((wrap64 (s0_1 + 1)) - 1)) (s0_0.length : Int))) * 53)))) 64))) a1, (wrap64 (s0_1 + 1))))) else (none)) else (none)) else (none)) else (none)))) = some (r1, r2) := by rw [if_neg (show ¬ (false = true) by decide)] at H; exact H
    clear H
    have H := H1
    clear H1
    by_cases c8 : (wrap64 ((wrap64 (s0_1 + 1)) - 1)) < (s0_0.length : Int)
    ·rw [if_pos c8] at H
     have c8b0 : decide ((wrap64 ((wrap64 (s0_1 + 1)) - 1)) < (s0_0.length : Int)) = true := decide_eq_true c8
     clear c8
     obtain ⟨ji9, hji9⟩ : ∃ j_ : Int, (wrap64 ((wrap64 (s0_1 + 1)) - 1)) = j_ := ⟨_, rfl⟩
     replace H : (if 0 ≤ (ji9) then (if a1 = 0 then (none) else (some (Int.tmod (wrap64 (rd s0_0 (ji9))) a1, (wrap64 (s0_1 + 1))))) else (none)) = some (r1, r2) := by first | (rw [hji9] at H; exact H) | (simp only [hji9] at H ⊢; exact H)
     (try rw [hji9] at c8b0)
     have hji9w : (IntKind.i64.wrap ((wrap64 (s0_1 + 1)) - 1)) = ji9 := (i64_w _).trans hji9
     by_cases c10 : 0 ≤ (ji9)
     ·rw [if_pos c10] at H
      have c10b0 : decide (0 ≤ (ji9)) = true := decide_eq_true c10
      clear c10
      by_cases c11 : a1 = 0
      ·rw [if_pos c11] at H
       exact absurd H (by simp)
      ·rw [if_neg c11] at H
       have c11b0 : (a1 == 0) = false := beq_eq_false_iff_ne.mpr c11
       have c11b1 : (a1 != 0) = true := bne_iff_ne.mpr c11
       simp only [Option.some.injEq, Prod.mk.injEq] at H
       obtain ⟨rfl, rfl⟩ := H
       obtain ⟨ASz12_0, cSz12_0, HGz12, hgz12, HSz12_0⟩ := HI0.out
       have hcz12_0 := cellS107_0 HGz12
       have hcz12_1 := cellS107_1 HGz12
       have hfz12_1 := blk_frozen HGz12 1
       clear HGz12 hgz12
       have p188 : 0 ≤ ((ji9) : Int) := oda
       have q188 : (ji9) < (s0_0.length : Int) := oda
       obtain ⟨ad188, e188, hx188_0⟩ := Kd.at_int HSz12_0 (ji9) p188 q188
       cases e188
       replace hx188_0 := pw_cell_below HB.out hx188_0
       replace p188 := eq_true p188
       replace q188 := eq_true q188
       go_wp2
       repeat (go_quiet (fail); try go_wp2)
       go_ret
       exact ⟨by first | rfl | (simp [errW_none, errW_some] <;> rfl) | (simp only [← hji9]; first | rfl | (simp [errW_none, errW_some] <;> rfl)) | (simp [*, errW_none, errW_some] <;> rfl), ib HI0.out, bi HB.out, kb HK.out⟩
     ·rw [if_neg c10] at H
      exact absurd H (by simp)
    ·rw [if_neg c8] at H
     have c8b0 : decide ((wrap64 ((wrap64 (s0_1 + 1)) - 1)) < (s0_0.length : Int)) = false := decide_eq_false c8
     clear c8
     by_cases c13 : (s0_0.length : Int) = 0
     ·rw [if_pos c13] at H
      exact absurd H (by simp)
     ·rw [if_neg c13] at H
      have c13b0 : ((s0_0.length : Int) == 0) = false := beq_eq_false_iff_ne.mpr c13
      have c13b1 : ((s0_0.length : Int) != 0) = true := bne_iff_ne.mpr c13
      have c13b2 : ¬ (s0_0 = []) := fun h_ => c13 (by rw [h_]; rfl)
      obtain ⟨ji14, hji14⟩ : ∃ j_ : Int, (Int.tmod (wrap64 ((wrap64 (s0_1 + 1)) - 1)) (s0_0.length : Int)) = j_ := ⟨_, rfl⟩
      replace H : (if 0 ≤ (ji14) then (if (ji14) < (s0_0.length : Int) then (if 0 ≤ (Int.tmod (wrap64 ((wrap64 ((wrap64 ((wrap64 (s0_1 + 1)) - 1)) * 7)) + 3)) (s0_0.length : Int)) then (if (Int.tmod (wrap64 ((wrap64 ((wrap64 ((wrap64 (s0_1 + 1)) - 1)) * 7)) + 3)) (s0_0.length : Int)) < (s0_0.length : Int) then (if a1 = 0 then (none) else (some (Int.tmod (Go.bits .xor .i64 (wrap64 ((wrap64 ((wrap64 ((wrap64 ((wrap64 (rd s0_0 (ji14))) * 131)) + (wrap64 ((wrap64 (rd s0_0 (Int.tmod (wrap64 ((wrap64 ((wrap64 ((wrap64 (s0_1 + 1)) - 1)) * 7)) + 3)) (s0_0.length : Int)))) * 1117)))) + (wrap64 ((wrap64 ((wrap64 (s0_1 + 1)) - 1)) * 29)))) + (wrap64 ((wrap64 (Int.tdiv (wrap64 ((wrap64 (s0_1 + 1)) - 1)) (s0_0.length : Int))) * 53)))) (wrap64 (Int.tdiv (wrap64 ((wrap64 ((wrap64 ((wrap64 ((wrap64 (rd s0_0 (ji14))) * 131)) + (wrap64 ((wrap64 (rd s0_0 (Int.tmod (wrap64 ((wrap64 ((wrap64 ((wrap64 (s0_1 + 1)) - 1)) * 7)) + 3)) (s0_0.length : Int)))) * 1117)))) + (wrap64 ((wrap64 ((wrap64 (s0_1 + 1)) - 1)) * 29)))) + (wrap64 ((wrap64 (Int.tdiv (wrap64 ((wrap64 (s0_1 + 1)) - 1)) (s0_0.length : Int))) * 53)))) 64))) a1, (wrap64 (s0_1 + 1))))) else (none)) else (none)) else (none)) else (none)) = some (r1, r2) := by first | (rw [hji14] at H; exact H) | (simp only [hji14] at H ⊢; exact H)
      by_cases c15 : 0 ≤ (ji14)
      ·rw [if_pos c15] at H
       have c15b0 : decide (0 ≤ (ji14)) = true := decide_eq_true c15
       clear c15
       by_cases c16 : (ji14) < (s0_0.length : Int)
       ·rw [if_pos c16] at H
        have c16b0 : decide ((ji14) < (s0_0.length : Int)) = true := decide_eq_true c16
        clear c16
        obtain ⟨ji17, hji17⟩ : ∃ j_ : Int, (Int.tmod (wrap64 ((wrap64 ((wrap64 ((wrap64 (s0_1 + 1)) - 1)) * 7)) + 3)) (s0_0.length : Int)) = j_ := ⟨_, rfl⟩
        replace H : (if 0 ≤ (ji17) then (if (ji17) < (s0_0.length : Int) then (if a1 = 0 then (none) else (some (Int.tmod (Go.bits .xor .i64 (wrap64 ((wrap64 ((wrap64 ((wrap64 ((wrap64 (rd s0_0 (ji14))) * 131)) + (wrap64 ((wrap64 (rd s0_0 (ji17))) * 1117)))) + (wrap64 ((wrap64 ((wrap64 (s0_1 + 1)) - 1)) * 29)))) + (wrap64 ((wrap64 (Int.tdiv (wrap64 ((wrap64 (s0_1 + 1)) - 1)) (s0_0.length : Int))) * 53)))) (wrap64 (Int.tdiv (wrap64 ((wrap64 ((wrap64 ((wrap64 ((wrap64 (rd s0_0 (ji14))) * 131)) + (wrap64 ((wrap64 (rd s0_0 (ji17))) * 1117)))) + (wrap64 ((wrap64 ((wrap64 (s0_1 + 1)) - 1)) * 29)))) + (wrap64 ((wrap64 (Int.tdiv (wrap64 ((wrap64 (s0_1 + 1)) - 1)) (s0_0.length : Int))) * 53)))) 64))) a1, (wrap64 (s0_1 + 1))))) else (none)) else (none)) = some (r1, r2) := by first | (rw [hji17] at H; exact H) | (simp only [hji17] at H ⊢; exact H)
        by_cases c18 : 0 ≤ (ji17)
        ·rw [if_pos c18] at H
         have c18b0 : decide (0 ≤ (ji17)) = true := decide_eq_true c18
         clear c18
         by_cases c19 : (ji17) < (s0_0.length : Int)
         ·rw [if_pos c19] at H
          have c19b0 : decide ((ji17) < (s0_0.length : Int)) = true := decide_eq_true c19
          clear c19
          by_cases c20 : a1 = 0
          ·rw [if_pos c20] at H
           exact absurd H (by simp)
          ·rw [if_neg c20] at H
           have c20b0 : (a1 == 0) = false := beq_eq_false_iff_ne.mpr c20
           have c20b1 : (a1 != 0) = true := bne_iff_ne.mpr c20
           simp only [Option.some.injEq, Prod.mk.injEq] at H
           obtain ⟨rfl, rfl⟩ := H
           obtain ⟨ASz21_0, cSz21_0, HGz21, hgz21, HSz21_0⟩ := HI0.out
           have hcz21_0 := cellS107_0 HGz21
           have hcz21_1 := cellS107_1 HGz21
           have hfz21_1 := blk_frozen HGz21 1
           clear HGz21 hgz21
           have p189 : 0 ≤ ((ji14) : Int) := oda
           have q189 : (ji14) < (s0_0.length : Int) := oda
           obtain ⟨ad189, e189, hx189_0⟩ := Kd.at_int HSz21_0 (ji14) p189 q189
           cases e189
           replace hx189_0 := pw_cell_below HB.out hx189_0
           replace p189 := eq_true p189
           replace q189 := eq_true q189
           have p190 : 0 ≤ ((ji17) : Int) := oda
           have q190 : (ji17) < (s0_0.length : Int) := oda
           obtain ⟨ad190, e190, hx190_0⟩ := Kd.at_int HSz21_0 (ji17) p190 q190
           obtain rfl : ad189 = ad190 := (by injection e190)
           replace hx190_0 := pw_cell_below HB.out hx190_0
           replace p190 := eq_true p190
           replace q190 := eq_true q190
           go_wp2
           repeat (go_quiet (fail); try go_wp2)
           go_ret
           exact ⟨by first | rfl | (simp [errW_none, errW_some] <;> rfl) | (simp only [← hji14, ← hji17]; first | rfl | (simp [errW_none, errW_some] <;> rfl)) | (simp [*, errW_none, errW_some] <;> rfl), ib HI0.out, bi HB.out, kb HK.out⟩
         ·rw [if_neg c19] at H
          exact absurd H (by simp)
        ·rw [if_neg c18] at H
         exact absurd H (by simp)
       ·rw [if_neg c16] at H
        exact absurd H (by simp)
      ·rw [if_neg c15] at H
       exact absurd H (by simp)


/-! ### spec_l1Rd_of: function 80 -/
def spec_l1Rd_of.f (k : Nat) (s0_0 : List Int) (s0_1 : Int) (l1 : List ByteArray) : Option (ByteArray × Int) := (spec_l1Rd_pick.f k s0_0 s0_1 (l1.length : Int)).bind fun bt191 => (if 0 ≤ bt191.1 then (if bt191.1 < (l1.length : Int) then (some (rdOf ByteArray.empty l1 bt191.1, bt191.2)) else (none)) else (none))
theorem spec_l1Rd_of.mono : ∀ a0 a1 a2 k, LeO (spec_l1Rd_of.f k a0 a1 a2) (spec_l1Rd_of.f (k + 1) a0 a1 a2) := by
 intro a0 a1 a2 k
 unfold spec_l1Rd_of.f
 repeat' first
   | (with_reducible exact spec_l1Rd_pick.mono _ _ _ _)
   | (with_reducible exact LeO.refl _)
   | (with_reducible exact LeO.none _)
   | (with_reducible refine LeO.ite ?_ ?_)
   | (with_reducible refine LeO.bind ?_ (fun _ => ?_))
   | exact spec_l1Rd_pick.mono _ _ _ _
   | exact LeO.none _
   | refine LeO.ite ?_ ?_
   | refine LeO.bind ?_ (fun _ => ?_)
set_option maxHeartbeats 8000000 in
set_option maxRecDepth 100000 in
theorem spec_l1Rd_of.calls (k : Nat) (g : Nat) (s0_0 : List Int) (s0_1 : Int) (A1 : Option Addr) (c1 : Nat) (l1 : List ByteArray) (r1 : ByteArray) (r2 : Int) (w0 w : World) (hI : IsS107 w0 w g s0_0 s0_1) (hB : Below w0.heap.size w0 w) (hr1 : Kd.C Kd.string w A1 l1.length l1) (hc1 : l1.length ≤ c1) (hf1 : ∀ ad, A1 = some ad → 0 < l1.length → ad.block ≠ g) (h : spec_l1Rd_of.f k s0_0 s0_1 l1 = some (r1, r2)) :
  Calls Try.prog 80 #[.pointer (some ⟨g, 0, none⟩), .slice A1 l1.length c1] w fun e w' => e = .returned (.string r1) ∧ IsS107 w0 w' g s0_0 r2 ∧ Below w0.heap.size w0 w' ∧ KeepBut w w' g none := by
 have HR1 := Aside0.mk hr1
 have HC1 := Aside0.mk hc1
 clear hr1 hc1
 have HI0 := Aside0.mk hI
 have HK := Aside0.mk (KeepBut.refl w g none)
 have HL := Aside0.mk hB.size
 clear hI
 have HW0 := Aside0.mk hB.size
 have HB := Aside0.mk hB
 clear hB
 have H : ((spec_l1Rd_pick.f k s0_0 s0_1 (l1.length : Int)).bind fun bt191 => (if 0 ≤ bt191.1 then (if bt191.1 < (l1.length : Int) then (some (rdOf ByteArray.empty l1 bt191.1, bt191.2)) else (none)) else (none))) = some (r1, r2) := h
 clear h
 replace H := Option.bind_eq_some_iff.mp H
 obtain ⟨⟨t191, t192⟩, A30, H⟩ := H
 replace H : (if 0 ≤ t191 then (if t191 < (l1.length : Int) then (some (rdOf ByteArray.empty l1 t191, t192)) else (none)) else (none)) = some (r1, r2) := H
 have A3 := Aside0.mk A30
 clear A30
 by_cases c4 : 0 ≤ t191
 ·rw [if_pos c4] at H
  have c4b0 : decide (0 ≤ t191) = true := decide_eq_true c4
  clear c4
  by_cases c5 : t191 < (l1.length : Int)
  ·rw [if_pos c5] at H
   have c5b0 : decide (t191 < (l1.length : Int)) = true := decide_eq_true c5
   clear c5
   simp only [Option.some.injEq, Prod.mk.injEq] at H
   obtain ⟨rfl, rfl⟩ := H
   go_enter Try.func80, Try.ntmps80
   go_wp2_with (first | ((with_reducible refine gate_callee (f := 64) rfl ?_); refine goesL_ (some 9) rfl rfl Try.func64 (by kernel_rfl) rfl #[.pointer (some ⟨g, 0, none⟩), .int .i64 (l1.length : Int)] rfl mxp ?_; (with_reducible refine (spec_l1Rd_pick.calls k g s0_0 s0_1 (l1.length : Int) t191 t192 w0 _ ?side1 ?side2 A3.out).mono ?_); (case side1 => exact ib HI0.out); (case side2 => exact bi HB.out); rintro e w6 ⟨rfl, hi, hb, hk⟩; refine ⟨_, rfl, ?_⟩; have n0_ := kt HK hk; have n1_ := Aside0.mk (hb); have n2_ := Aside0.mk (hi); clear HK; clear HB; clear HI0; have HK := n0_; have HB := n1_; have HI0 := n2_; clear n0_ n1_ n2_; (try clear hb); (try clear hb2); (try clear hk); (try clear hi); have p193 : 0 ≤ (t191 : Int) := oda; have q193 : t191 < (l1.length : Int) := oda; obtain ⟨ad193, e193, hx193_0⟩ := Kd.at_string HR1.out t191 p193 q193; cases e193; replace hx193_0 := keep_cell HK.out hx193_0 (by first | (rw [add_block]; exact hf1 _ rfl (by omega)) | exact hf1 _ rfl (by omega) | exact hf1 ad193 rfl (by omega)); replace p193 := eq_true p193; replace q193 := eq_true q193))
   go_ret
   exact ⟨exq, ib HI0.out, bi HB.out, kb HK.out⟩
  ·rw [if_neg c5] at H
   exact absurd H (by simp)
 ·rw [if_neg c4] at H
  exact absurd H (by simp)


/-! ### spec_l5Slot: function 99 -/
def spec_l5Slot.f (k : Nat) (s0_0 : List Int) (s0_1 : Int) : Option (ByteArray × Int) := (spec_l1Rd_of.f k s0_0 s0_1 (([(⟨#[115, 49]⟩ : ByteArray), (⟨#[115, 49]⟩ : ByteArray), (⟨#[115, 50]⟩ : ByteArray), (⟨#[115, 51]⟩ : ByteArray), (⟨#[107, 101, 103]⟩ : ByteArray)] : List ByteArray))).bind fun bt197 => (some (bt197.1, bt197.2))
theorem spec_l5Slot.mono : ∀ a0 a1 k, LeO (spec_l5Slot.f k a0 a1) (spec_l5Slot.f (k + 1) a0 a1) := by
 intro a0 a1 k
 unfold spec_l5Slot.f
 repeat' first
   | (with_reducible exact spec_l1Rd_of.mono _ _ _ _)
   | (with_reducible exact LeO.refl _)
   | (with_reducible exact LeO.none _)
   | (with_reducible refine LeO.ite ?_ ?_)
   | (with_reducible refine LeO.bind ?_ (fun _ => ?_))
   | exact spec_l1Rd_of.mono _ _ _ _
   | exact LeO.none _
   | refine LeO.ite ?_ ?_
   | refine LeO.bind ?_ (fun _ => ?_)
set_option maxHeartbeats 8000000 in
set_option maxRecDepth 100000 in
theorem spec_l5Slot.calls (k : Nat) (g : Nat) (s0_0 : List Int) (s0_1 : Int) (r1 : ByteArray) (r2 : Int) (w0 w : World) (hI : IsS107 w0 w g s0_0 s0_1) (hB : Below w0.heap.size w0 w) (h : spec_l5Slot.f k s0_0 s0_1 = some (r1, r2)) :
  Calls Try.prog 99 #[.pointer (some ⟨g, 0, none⟩)] w fun e w' => e = .returned (.string r1) ∧ IsS107 w0 w' g s0_0 r2 ∧ Below w0.heap.size w0 w' ∧ KeepBut w w' g none := by
 have HI0 := Aside0.mk hI
 have HK := Aside0.mk (KeepBut.refl w g none)
 have HL := Aside0.mk hB.size
 clear hI
 have HW0 := Aside0.mk hB.size
 have HB := Aside0.mk hB
 clear hB
 have H : ((spec_l1Rd_of.f k s0_0 s0_1 (([(⟨#[115, 49]⟩ : ByteArray), (⟨#[115, 49]⟩ : ByteArray), (⟨#[115, 50]⟩ : ByteArray), (⟨#[115, 51]⟩ : ByteArray), (⟨#[107, 101, 103]⟩ : ByteArray)] : List ByteArray))).bind fun bt197 => (some (bt197.1, bt197.2))) = some (r1, r2) := h
 clear h
 obtain ⟨y194, hy194⟩ : ∃ y_ : List ByteArray, y_ = (([(⟨#[115, 49]⟩ : ByteArray), (⟨#[115, 49]⟩ : ByteArray), (⟨#[115, 50]⟩ : ByteArray), (⟨#[115, 51]⟩ : ByteArray), (⟨#[107, 101, 103]⟩ : ByteArray)] : List ByteArray)) := ⟨_, rfl⟩
 replace H : ((spec_l1Rd_of.f k s0_0 s0_1 y194).bind fun bt197 => (some (bt197.1, bt197.2))) = some (r1, r2) := by first | (rw [hy194]; with_reducible exact H) | (have H2_ := (Option.bind_some _ _).symm.trans H; rw [hy194]; with_reducible exact H2_) | (have H2_ := (Option.bind_some _ _).symm.trans H; with_reducible exact H2_) | with_reducible exact H | (rw [hy194]; exact H) | exact H
 have Ny194 := Aside0.mk hy194
 clear hy194
 replace H := Option.bind_eq_some_iff.mp H
 obtain ⟨⟨t197, t198⟩, A20, H⟩ := H
 replace H : (some (t197, t198)) = some (r1, r2) := H
 have A2 := Aside0.mk A20
 clear A20
 simp only [Option.some.injEq, Prod.mk.injEq] at H
 obtain ⟨rfl, rfl⟩ := H
 go_enter Try.func99, Try.ntmps99
 go_wp2_with (first | ((with_reducible refine gate_dst (N := 4) rfl ?_); refine Kd.R_lit Kd.string _ 9 ?hg (N := 4) ?hd (xs := ([(⟨#[115, 49]⟩ : ByteArray), (⟨#[115, 49]⟩ : ByteArray), (⟨#[115, 50]⟩ : ByteArray), (⟨#[115, 51]⟩ : ByteArray), (⟨#[107, 101, 103]⟩ : ByteArray)] : List ByteArray)) (inner := [.string (⟨#[115, 49]⟩ : ByteArray), .string (⟨#[115, 49]⟩ : ByteArray), .string (⟨#[115, 50]⟩ : ByteArray), .string (⟨#[115, 51]⟩ : ByteArray), .string (⟨#[107, 101, 103]⟩ : ByteArray)]) (ok := fun _ => True) (okp := fun _ => True) ?hr ?hp (fun _ hk => hk) trivial (Below.refl _ _) (Nat.le_refl _) (by simp) ?_; (case hd => rfl); (case hg => rfl); (case hr => first | (go_simp; done) | (go_simp; rfl)); (case hp => exact (Reps.one (show Kd.M Kd.string _ _ _ (⟨#[115, 49]⟩ : ByteArray) [.string (⟨#[115, 49]⟩ : ByteArray)] from rfl) (Reps.one (show Kd.M Kd.string _ _ _ (⟨#[115, 49]⟩ : ByteArray) [.string (⟨#[115, 49]⟩ : ByteArray)] from rfl) (Reps.one (show Kd.M Kd.string _ _ _ (⟨#[115, 50]⟩ : ByteArray) [.string (⟨#[115, 50]⟩ : ByteArray)] from rfl) (Reps.one (show Kd.M Kd.string _ _ _ (⟨#[115, 51]⟩ : ByteArray) [.string (⟨#[115, 51]⟩ : ByteArray)] from rfl) (Reps.one (show Kd.M Kd.string _ _ _ (⟨#[107, 101, 103]⟩ : ByteArray) [.string (⟨#[107, 101, 103]⟩ : ByteArray)] from rfl) (Reps.none _ _))))))); intro v195 w3 ho4 hb hg_ hnew_; clear hg_ hnew_; (first | rw [← Ny194.out] at ho4 | (simp only [Int.reduceToNat] at ho4; rw [← Ny194.out] at ho4)); have n0_ := Aside0.mk (Kd.R_lower ho4 (keep_size (w := w) (g := g) (row := none) (kb HK.out))); have n1_ := Aside0.mk (IsS107.below (ib HI0.out) hb); have n2_ := kt HK (KeepBut.of_below hb g none); have n3_ := bsi HB hb; clear HI0; clear HK; clear HB; have HO196 := n0_; have HI0 := n1_; have HK := n2_; have HB := n3_; clear n0_ n1_ n2_ n3_; clear hb ho4; obtain ⟨Ao5, co5, eo5⟩ := Kd.R_slice HO196.out; subst eo5) | ((with_reducible refine gate_callee (f := 80) rfl ?_); refine goesL_ (some 5) rfl rfl Try.func80 (by kernel_rfl) rfl #[.pointer (some ⟨g, 0, none⟩), .slice Ao5 y194.length co5] rfl mxp ?_; (with_reducible refine (spec_l1Rd_of.calls k g s0_0 s0_1 _ _ y194 t197 t198 w0 _ ?side1 ?side2 ?side3 ?side4 ?side5 A2.out).mono ?_); (case side1 => exact ib HI0.out); (case side2 => exact bi HB.out); (case side3 => exact cx (Kd.R_reads' HO196.out).2.2); (case side4 => exact (Kd.R_reads' HO196.out).2.1); (case side5 => exact far_slice (IsS107.own_ne HI0.out HO196.out (by decide))); rintro e w6 ⟨rfl, hi, hb, hk⟩; refine ⟨_, rfl, ?_⟩; have n0_ := Aside0.mk (Kd.R_mono (Kd.R_keep (IsS107.apart (show IsS107 w0 _ g s0_0 s0_1 from ib HI0.out) (rx HO196.out) (by decide)) hk (fun _ h => h.2)) (fun _ h => h.1)); have n1_ := kt HK hk; have n2_ := Aside0.mk (hb); have n3_ := Aside0.mk (hi); clear HO196; clear HK; clear HB; clear HI0; have HO196 := n0_; have HK := n1_; have HB := n2_; have HI0 := n3_; clear n0_ n1_ n2_ n3_; (try clear hb); (try clear hb2); (try clear hk); (try clear hi)))
 go_ret
 exact ⟨exq, ib HI0.out, bi HB.out, kb HK.out⟩


/-! ### spec_l5Phase: function 79 -/
def spec_l5Phase.j0 : Nat → List ByteArray → List Int → Int → ByteArray → Int → ByteArray → ByteArray → Int → Int → ByteArray → ByteArray → Option (ByteArray × Int × ByteArray × ByteArray × Int × Int × ByteArray × ByteArray × Int)
 | 0, _, _, _, _, _, _, _, _, _, _, _ => none
 | k + 1, x2, x1000, x1001, x207000, x207001, x207002, x207003, x207004, x207005, x207006, x207007 => (some (([(⟨#[103, 111, 111, 100]⟩ : ByteArray), (⟨#[115, 97, 118, 101, 100]⟩ : ByteArray), (⟨#[115, 99, 114, 97, 112, 112, 101, 100]⟩ : ByteArray)] : List ByteArray) : List ByteArray)).bind fun y222 => (if y222.length + x2.length < 8796093022208 then ((some (y222 ++ x2 : List ByteArray)).bind fun y225 => ((spec_l1Rd_of.f k x1000 x1001 y225).bind fun bt228 => ((spec_l1Rd_of.f k x1000 bt228.2 y225).bind fun bt230 => (if (x2.length : Int) > 0 then ((spec_l1Rd_pick.f k x1000 bt230.2 4).bind fun bt232 => (if bt232.1 > 0 then (if 0 < (x2.length : Int) then (some (x207000, x207001, x207002, x207003, x207004, x207005, rdOf ByteArray.empty x2 0, bt230.1, bt232.2)) else (none)) else (some (x207000, x207001, x207002, x207003, x207004, x207005, bt228.1, bt230.1, bt232.2)))) else (some (x207000, x207001, x207002, x207003, x207004, x207005, bt228.1, bt230.1, bt230.2)))))) else (none))
def spec_l5Phase.f (k : Nat) (s0_0 : List Int) (s0_1 : Int) (a1 : ByteArray) (l2 : List ByteArray) : Option (ByteArray × Int × ByteArray × ByteArray × Int × Int × ByteArray × ByteArray × Int) := (spec_l1Rd_pick.f k s0_0 s0_1 5).bind fun bt200 => ((spec_l5Slot.f k s0_0 bt200.2).bind fun bt202 => ((spec_l1Rd_pick.f k s0_0 bt202.2 20).bind fun bt204 => (if (wrap64 (1 + bt200.1)) = 1 then ((spec_l1Rd_of.f k s0_0 bt204.2 (([(⟨#[97, 108, 101]⟩ : ByteArray), (⟨#[109, 97, 108, 116]⟩ : ByteArray)] : List ByteArray))).bind fun bt210 => ((spec_l1Rd_pick.f k s0_0 bt210.2 30).bind fun bt212 => (spec_l5Phase.j0 k l2 s0_0 bt212.2 a1 (wrap64 (1 + bt200.1)) bt202.1 bt210.1 (wrap64 (1 + bt212.1)) (wrap64 (1 + bt204.1)) (⟨#[]⟩ : ByteArray) (⟨#[]⟩ : ByteArray)))) else (if (wrap64 (1 + bt200.1)) = 2 then ((spec_l5Slot.f k s0_0 bt204.2).bind fun bt214 => (if bt214.1.toList = bt202.1.toList then ((spec_l1Rd_pick.f k s0_0 bt214.2 30).bind fun bt216 => (spec_l5Phase.j0 k l2 s0_0 bt216.2 a1 (wrap64 (1 + bt200.1)) bt202.1 (⟨#[118, 97, 116]⟩ : ByteArray) (wrap64 (1 + bt216.1)) (wrap64 (1 + bt204.1)) (⟨#[]⟩ : ByteArray) (⟨#[]⟩ : ByteArray))) else ((spec_l1Rd_pick.f k s0_0 bt214.2 30).bind fun bt218 => (spec_l5Phase.j0 k l2 s0_0 bt218.2 a1 (wrap64 (1 + bt200.1)) bt202.1 bt214.1 (wrap64 (1 + bt218.1)) (wrap64 (1 + bt204.1)) (⟨#[]⟩ : ByteArray) (⟨#[]⟩ : ByteArray))))) else (if (wrap64 (1 + bt200.1)) = 3 then ((spec_l1Rd_pick.f k s0_0 bt204.2 (wrap64 (1 + bt204.1))).bind fun bt220 => (spec_l5Phase.j0 k l2 s0_0 bt220.2 a1 (wrap64 (1 + bt200.1)) bt202.1 (⟨#[]⟩ : ByteArray) (wrap64 (1 + bt220.1)) (wrap64 (1 + bt204.1)) (⟨#[]⟩ : ByteArray) (⟨#[]⟩ : ByteArray))) else (spec_l5Phase.j0 k l2 s0_0 bt204.2 a1 (wrap64 (1 + bt200.1)) bt202.1 (⟨#[]⟩ : ByteArray) 0 (wrap64 (1 + bt204.1)) (⟨#[]⟩ : ByteArray) (⟨#[]⟩ : ByteArray)))))))
theorem spec_l5Phase.mono_l : ∀ k, (∀ y0 y1 y2 y3 y4 y5 y6 y7 y8 y9 y10, LeO (spec_l5Phase.j0 k y0 y1 y2 y3 y4 y5 y6 y7 y8 y9 y10) (spec_l5Phase.j0 (k + 1) y0 y1 y2 y3 y4 y5 y6 y7 y8 y9 y10))
 | 0 => fun _ _ _ _ _ _ _ _ _ _ _ r h => by simp [spec_l5Phase.j0] at h
 | k + 1 => by
  have ih0 := spec_l5Phase.mono_l k
  ·intro y0 y1 y2 y3 y4 y5 y6 y7 y8 y9 y10
   unfold spec_l5Phase.j0
   repeat' first
   | (with_reducible exact ih0 _ _ _ _ _ _ _ _ _ _ _)
   | (with_reducible exact spec_l1Rd_of.mono _ _ _ _)
   | (with_reducible exact spec_l1Rd_pick.mono _ _ _ _)
   | (with_reducible exact spec_l5Slot.mono _ _ _)
   | (with_reducible exact LeO.refl _)
   | (with_reducible exact LeO.none _)
   | (with_reducible refine LeO.ite ?_ ?_)
   | (with_reducible refine LeO.bind ?_ (fun _ => ?_))
   | exact ih0 _ _ _ _ _ _ _ _ _ _ _
   | exact spec_l1Rd_of.mono _ _ _ _
   | exact spec_l1Rd_pick.mono _ _ _ _
   | exact spec_l5Slot.mono _ _ _
   | exact LeO.none _
   | refine LeO.ite ?_ ?_
   | refine LeO.bind ?_ (fun _ => ?_)
theorem spec_l5Phase.mono : ∀ a0 a1 a2 a3 k, LeO (spec_l5Phase.f k a0 a1 a2 a3) (spec_l5Phase.f (k + 1) a0 a1 a2 a3) := by
 intro a0 a1 a2 a3 k
 have ih0 := spec_l5Phase.mono_l k
 unfold spec_l5Phase.f
 repeat' first
   | (with_reducible exact ih0 _ _ _ _ _ _ _ _ _ _ _)
   | (with_reducible exact spec_l1Rd_of.mono _ _ _ _)
   | (with_reducible exact spec_l1Rd_pick.mono _ _ _ _)
   | (with_reducible exact spec_l5Slot.mono _ _ _)
   | (with_reducible exact LeO.refl _)
   | (with_reducible exact LeO.none _)
   | (with_reducible refine LeO.ite ?_ ?_)
   | (with_reducible refine LeO.bind ?_ (fun _ => ?_))
   | exact ih0 _ _ _ _ _ _ _ _ _ _ _
   | exact spec_l1Rd_of.mono _ _ _ _
   | exact spec_l1Rd_pick.mono _ _ _ _
   | exact spec_l5Slot.mono _ _ _
   | exact LeO.none _
   | refine LeO.ite ?_ ?_
   | refine LeO.bind ?_ (fun _ => ?_)
set_option maxHeartbeats 8000000 in
set_option maxRecDepth 100000 in
theorem spec_l5Phase.calls (k : Nat) (g : Nat) (s0_0 : List Int) (s0_1 : Int) (a1 : ByteArray) (A2 : Option Addr) (c2 : Nat) (l2 : List ByteArray) (r1 : ByteArray) (r2 : Int) (r3 : ByteArray) (r4 : ByteArray) (r5 : Int) (r6 : Int) (r7 : ByteArray) (r8 : ByteArray) (r9 : Int) (w0 w : World) (hI : IsS107 w0 w g s0_0 s0_1) (hB : Below w0.heap.size w0 w) (hr2 : Kd.C Kd.string w A2 l2.length l2) (hc2 : l2.length ≤ c2) (hf2 : ∀ ad, A2 = some ad → 0 < l2.length → ad.block ≠ g) (h : spec_l5Phase.f k s0_0 s0_1 a1 l2 = some (r1, r2, r3, r4, r5, r6, r7, r8, r9)) :
  Calls Try.prog 79 #[.pointer (some ⟨g, 0, none⟩), .string a1, .slice A2 l2.length c2] w fun e w' => e = .returned (.agg #[.string r1, .int .i64 r2, .string r3, .string r4, .int .i64 r5, .int .i64 r6, .string r7, .string r8]) ∧ IsS107 w0 w' g s0_0 r9 ∧ Below w0.heap.size w0 w' ∧ KeepBut w w' g none := by
 have hu39 := Try.underlying39
 have HR2 := Aside0.mk hr2
 have HC2 := Aside0.mk hc2
 clear hr2 hc2
 have HI0 := Aside0.mk hI
 have HK := Aside0.mk (KeepBut.refl w g none)
 have HL := Aside0.mk hB.size
 clear hI
 have HW0 := Aside0.mk hB.size
 have HB := Aside0.mk hB
 clear hB
 have H : ((spec_l1Rd_pick.f k s0_0 s0_1 5).bind fun bt200 => ((spec_l5Slot.f k s0_0 bt200.2).bind fun bt202 => ((spec_l1Rd_pick.f k s0_0 bt202.2 20).bind fun bt204 => (if (wrap64 (1 + bt200.1)) = 1 then ((spec_l1Rd_of.f k s0_0 bt204.2 (([(⟨#[97, 108, 101]⟩ : ByteArray), (⟨#[109, 97, 108, 116]⟩ : ByteArray)] : List ByteArray))).bind fun bt210 => ((spec_l1Rd_pick.f k s0_0 bt210.2 30).bind fun bt212 => (spec_l5Phase.j0 k l2 s0_0 bt212.2 a1 (wrap64 (1 + bt200.1)) bt202.1 bt210.1 (wrap64 (1 + bt212.1)) (wrap64 (1 + bt204.1)) (⟨#[]⟩ : ByteArray) (⟨#[]⟩ : ByteArray)))) else (if (wrap64 (1 + bt200.1)) = 2 then ((spec_l5Slot.f k s0_0 bt204.2).bind fun bt214 => (if bt214.1.toList = bt202.1.toList then ((spec_l1Rd_pick.f k s0_0 bt214.2 30).bind fun bt216 => (spec_l5Phase.j0 k l2 s0_0 bt216.2 a1 (wrap64 (1 + bt200.1)) bt202.1 (⟨#[118, 97, 116]⟩ : ByteArray) (wrap64 (1 + bt216.1)) (wrap64 (1 + bt204.1)) (⟨#[]⟩ : ByteArray) (⟨#[]⟩ : ByteArray))) else ((spec_l1Rd_pick.f k s0_0 bt214.2 30).bind fun bt218 => (spec_l5Phase.j0 k l2 s0_0 bt218.2 a1 (wrap64 (1 + bt200.1)) bt202.1 bt214.1 (wrap64 (1 + bt218.1)) (wrap64 (1 + bt204.1)) (⟨#[]⟩ : ByteArray) (⟨#[]⟩ : ByteArray))))) else (if (wrap64 (1 + bt200.1)) = 3 then ((spec_l1Rd_pick.f k s0_0 bt204.2 (wrap64 (1 + bt204.1))).bind fun bt220 => (spec_l5Phase.j0 k l2 s0_0 bt220.2 a1 (wrap64 (1 + bt200.1)) bt202.1 (⟨#[]⟩ : ByteArray) (wrap64 (1 + bt220.1)) (wrap64 (1 + bt204.1)) (⟨#[]⟩ : ByteArray) (⟨#[]⟩ : ByteArray))) else (spec_l5Phase.j0 k l2 s0_0 bt204.2 a1 (wrap64 (1 + bt200.1)) bt202.1 (⟨#[]⟩ : ByteArray) 0 (wrap64 (1 + bt204.1)) (⟨#[]⟩ : ByteArray) (⟨#[]⟩ : ByteArray)))))))) = some (r1, r2, r3, r4, r5, r6, r7, r8, r9) := h
 clear h
 replace H := Option.bind_eq_some_iff.mp H
 obtain ⟨⟨t200, t201⟩, A40, H⟩ := H
 replace H : ((spec_l5Slot.f k s0_0 t201).bind fun bt202 => ((spec_l1Rd_pick.f k s0_0 bt202.2 20).bind fun bt204 => (if (wrap64 (1 + t200)) = 1 then ((spec_l1Rd_of.f k s0_0 bt204.2 (([(⟨#[97, 108, 101]⟩ : ByteArray), (⟨#[109, 97, 108, 116]⟩ : ByteArray)] : List ByteArray))).bind fun bt210 => ((spec_l1Rd_pick.f k s0_0 bt210.2 30).bind fun bt212 => (spec_l5Phase.j0 k l2 s0_0 bt212.2 a1 (wrap64 (1 + t200)) bt202.1 bt210.1 (wrap64 (1 + bt212.1)) (wrap64 (1 + bt204.1)) (⟨#[]⟩ : ByteArray) (⟨#[]⟩ : ByteArray)))) else (if (wrap64 (1 + t200)) = 2 then ((spec_l5Slot.f k s0_0 bt204.2).bind fun bt214 => (if bt214.1.toList = bt202.1.toList then ((spec_l1Rd_pick.f k s0_0 bt214.2 30).bind fun bt216 => (spec_l5Phase.j0 k l2 s0_0 bt216.2 a1 (wrap64 (1 + t200)) bt202.1 (⟨#[118, 97, 116]⟩ : ByteArray) (wrap64 (1 + bt216.1)) (wrap64 (1 + bt204.1)) (⟨#[]⟩ : ByteArray) (⟨#[]⟩ : ByteArray))) else ((spec_l1Rd_pick.f k s0_0 bt214.2 30).bind fun bt218 => (spec_l5Phase.j0 k l2 s0_0 bt218.2 a1 (wrap64 (1 + t200)) bt202.1 bt214.1 (wrap64 (1 + bt218.1)) (wrap64 (1 + bt204.1)) (⟨#[]⟩ : ByteArray) (⟨#[]⟩ : ByteArray))))) else (if (wrap64 (1 + t200)) = 3 then ((spec_l1Rd_pick.f k s0_0 bt204.2 (wrap64 (1 + bt204.1))).bind fun bt220 => (spec_l5Phase.j0 k l2 s0_0 bt220.2 a1 (wrap64 (1 + t200)) bt202.1 (⟨#[]⟩ : ByteArray) (wrap64 (1 + bt220.1)) (wrap64 (1 + bt204.1)) (⟨#[]⟩ : ByteArray) (⟨#[]⟩ : ByteArray))) else (spec_l5Phase.j0 k l2 s0_0 bt204.2 a1 (wrap64 (1 + t200)) bt202.1 (⟨#[]⟩ : ByteArray) 0 (wrap64 (1 + bt204.1)) (⟨#[]⟩ : ByteArray) (⟨#[]⟩ : ByteArray))))))) = some (r1, r2, r3, r4, r5, r6, r7, r8, r9) := H
 have A4 := Aside0.mk A40
 clear A40
 replace H := Option.bind_eq_some_iff.mp H
 obtain ⟨⟨t202, t203⟩, A50, H⟩ := H
 replace H : ((spec_l1Rd_pick.f k s0_0 t203 20).bind fun bt204 => (if (wrap64 (1 + t200)) = 1 then ((spec_l1Rd_of.f k s0_0 bt204.2 (([(⟨#[97, 108, 101]⟩ : ByteArray), (⟨#[109, 97, 108, 116]⟩ : ByteArray)] : List ByteArray))).bind fun bt210 => ((spec_l1Rd_pick.f k s0_0 bt210.2 30).bind fun bt212 => (spec_l5Phase.j0 k l2 s0_0 bt212.2 a1 (wrap64 (1 + t200)) t202 bt210.1 (wrap64 (1 + bt212.1)) (wrap64 (1 + bt204.1)) (⟨#[]⟩ : ByteArray) (⟨#[]⟩ : ByteArray)))) else (if (wrap64 (1 + t200)) = 2 then ((spec_l5Slot.f k s0_0 bt204.2).bind fun bt214 => (if bt214.1.toList = t202.toList then ((spec_l1Rd_pick.f k s0_0 bt214.2 30).bind fun bt216 => (spec_l5Phase.j0 k l2 s0_0 bt216.2 a1 (wrap64 (1 + t200)) t202 (⟨#[118, 97, 116]⟩ : ByteArray) (wrap64 (1 + bt216.1)) (wrap64 (1 + bt204.1)) (⟨#[]⟩ : ByteArray) (⟨#[]⟩ : ByteArray))) else ((spec_l1Rd_pick.f k s0_0 bt214.2 30).bind fun bt218 => (spec_l5Phase.j0 k l2 s0_0 bt218.2 a1 (wrap64 (1 + t200)) t202 bt214.1 (wrap64 (1 + bt218.1)) (wrap64 (1 + bt204.1)) (⟨#[]⟩ : ByteArray) (⟨#[]⟩ : ByteArray))))) else (if (wrap64 (1 + t200)) = 3 then ((spec_l1Rd_pick.f k s0_0 bt204.2 (wrap64 (1 + bt204.1))).bind fun bt220 => (spec_l5Phase.j0 k l2 s0_0 bt220.2 a1 (wrap64 (1 + t200)) t202 (⟨#[]⟩ : ByteArray) (wrap64 (1 + bt220.1)) (wrap64 (1 + bt204.1)) (⟨#[]⟩ : ByteArray) (⟨#[]⟩ : ByteArray))) else (spec_l5Phase.j0 k l2 s0_0 bt204.2 a1 (wrap64 (1 + t200)) t202 (⟨#[]⟩ : ByteArray) 0 (wrap64 (1 + bt204.1)) (⟨#[]⟩ : ByteArray) (⟨#[]⟩ : ByteArray)))))) = some (r1, r2, r3, r4, r5, r6, r7, r8, r9) := H
 have A5 := Aside0.mk A50
 clear A50
 replace H := Option.bind_eq_some_iff.mp H
 obtain ⟨⟨t204, t205⟩, A60, H⟩ := H
 replace H : (if (wrap64 (1 + t200)) = 1 then ((spec_l1Rd_of.f k s0_0 t205 (([(⟨#[97, 108, 101]⟩ : ByteArray), (⟨#[109, 97, 108, 116]⟩ : ByteArray)] : List ByteArray))).bind fun bt210 => ((spec_l1Rd_pick.f k s0_0 bt210.2 30).bind fun bt212 => (spec_l5Phase.j0 k l2 s0_0 bt212.2 a1 (wrap64 (1 + t200)) t202 bt210.1 (wrap64 (1 + bt212.1)) (wrap64 (1 + t204)) (⟨#[]⟩ : ByteArray) (⟨#[]⟩ : ByteArray)))) else (if (wrap64 (1 + t200)) = 2 then ((spec_l5Slot.f k s0_0 t205).bind fun bt214 => (if bt214.1.toList = t202.toList then ((spec_l1Rd_pick.f k s0_0 bt214.2 30).bind fun bt216 => (spec_l5Phase.j0 k l2 s0_0 bt216.2 a1 (wrap64 (1 + t200)) t202 (⟨#[118, 97, 116]⟩ : ByteArray) (wrap64 (1 + bt216.1)) (wrap64 (1 + t204)) (⟨#[]⟩ : ByteArray) (⟨#[]⟩ : ByteArray))) else ((spec_l1Rd_pick.f k s0_0 bt214.2 30).bind fun bt218 => (spec_l5Phase.j0 k l2 s0_0 bt218.2 a1 (wrap64 (1 + t200)) t202 bt214.1 (wrap64 (1 + bt218.1)) (wrap64 (1 + t204)) (⟨#[]⟩ : ByteArray) (⟨#[]⟩ : ByteArray))))) else (if (wrap64 (1 + t200)) = 3 then ((spec_l1Rd_pick.f k s0_0 t205 (wrap64 (1 + t204))).bind fun bt220 => (spec_l5Phase.j0 k l2 s0_0 bt220.2 a1 (wrap64 (1 + t200)) t202 (⟨#[]⟩ : ByteArray) (wrap64 (1 + bt220.1)) (wrap64 (1 + t204)) (⟨#[]⟩ : ByteArray) (⟨#[]⟩ : ByteArray))) else (spec_l5Phase.j0 k l2 s0_0 t205 a1 (wrap64 (1 + t200)) t202 (⟨#[]⟩ : ByteArray) 0 (wrap64 (1 + t204)) (⟨#[]⟩ : ByteArray) (⟨#[]⟩ : ByteArray))))) = some (r1, r2, r3, r4, r5, r6, r7, r8, r9) := H
 have A6 := Aside0.mk A60
 clear A60
 have HC7 := Aside0.mk H
 clear H
 go_enter Try.func79, Try.ntmps79
 go_upto_block 0 with (first | ((with_reducible refine gate_dst (N := 6) rfl ?_); refine box_event ?hg (N := 6) ?hd (cs := #[.string (⟨#[]⟩ : ByteArray), .int .i64 0, .string (⟨#[]⟩ : ByteArray), .string (⟨#[]⟩ : ByteArray), .int .i64 0, .int .i64 0, .string (⟨#[]⟩ : ByteArray), .string (⟨#[]⟩ : ByteArray)]) (t := 39) ?hr ?_; (case hd => rfl); (case hg => rfl); (case hr => first | (go_simp; done) | (go_simp; rfl)); intro gb199 hg w8 hbox hb; have n0_ := Aside0.mk (IsS107.below (ib HI0.out) hb); have n1_ := kt HK (KeepBut.of_below hb g none); have n2_ := bsi HB hb; have n3_ := Aside0.mk (hbox); have n4_ := Aside0.mk ((by rw [hg]; exact (keep_size (w := w) (g := g) (row := none) (kb HK.out)) : w.heap.size ≤ gb199)); have n5_ := Aside0.mk ((Nat.le_trans HW0.out (by rw [hg]; exact (keep_size (w := w) (g := g) (row := none) (kb HK.out)) : w.heap.size ≤ gb199) : w0.heap.size ≤ gb199)); have n6_ := Aside0.mk ((by rw [hg]; exact Nat.ne_of_lt (IsS107.lt (show IsS107 w0 _ g s0_0 s0_1 from ib HI0.out)) : g ≠ gb199)); have n7_ := Aside0.mk ((by rw [hg]; exact Nat.ne_of_gt (IsS107.lt (show IsS107 w0 _ g s0_0 s0_1 from ib HI0.out)) : gb199 ≠ g)); clear HI0; clear HK; clear HB; have HI0 := n0_; have HK := n1_; have HB := n2_; have BK199 := n3_; have GW199 := n4_; have GE199 := n5_; have NB0_199 := n6_; have NB199_0 := n7_; clear n0_ n1_ n2_ n3_ n4_ n5_ n6_ n7_; clear hb hbox hg) | ((with_reducible refine gate_callee (f := 64) rfl ?_); refine goesL_ (some 11) rfl rfl Try.func64 (by kernel_rfl) rfl #[.pointer (some ⟨g, 0, none⟩), .int .i64 5] rfl mxp ?_; (with_reducible refine (spec_l1Rd_pick.calls k g s0_0 s0_1 5 t200 t201 w0 _ ?side1 ?side2 A4.out).mono ?_); (case side1 => exact ib HI0.out); (case side2 => exact bi HB.out); rintro e w9 ⟨rfl, hi, hb, hk⟩; refine ⟨_, rfl, ?_⟩; have n0_ := kp BK199 hk NB199_0; have n1_ := kt HK hk; have n2_ := Aside0.mk (hb); have n3_ := Aside0.mk (hi); clear BK199; clear HK; clear HB; clear HI0; have BK199 := n0_; have HK := n1_; have HB := n2_; have HI0 := n3_; clear n0_ n1_ n2_ n3_; (try clear hb); (try clear hb2); (try clear hk); (try clear hi)) | ((with_reducible refine gate_callee (f := 99) rfl ?_); refine goesL_ (some 14) rfl rfl Try.func99 (by kernel_rfl) rfl #[.pointer (some ⟨g, 0, none⟩)] rfl mxp ?_; (with_reducible refine (spec_l5Slot.calls k g s0_0 t201 t202 t203 w0 _ ?side1 ?side2 A5.out).mono ?_); (case side1 => exact ib HI0.out); (case side2 => exact bi HB.out); rintro e w10 ⟨rfl, hi, hb, hk⟩; refine ⟨_, rfl, ?_⟩; have n0_ := kp BK199 hk NB199_0; have n1_ := kt HK hk; have n2_ := Aside0.mk (hb); have n3_ := Aside0.mk (hi); clear BK199; clear HK; clear HB; clear HI0; have BK199 := n0_; have HK := n1_; have HB := n2_; have HI0 := n3_; clear n0_ n1_ n2_ n3_; (try clear hb); (try clear hb2); (try clear hk); (try clear hi)) | ((with_reducible refine gate_callee (f := 64) rfl ?_); refine goesL_ (some 16) rfl rfl Try.func64 (by kernel_rfl) rfl #[.pointer (some ⟨g, 0, none⟩), .int .i64 20] rfl mxp ?_; (with_reducible refine (spec_l1Rd_pick.calls k g s0_0 t203 20 t204 t205 w0 _ ?side1 ?side2 A6.out).mono ?_); (case side1 => exact ib HI0.out); (case side2 => exact bi HB.out); rintro e w11 ⟨rfl, hi, hb, hk⟩; refine ⟨_, rfl, ?_⟩; have n0_ := kp BK199 hk NB199_0; have n1_ := kt HK hk; have n2_ := Aside0.mk (hb); have n3_ := Aside0.mk (hi); clear BK199; clear HK; clear HB; clear HI0; have BK199 := n0_; have HK := n1_; have HB := n2_; have HI0 := n3_; clear n0_ n1_ n2_ n3_; (try clear hb); (try clear hb2); (try clear hk); (try clear hi)) | ((with_reducible refine gate_dst (N := 7) rfl ?_); refine box_event ?hg (N := 7) ?hd (cs := #[.string (⟨#[]⟩ : ByteArray), .int .i64 0, .string (⟨#[]⟩ : ByteArray), .string (⟨#[]⟩ : ByteArray), .int .i64 0, .int .i64 0, .string (⟨#[]⟩ : ByteArray), .string (⟨#[]⟩ : ByteArray)]) (t := 39) ?hr ?_; (case hd => rfl); (case hg => rfl); (case hr => first | (go_simp; done) | (go_simp; rfl)); intro gb206 hg w12 hbox hb; have n0_ := Aside0.mk (IsS107.below (ib HI0.out) hb); have n1_ := up BK199 hb; have n2_ := kt HK (KeepBut.of_below hb g none); have n3_ := bsi HB hb; have n4_ := Aside0.mk (hbox); have n5_ := Aside0.mk ((by rw [hg]; exact (keep_size (w := w) (g := g) (row := none) (kb HK.out)) : w.heap.size ≤ gb206)); have n6_ := Aside0.mk ((Nat.le_trans HW0.out (by rw [hg]; exact (keep_size (w := w) (g := g) (row := none) (kb HK.out)) : w.heap.size ≤ gb206) : w0.heap.size ≤ gb206)); have n7_ := nlt' hg BK199; have n8_ := ngt' hg BK199; have n9_ := Aside0.mk ((by rw [hg]; exact Nat.ne_of_lt (IsS107.lt (show IsS107 w0 _ g s0_0 t205 from ib HI0.out)) : g ≠ gb206)); have n10_ := Aside0.mk ((by rw [hg]; exact Nat.ne_of_gt (IsS107.lt (show IsS107 w0 _ g s0_0 t205 from ib HI0.out)) : gb206 ≠ g)); clear HI0; clear BK199; clear HK; clear HB; have HI0 := n0_; have BK199 := n1_; have HK := n2_; have HB := n3_; have BK206 := n4_; have GW206 := n5_; have GE206 := n6_; have NB199_206 := n7_; have NB206_199 := n8_; have NB0_206 := n9_; have NB206_0 := n10_; clear n0_ n1_ n2_ n3_ n4_ n5_ n6_ n7_ n8_ n9_ n10_; clear hb hbox hg; have hnb13 := NB206_199.out; have hnc13 := NB199_206.out; have hnb14 := NB206_0.out; have hnc14 := NB0_206.out; have hcz15_0 := b0 BK206; have hcz15_1 := b1 BK206; have hcz15_2 := b2 BK206; have hcz15_3 := b3 BK206; have hcz15_4 := b4 BK206; have hcz15_5 := b5 BK206; have hcz15_6 := b6 BK206; have hcz15_7 := b7 BK206; have hfz15_0 := fz BK206 0; have hfz15_1 := fz BK206 1; have hfz15_2 := fz BK206 2; have hfz15_3 := fz BK206 3; have hfz15_4 := fz BK206 4; have hfz15_5 := fz BK206 5; have hfz15_6 := fz BK206 6; have hfz15_7 := fz BK206 7))
 (try simp only [Act.put, List.setIfInBounds_toArray, List.set_cons_zero, List.set_cons_succ])
 go_cut [] (fun wc => ∃ (kq : Nat) (x1001_6 : Int) (x207003_6 : ByteArray) (x207004_6 : Int), Aside0 (spec_l5Phase.j0 kq l2 s0_0 x1001_6 a1 (wrap64 (1 + t200)) t202 x207003_6 x207004_6 (wrap64 (1 + t204)) (⟨#[]⟩ : ByteArray) (⟨#[]⟩ : ByteArray) = some (r1, r2, r3, r4, r5, r6, r7, r8, r9)) ∧ Aside0 (kq ≤ k) ∧ Aside0 (wc.heap[gb199]? = some (.cells #[.string (⟨#[]⟩ : ByteArray), .int .i64 0, .string (⟨#[]⟩ : ByteArray), .string (⟨#[]⟩ : ByteArray), .int .i64 0, .int .i64 0, .string (⟨#[]⟩ : ByteArray), .string (⟨#[]⟩ : ByteArray)] 39 (0, 0))) ∧ Aside0 (wc.heap[gb206]? = some (.cells #[.string a1, .int .i64 (wrap64 (1 + t200)), .string t202, .string x207003_6, .int .i64 x207004_6, .int .i64 (wrap64 (1 + t204)), .string (⟨#[]⟩ : ByteArray), .string (⟨#[]⟩ : ByteArray)] 39 (0, 0))) ∧ Aside0 (IsS107 w0 wc g s0_0 x1001_6) ∧ Aside0 (KeepBut w wc g none) ∧ Aside0 (Below w0.heap.size w0 wc))
 case first =>
  have H := HC7.out
  clear HC7
  by_cases c16 : (wrap64 (1 + t200)) = 1
  ·rw [if_pos c16] at H
   have c16b0 : ((wrap64 (1 + t200)) == 1) = true := beq_iff_eq.mpr c16
   have c16b1 : ((wrap64 (1 + t200)) != 1) = false := bne_eq_false_iff_eq.mpr c16
   clear c16
   (first | rw [c16b0] | (simp only [i64_w, i32_w]; rw [c16b0]) | skip)
   obtain ⟨y207, hy207⟩ : ∃ y_ : List ByteArray, y_ = (([(⟨#[97, 108, 101]⟩ : ByteArray), (⟨#[109, 97, 108, 116]⟩ : ByteArray)] : List ByteArray)) := ⟨_, rfl⟩
   replace H : ((spec_l1Rd_of.f k s0_0 t205 y207).bind fun bt210 => ((spec_l1Rd_pick.f k s0_0 bt210.2 30).bind fun bt212 => (spec_l5Phase.j0 k l2 s0_0 bt212.2 a1 (wrap64 (1 + t200)) t202 bt210.1 (wrap64 (1 + bt212.1)) (wrap64 (1 + t204)) (⟨#[]⟩ : ByteArray) (⟨#[]⟩ : ByteArray)))) = some (r1, r2, r3, r4, r5, r6, r7, r8, r9) := by first | (rw [hy207]; with_reducible exact H) | (have H2_ := (Option.bind_some _ _).symm.trans H; rw [hy207]; with_reducible exact H2_) | (have H2_ := (Option.bind_some _ _).symm.trans H; with_reducible exact H2_) | with_reducible exact H | (rw [hy207]; exact H) | exact H
   have Ny207 := Aside0.mk hy207
   clear hy207
   replace H := Option.bind_eq_some_iff.mp H
   obtain ⟨⟨t210, t211⟩, A170, H⟩ := H
   replace H : ((spec_l1Rd_pick.f k s0_0 t211 30).bind fun bt212 => (spec_l5Phase.j0 k l2 s0_0 bt212.2 a1 (wrap64 (1 + t200)) t202 t210 (wrap64 (1 + bt212.1)) (wrap64 (1 + t204)) (⟨#[]⟩ : ByteArray) (⟨#[]⟩ : ByteArray))) = some (r1, r2, r3, r4, r5, r6, r7, r8, r9) := H
   have A17 := Aside0.mk A170
   clear A170
   replace H := Option.bind_eq_some_iff.mp H
   obtain ⟨⟨t212, t213⟩, A180, H⟩ := H
   replace H : (spec_l5Phase.j0 k l2 s0_0 t213 a1 (wrap64 (1 + t200)) t202 t210 (wrap64 (1 + t212)) (wrap64 (1 + t204)) (⟨#[]⟩ : ByteArray) (⟨#[]⟩ : ByteArray)) = some (r1, r2, r3, r4, r5, r6, r7, r8, r9) := H
   have A18 := Aside0.mk A180
   clear A180
   have H' := Aside0.mk H
   clear H
   go_wp2_with (first | ((with_reducible refine gate_dst (N := 24) rfl ?_); refine Kd.R_lit Kd.string _ 9 ?hg (N := 24) ?hd (xs := ([(⟨#[97, 108, 101]⟩ : ByteArray), (⟨#[109, 97, 108, 116]⟩ : ByteArray)] : List ByteArray)) (inner := [.string (⟨#[97, 108, 101]⟩ : ByteArray), .string (⟨#[109, 97, 108, 116]⟩ : ByteArray)]) (ok := fun _ => True) (okp := fun _ => True) ?hr ?hp (fun _ hk => hk) trivial (Below.refl _ _) (Nat.le_refl _) (by simp) ?_; (case hd => rfl); (case hg => rfl); (case hr => first | (go_simp; done) | (go_simp; rfl)); (case hp => exact (Reps.one (show Kd.M Kd.string _ _ _ (⟨#[97, 108, 101]⟩ : ByteArray) [.string (⟨#[97, 108, 101]⟩ : ByteArray)] from rfl) (Reps.one (show Kd.M Kd.string _ _ _ (⟨#[109, 97, 108, 116]⟩ : ByteArray) [.string (⟨#[109, 97, 108, 116]⟩ : ByteArray)] from rfl) (Reps.none _ _)))); intro v208 w19 ho20 hb hg_ hnew_; clear hg_ hnew_; (first | rw [← Ny207.out] at ho20 | (simp only [Int.reduceToNat] at ho20; rw [← Ny207.out] at ho20)); have n0_ := Aside0.mk (Kd.R_lower ho20 (keep_size (w := w) (g := g) (row := none) (kb HK.out))); have n1_ := Aside0.mk (IsS107.below (show IsS107 w0 ((((((((w12.setCell ⟨gb206, 0, none⟩ (.string a1)).setCell ⟨gb206, 1, none⟩ (.int .i64 (wrap64 (1 + t200)))).setCell ⟨gb206, 2, none⟩ (.string t202)).setCell ⟨gb206, 3, none⟩ (.string (⟨#[]⟩ : ByteArray))).setCell ⟨gb206, 4, none⟩ (.int .i64 0)).setCell ⟨gb206, 5, none⟩ (.int .i64 (wrap64 (1 + t204)))).setCell ⟨gb206, 6, none⟩ (.string (⟨#[]⟩ : ByteArray))).setCell ⟨gb206, 7, none⟩ (.string (⟨#[]⟩ : ByteArray))) g s0_0 t205 from ib HI0.out) hb); have n2_ := Aside0.mk (blk_below (g := gb199) (o := .cells #[.string (⟨#[]⟩ : ByteArray), .int .i64 0, .string (⟨#[]⟩ : ByteArray), .string (⟨#[]⟩ : ByteArray), .int .i64 0, .int .i64 0, .string (⟨#[]⟩ : ByteArray), .string (⟨#[]⟩ : ByteArray)] 39 (0, 0)) (by refine bx ?_; refine blk_far ?_ NB199_206.out _; refine bx ?_; refine blk_far ?_ NB199_206.out _; refine bx ?_; refine blk_far ?_ NB199_206.out _; refine bx ?_; refine blk_far ?_ NB199_206.out _; refine bx ?_; refine blk_far ?_ NB199_206.out _; refine bx ?_; refine blk_far ?_ NB199_206.out _; refine bx ?_; refine blk_far ?_ NB199_206.out _; refine bx ?_; refine blk_far ?_ NB199_206.out _; refine bx ?_; exact BK199.out) hb); have n3_ := Aside0.mk (blk_below (g := gb206) (o := .cells #[.string a1, .int .i64 (wrap64 (1 + t200)), .string t202, .string (⟨#[]⟩ : ByteArray), .int .i64 0, .int .i64 (wrap64 (1 + t204)), .string (⟨#[]⟩ : ByteArray), .string (⟨#[]⟩ : ByteArray)] 39 (0, 0)) (by refine bx ?_; refine blk_put (cs := #[.string a1, .int .i64 (wrap64 (1 + t200)), .string t202, .string (⟨#[]⟩ : ByteArray), .int .i64 0, .int .i64 (wrap64 (1 + t204)), .string (⟨#[]⟩ : ByteArray), .string (⟨#[]⟩ : ByteArray)]) ?_ 7 _ rfl; refine bx ?_; refine blk_put (cs := #[.string a1, .int .i64 (wrap64 (1 + t200)), .string t202, .string (⟨#[]⟩ : ByteArray), .int .i64 0, .int .i64 (wrap64 (1 + t204)), .string (⟨#[]⟩ : ByteArray), .string (⟨#[]⟩ : ByteArray)]) ?_ 6 _ rfl; refine bx ?_; refine blk_put (cs := #[.string a1, .int .i64 (wrap64 (1 + t200)), .string t202, .string (⟨#[]⟩ : ByteArray), .int .i64 0, .int .i64 0, .string (⟨#[]⟩ : ByteArray), .string (⟨#[]⟩ : ByteArray)]) ?_ 5 _ rfl; refine bx ?_; refine blk_put (cs := #[.string a1, .int .i64 (wrap64 (1 + t200)), .string t202, .string (⟨#[]⟩ : ByteArray), .int .i64 0, .int .i64 0, .string (⟨#[]⟩ : ByteArray), .string (⟨#[]⟩ : ByteArray)]) ?_ 4 _ rfl; refine bx ?_; refine blk_put (cs := #[.string a1, .int .i64 (wrap64 (1 + t200)), .string t202, .string (⟨#[]⟩ : ByteArray), .int .i64 0, .int .i64 0, .string (⟨#[]⟩ : ByteArray), .string (⟨#[]⟩ : ByteArray)]) ?_ 3 _ rfl; refine bx ?_; refine blk_put (cs := #[.string a1, .int .i64 (wrap64 (1 + t200)), .string (⟨#[]⟩ : ByteArray), .string (⟨#[]⟩ : ByteArray), .int .i64 0, .int .i64 0, .string (⟨#[]⟩ : ByteArray), .string (⟨#[]⟩ : ByteArray)]) ?_ 2 _ rfl; refine bx ?_; refine blk_put (cs := #[.string a1, .int .i64 0, .string (⟨#[]⟩ : ByteArray), .string (⟨#[]⟩ : ByteArray), .int .i64 0, .int .i64 0, .string (⟨#[]⟩ : ByteArray), .string (⟨#[]⟩ : ByteArray)]) ?_ 1 _ rfl; refine bx ?_; refine blk_put (cs := #[.string (⟨#[]⟩ : ByteArray), .int .i64 0, .string (⟨#[]⟩ : ByteArray), .string (⟨#[]⟩ : ByteArray), .int .i64 0, .int .i64 0, .string (⟨#[]⟩ : ByteArray), .string (⟨#[]⟩ : ByteArray)]) ?_ 0 _ rfl; refine bx ?_; exact BK206.out) hb); have n4_ := kt HK (KeepBut.of_below hb g none); have n5_ := bsi HB hb; clear HI0; clear BK199; clear BK206; clear HK; clear HB; have HO209 := n0_; have HI0 := n1_; have BK199 := n2_; have BK206 := n3_; have HK := n4_; have HB := n5_; clear n0_ n1_ n2_ n3_ n4_ n5_; clear hb ho20; obtain ⟨Ao21, co21, eo21⟩ := Kd.R_slice HO209.out; subst eo21) | ((with_reducible refine gate_callee (f := 80) rfl ?_); refine goesL_ (some 25) rfl rfl Try.func80 (by kernel_rfl) rfl #[.pointer (some ⟨g, 0, none⟩), .slice Ao21 y207.length co21] rfl mxp ?_; (with_reducible refine (spec_l1Rd_of.calls k g s0_0 t205 _ _ y207 t210 t211 w0 _ ?side1 ?side2 ?side3 ?side4 ?side5 A17.out).mono ?_); (case side1 => exact ib HI0.out); (case side2 => exact bi HB.out); (case side3 => exact cx (Kd.R_reads' HO209.out).2.2); (case side4 => exact (Kd.R_reads' HO209.out).2.1); (case side5 => exact far_slice (IsS107.own_ne HI0.out HO209.out (by decide))); rintro e w22 ⟨rfl, hi, hb, hk⟩; refine ⟨_, rfl, ?_⟩; have n0_ := kp BK199 hk NB199_0; have n1_ := kp BK206 hk NB206_0; have n2_ := Aside0.mk (Kd.R_mono (Kd.R_keep (IsS107.apart (show IsS107 w0 _ g s0_0 t205 from ib HI0.out) (rx HO209.out) (by decide)) hk (fun _ h => h.2)) (fun _ h => h.1)); have n3_ := kt HK hk; have n4_ := Aside0.mk (hb); have n5_ := Aside0.mk (hi); clear BK199; clear BK206; clear HO209; clear HK; clear HB; clear HI0; have BK199 := n0_; have BK206 := n1_; have HO209 := n2_; have HK := n3_; have HB := n4_; have HI0 := n5_; clear n0_ n1_ n2_ n3_ n4_ n5_; (try clear hb); (try clear hb2); (try clear hk); (try clear hi); have hnb23 := NB206_199.out; have hnc23 := NB199_206.out; have hnb24 := NB206_0.out; have hnc24 := NB0_206.out; have hcz25_0 := b0 BK206; have hcz25_1 := b1 BK206; have hcz25_2 := b2 BK206; have hcz25_3 := b3 BK206; have hcz25_4 := b4 BK206; have hcz25_5 := b5 BK206; have hcz25_6 := b6 BK206; have hcz25_7 := b7 BK206; have hfz25_0 := fz BK206 0; have hfz25_1 := fz BK206 1; have hfz25_2 := fz BK206 2; have hfz25_3 := fz BK206 3; have hfz25_4 := fz BK206 4; have hfz25_5 := fz BK206 5; have hfz25_6 := fz BK206 6; have hfz25_7 := fz BK206 7) | ((with_reducible refine gate_callee (f := 64) rfl ?_); refine goesL_ (some 28) rfl rfl Try.func64 (by kernel_rfl) rfl #[.pointer (some ⟨g, 0, none⟩), .int .i64 30] rfl mxp ?_; (with_reducible refine (spec_l1Rd_pick.calls k g s0_0 t211 30 t212 t213 w0 _ ?side1 ?side2 A18.out).mono ?_); (case side1 => exact ib HI0.out); (case side2 => exact bi HB.out); rintro e w26 ⟨rfl, hi, hb, hk⟩; refine ⟨_, rfl, ?_⟩; have n0_ := Aside0.mk (KeepBut.blk hk (g' := gb199) (o := .cells #[.string (⟨#[]⟩ : ByteArray), .int .i64 0, .string (⟨#[]⟩ : ByteArray), .string (⟨#[]⟩ : ByteArray), .int .i64 0, .int .i64 0, .string (⟨#[]⟩ : ByteArray), .string (⟨#[]⟩ : ByteArray)] 39 (0, 0)) (by refine bx ?_; refine blk_far ?_ NB199_206.out _; refine bx ?_; exact BK199.out) NB199_0.out (by simp)); have n1_ := Aside0.mk (KeepBut.blk hk (g' := gb206) (o := .cells #[.string a1, .int .i64 (wrap64 (1 + t200)), .string t202, .string t210, .int .i64 0, .int .i64 (wrap64 (1 + t204)), .string (⟨#[]⟩ : ByteArray), .string (⟨#[]⟩ : ByteArray)] 39 (0, 0)) (by refine bx ?_; refine blk_put (cs := #[.string a1, .int .i64 (wrap64 (1 + t200)), .string t202, .string (⟨#[]⟩ : ByteArray), .int .i64 0, .int .i64 (wrap64 (1 + t204)), .string (⟨#[]⟩ : ByteArray), .string (⟨#[]⟩ : ByteArray)]) ?_ 3 _ rfl; refine bx ?_; exact BK206.out) NB206_0.out (by simp)); have n2_ := Aside0.mk (Kd.R_mono (Kd.R_keep (IsS107.apart (show IsS107 w0 _ g s0_0 t211 from ib HI0.out) (by refine rx ?_; exact (Kd.R_mono (Kd.R_far (p := ⟨gb206, 3, none⟩) (Kd.R_types HO209.out BK206.out (by decide)) (fun _ hk => hk.2) (.string t210)) (fun _ h_ => h_.1))) (by decide)) hk (fun _ h => h.2)) (fun _ h => h.1)); have n3_ := kt HK hk; have n4_ := Aside0.mk (hb); have n5_ := Aside0.mk (hi); clear BK199; clear BK206; clear HO209; clear HK; clear HB; clear HI0; have BK199 := n0_; have BK206 := n1_; have HO209 := n2_; have HK := n3_; have HB := n4_; have HI0 := n5_; clear n0_ n1_ n2_ n3_ n4_ n5_; (try clear hb); (try clear hb2); (try clear hk); (try clear hi); have hcz27_0 := b0 BK206; have hcz27_1 := b1 BK206; have hcz27_2 := b2 BK206; have hcz27_3 := b3 BK206; have hcz27_4 := b4 BK206; have hcz27_5 := b5 BK206; have hcz27_6 := b6 BK206; have hcz27_7 := b7 BK206; have hfz27_0 := fz BK206 0; have hfz27_1 := fz BK206 1; have hfz27_2 := fz BK206 2; have hfz27_3 := fz BK206 3; have hfz27_4 := fz BK206 4; have hfz27_5 := fz BK206 5; have hfz27_6 := fz BK206 6; have hfz27_7 := fz BK206 7))
   go_meet
   case rel => exact ⟨_, (t213), (t210), (wrap64 (1 + t212)), H', ⟨by first | omega | exact Nat.le_refl _⟩, ⟨by refine bx ?_; refine blk_far ?_ NB199_206.out _; refine bx ?_; exact BK199.out⟩, ⟨by refine bx ?_; refine blk_put (cs := #[.string a1, .int .i64 (wrap64 (1 + t200)), .string t202, .string t210, .int .i64 0, .int .i64 (wrap64 (1 + t204)), .string (⟨#[]⟩ : ByteArray), .string (⟨#[]⟩ : ByteArray)]) ?_ 4 _ rfl; refine bx ?_; exact BK206.out⟩, ⟨ib HI0.out⟩, ⟨kb HK.out⟩, (hbi HB)⟩
  ·rw [if_neg c16] at H
   have c16b0 : ((wrap64 (1 + t200)) == 1) = false := beq_eq_false_iff_ne.mpr c16
   have c16b1 : ((wrap64 (1 + t200)) != 1) = true := bne_iff_ne.mpr c16
   (first | rw [c16b0] | (simp only [i64_w, i32_w]; rw [c16b0]) | skip)
   by_cases c28 : (wrap64 (1 + t200)) = 2
   ·rw [if_pos c28] at H
    have c28b0 : ((wrap64 (1 + t200)) == 2) = true := beq_iff_eq.mpr c28
    have c28b1 : ((wrap64 (1 + t200)) != 2) = false := bne_eq_false_iff_eq.mpr c28
    clear c28
    replace H := Option.bind_eq_some_iff.mp H
    obtain ⟨⟨t214, t215⟩, A290, H⟩ := H
    replace H : (if t214.toList = t202.toList then ((spec_l1Rd_pick.f k s0_0 t215 30).bind fun bt216 => (spec_l5Phase.j0 k l2 s0_0 bt216.2 a1 (wrap64 (1 + t200)) t202 (⟨#[118, 97, 116]⟩ : ByteArray) (wrap64 (1 + bt216.1)) (wrap64 (1 + t204)) (⟨#[]⟩ : ByteArray) (⟨#[]⟩ : ByteArray))) else ((spec_l1Rd_pick.f k s0_0 t215 30).bind fun bt218 => (spec_l5Phase.j0 k l2 s0_0 bt218.2 a1 (wrap64 (1 + t200)) t202 t214 (wrap64 (1 + bt218.1)) (wrap64 (1 + t204)) (⟨#[]⟩ : ByteArray) (⟨#[]⟩ : ByteArray)))) = some (r1, r2, r3, r4, r5, r6, r7, r8, r9) := H
    have A29 := Aside0.mk A290
    clear A290
    by_cases c30 : t214.toList = t202.toList
    ·rw [if_pos c30] at H
     have c30b0 : (t214.toList == t202.toList) = true := beq_iff_eq.mpr c30
     have c30b1 : (t214.toList != t202.toList) = false := bne_eq_false_iff_eq.mpr c30
     clear c30
     replace H := Option.bind_eq_some_iff.mp H
     obtain ⟨⟨t216, t217⟩, A310, H⟩ := H
     replace H : (spec_l5Phase.j0 k l2 s0_0 t217 a1 (wrap64 (1 + t200)) t202 (⟨#[118, 97, 116]⟩ : ByteArray) (wrap64 (1 + t216)) (wrap64 (1 + t204)) (⟨#[]⟩ : ByteArray) (⟨#[]⟩ : ByteArray)) = some (r1, r2, r3, r4, r5, r6, r7, r8, r9) := H
     have A31 := Aside0.mk A310
     clear A310
     have H' := Aside0.mk H
     clear H
     go_wp2_with (first | ((with_reducible refine gate_callee (f := 99) rfl ?_); refine goesL_ (some 34) rfl rfl Try.func99 (by kernel_rfl) rfl #[.pointer (some ⟨g, 0, none⟩)] rfl mxp ?_; (with_reducible refine (spec_l5Slot.calls k g s0_0 t205 t214 t215 w0 _ ?side1 ?side2 A29.out).mono ?_); (case side1 => exact ib HI0.out); (case side2 => exact bi HB.out); rintro e w32 ⟨rfl, hi, hb, hk⟩; refine ⟨_, rfl, ?_⟩; have n0_ := Aside0.mk (KeepBut.blk hk (g' := gb199) (o := .cells #[.string (⟨#[]⟩ : ByteArray), .int .i64 0, .string (⟨#[]⟩ : ByteArray), .string (⟨#[]⟩ : ByteArray), .int .i64 0, .int .i64 0, .string (⟨#[]⟩ : ByteArray), .string (⟨#[]⟩ : ByteArray)] 39 (0, 0)) (by refine bx ?_; refine blk_far ?_ NB199_206.out _; refine bx ?_; refine blk_far ?_ NB199_206.out _; refine bx ?_; refine blk_far ?_ NB199_206.out _; refine bx ?_; refine blk_far ?_ NB199_206.out _; refine bx ?_; refine blk_far ?_ NB199_206.out _; refine bx ?_; refine blk_far ?_ NB199_206.out _; refine bx ?_; refine blk_far ?_ NB199_206.out _; refine bx ?_; refine blk_far ?_ NB199_206.out _; refine bx ?_; exact BK199.out) NB199_0.out (by simp)); have n1_ := Aside0.mk (KeepBut.blk hk (g' := gb206) (o := .cells #[.string a1, .int .i64 (wrap64 (1 + t200)), .string t202, .string (⟨#[]⟩ : ByteArray), .int .i64 0, .int .i64 (wrap64 (1 + t204)), .string (⟨#[]⟩ : ByteArray), .string (⟨#[]⟩ : ByteArray)] 39 (0, 0)) (by refine bx ?_; refine blk_put (cs := #[.string a1, .int .i64 (wrap64 (1 + t200)), .string t202, .string (⟨#[]⟩ : ByteArray), .int .i64 0, .int .i64 (wrap64 (1 + t204)), .string (⟨#[]⟩ : ByteArray), .string (⟨#[]⟩ : ByteArray)]) ?_ 7 _ rfl; refine bx ?_; refine blk_put (cs := #[.string a1, .int .i64 (wrap64 (1 + t200)), .string t202, .string (⟨#[]⟩ : ByteArray), .int .i64 0, .int .i64 (wrap64 (1 + t204)), .string (⟨#[]⟩ : ByteArray), .string (⟨#[]⟩ : ByteArray)]) ?_ 6 _ rfl; refine bx ?_; refine blk_put (cs := #[.string a1, .int .i64 (wrap64 (1 + t200)), .string t202, .string (⟨#[]⟩ : ByteArray), .int .i64 0, .int .i64 0, .string (⟨#[]⟩ : ByteArray), .string (⟨#[]⟩ : ByteArray)]) ?_ 5 _ rfl; refine bx ?_; refine blk_put (cs := #[.string a1, .int .i64 (wrap64 (1 + t200)), .string t202, .string (⟨#[]⟩ : ByteArray), .int .i64 0, .int .i64 0, .string (⟨#[]⟩ : ByteArray), .string (⟨#[]⟩ : ByteArray)]) ?_ 4 _ rfl; refine bx ?_; refine blk_put (cs := #[.string a1, .int .i64 (wrap64 (1 + t200)), .string t202, .string (⟨#[]⟩ : ByteArray), .int .i64 0, .int .i64 0, .string (⟨#[]⟩ : ByteArray), .string (⟨#[]⟩ : ByteArray)]) ?_ 3 _ rfl; refine bx ?_; refine blk_put (cs := #[.string a1, .int .i64 (wrap64 (1 + t200)), .string (⟨#[]⟩ : ByteArray), .string (⟨#[]⟩ : ByteArray), .int .i64 0, .int .i64 0, .string (⟨#[]⟩ : ByteArray), .string (⟨#[]⟩ : ByteArray)]) ?_ 2 _ rfl; refine bx ?_; refine blk_put (cs := #[.string a1, .int .i64 0, .string (⟨#[]⟩ : ByteArray), .string (⟨#[]⟩ : ByteArray), .int .i64 0, .int .i64 0, .string (⟨#[]⟩ : ByteArray), .string (⟨#[]⟩ : ByteArray)]) ?_ 1 _ rfl; refine bx ?_; refine blk_put (cs := #[.string (⟨#[]⟩ : ByteArray), .int .i64 0, .string (⟨#[]⟩ : ByteArray), .string (⟨#[]⟩ : ByteArray), .int .i64 0, .int .i64 0, .string (⟨#[]⟩ : ByteArray), .string (⟨#[]⟩ : ByteArray)]) ?_ 0 _ rfl; refine bx ?_; exact BK206.out) NB206_0.out (by simp)); have n2_ := kt HK hk; have n3_ := Aside0.mk (hb); have n4_ := Aside0.mk (hi); clear BK199; clear BK206; clear HK; clear HB; clear HI0; have BK199 := n0_; have BK206 := n1_; have HK := n2_; have HB := n3_; have HI0 := n4_; clear n0_ n1_ n2_ n3_ n4_; (try clear hb); (try clear hb2); (try clear hk); (try clear hi); have hnb33 := NB206_199.out; have hnc33 := NB199_206.out; have hnb34 := NB206_0.out; have hnc34 := NB0_206.out; have hcz35_0 := b0 BK206; have hcz35_1 := b1 BK206; have hcz35_2 := b2 BK206; have hcz35_3 := b3 BK206; have hcz35_4 := b4 BK206; have hcz35_5 := b5 BK206; have hcz35_6 := b6 BK206; have hcz35_7 := b7 BK206; have hfz35_0 := fz BK206 0; have hfz35_1 := fz BK206 1; have hfz35_2 := fz BK206 2; have hfz35_3 := fz BK206 3; have hfz35_4 := fz BK206 4; have hfz35_5 := fz BK206 5; have hfz35_6 := fz BK206 6; have hfz35_7 := fz BK206 7) | ((with_reducible refine gate_callee (f := 64) rfl ?_); refine goesL_ (some 43) rfl rfl Try.func64 (by kernel_rfl) rfl #[.pointer (some ⟨g, 0, none⟩), .int .i64 30] rfl mxp ?_; (with_reducible refine (spec_l1Rd_pick.calls k g s0_0 t215 30 t216 t217 w0 _ ?side1 ?side2 A31.out).mono ?_); (case side1 => exact ib HI0.out); (case side2 => exact bi HB.out); rintro e w36 ⟨rfl, hi, hb, hk⟩; refine ⟨_, rfl, ?_⟩; have n0_ := Aside0.mk (KeepBut.blk hk (g' := gb199) (o := .cells #[.string (⟨#[]⟩ : ByteArray), .int .i64 0, .string (⟨#[]⟩ : ByteArray), .string (⟨#[]⟩ : ByteArray), .int .i64 0, .int .i64 0, .string (⟨#[]⟩ : ByteArray), .string (⟨#[]⟩ : ByteArray)] 39 (0, 0)) (by refine bx ?_; refine blk_far ?_ NB199_206.out _; refine bx ?_; refine blk_far ?_ NB199_206.out _; refine bx ?_; exact BK199.out) NB199_0.out (by simp)); have n1_ := Aside0.mk (KeepBut.blk hk (g' := gb206) (o := .cells #[.string a1, .int .i64 (wrap64 (1 + t200)), .string t202, .string (⟨#[118, 97, 116]⟩ : ByteArray), .int .i64 0, .int .i64 (wrap64 (1 + t204)), .string (⟨#[]⟩ : ByteArray), .string (⟨#[]⟩ : ByteArray)] 39 (0, 0)) (by refine bx ?_; refine blk_put (cs := #[.string a1, .int .i64 (wrap64 (1 + t200)), .string t202, .string t214, .int .i64 0, .int .i64 (wrap64 (1 + t204)), .string (⟨#[]⟩ : ByteArray), .string (⟨#[]⟩ : ByteArray)]) ?_ 3 _ rfl; refine bx ?_; refine blk_put (cs := #[.string a1, .int .i64 (wrap64 (1 + t200)), .string t202, .string (⟨#[]⟩ : ByteArray), .int .i64 0, .int .i64 (wrap64 (1 + t204)), .string (⟨#[]⟩ : ByteArray), .string (⟨#[]⟩ : ByteArray)]) ?_ 3 _ rfl; refine bx ?_; exact BK206.out) NB206_0.out (by simp)); have n2_ := kt HK hk; have n3_ := Aside0.mk (hb); have n4_ := Aside0.mk (hi); clear BK199; clear BK206; clear HK; clear HB; clear HI0; have BK199 := n0_; have BK206 := n1_; have HK := n2_; have HB := n3_; have HI0 := n4_; clear n0_ n1_ n2_ n3_ n4_; (try clear hb); (try clear hb2); (try clear hk); (try clear hi); have hcz37_0 := b0 BK206; have hcz37_1 := b1 BK206; have hcz37_2 := b2 BK206; have hcz37_3 := b3 BK206; have hcz37_4 := b4 BK206; have hcz37_5 := b5 BK206; have hcz37_6 := b6 BK206; have hcz37_7 := b7 BK206; have hfz37_0 := fz BK206 0; have hfz37_1 := fz BK206 1; have hfz37_2 := fz BK206 2; have hfz37_3 := fz BK206 3; have hfz37_4 := fz BK206 4; have hfz37_5 := fz BK206 5; have hfz37_6 := fz BK206 6; have hfz37_7 := fz BK206 7))
     go_meet
     case rel => exact ⟨_, (t217), ((⟨#[118, 97, 116]⟩ : ByteArray)), (wrap64 (1 + t216)), H', ⟨by first | omega | exact Nat.le_refl _⟩, ⟨by refine bx ?_; refine blk_far ?_ NB199_206.out _; refine bx ?_; exact BK199.out⟩, ⟨by refine bx ?_; refine blk_put (cs := #[.string a1, .int .i64 (wrap64 (1 + t200)), .string t202, .string (⟨#[118, 97, 116]⟩ : ByteArray), .int .i64 0, .int .i64 (wrap64 (1 + t204)), .string (⟨#[]⟩ : ByteArray), .string (⟨#[]⟩ : ByteArray)]) ?_ 4 _ rfl; refine bx ?_; exact BK206.out⟩, ⟨ib HI0.out⟩, ⟨kb HK.out⟩, (hbi HB)⟩
    ·rw [if_neg c30] at H
     have c30b0 : (t214.toList == t202.toList) = false := beq_eq_false_iff_ne.mpr c30
     have c30b1 : (t214.toList != t202.toList) = true := bne_iff_ne.mpr c30
     replace H := Option.bind_eq_some_iff.mp H
     obtain ⟨⟨t218, t219⟩, A380, H⟩ := H
     replace H : (spec_l5Phase.j0 k l2 s0_0 t219 a1 (wrap64 (1 + t200)) t202 t214 (wrap64 (1 + t218)) (wrap64 (1 + t204)) (⟨#[]⟩ : ByteArray) (⟨#[]⟩ : ByteArray)) = some (r1, r2, r3, r4, r5, r6, r7, r8, r9) := H
     have A38 := Aside0.mk A380
     clear A380
     have H' := Aside0.mk H
     clear H
     go_wp2_with (first | ((with_reducible refine gate_callee (f := 99) rfl ?_); refine goesL_ (some 34) rfl rfl Try.func99 (by kernel_rfl) rfl #[.pointer (some ⟨g, 0, none⟩)] rfl mxp ?_; (with_reducible refine (spec_l5Slot.calls k g s0_0 t205 t214 t215 w0 _ ?side1 ?side2 A29.out).mono ?_); (case side1 => exact ib HI0.out); (case side2 => exact bi HB.out); rintro e w39 ⟨rfl, hi, hb, hk⟩; refine ⟨_, rfl, ?_⟩; have n0_ := Aside0.mk (KeepBut.blk hk (g' := gb199) (o := .cells #[.string (⟨#[]⟩ : ByteArray), .int .i64 0, .string (⟨#[]⟩ : ByteArray), .string (⟨#[]⟩ : ByteArray), .int .i64 0, .int .i64 0, .string (⟨#[]⟩ : ByteArray), .string (⟨#[]⟩ : ByteArray)] 39 (0, 0)) (by refine bx ?_; refine blk_far ?_ NB199_206.out _; refine bx ?_; refine blk_far ?_ NB199_206.out _; refine bx ?_; refine blk_far ?_ NB199_206.out _; refine bx ?_; refine blk_far ?_ NB199_206.out _; refine bx ?_; refine blk_far ?_ NB199_206.out _; refine bx ?_; refine blk_far ?_ NB199_206.out _; refine bx ?_; refine blk_far ?_ NB199_206.out _; refine bx ?_; refine blk_far ?_ NB199_206.out _; refine bx ?_; exact BK199.out) NB199_0.out (by simp)); have n1_ := Aside0.mk (KeepBut.blk hk (g' := gb206) (o := .cells #[.string a1, .int .i64 (wrap64 (1 + t200)), .string t202, .string (⟨#[]⟩ : ByteArray), .int .i64 0, .int .i64 (wrap64 (1 + t204)), .string (⟨#[]⟩ : ByteArray), .string (⟨#[]⟩ : ByteArray)] 39 (0, 0)) (by refine bx ?_; refine blk_put (cs := #[.string a1, .int .i64 (wrap64 (1 + t200)), .string t202, .string (⟨#[]⟩ : ByteArray), .int .i64 0, .int .i64 (wrap64 (1 + t204)), .string (⟨#[]⟩ : ByteArray), .string (⟨#[]⟩ : ByteArray)]) ?_ 7 _ rfl; refine bx ?_; refine blk_put (cs := #[.string a1, .int .i64 (wrap64 (1 + t200)), .string t202, .string (⟨#[]⟩ : ByteArray), .int .i64 0, .int .i64 (wrap64 (1 + t204)), .string (⟨#[]⟩ : ByteArray), .string (⟨#[]⟩ : ByteArray)]) ?_ 6 _ rfl; refine bx ?_; refine blk_put (cs := #[.string a1, .int .i64 (wrap64 (1 + t200)), .string t202, .string (⟨#[]⟩ : ByteArray), .int .i64 0, .int .i64 0, .string (⟨#[]⟩ : ByteArray), .string (⟨#[]⟩ : ByteArray)]) ?_ 5 _ rfl; refine bx ?_; refine blk_put (cs := #[.string a1, .int .i64 (wrap64 (1 + t200)), .string t202, .string (⟨#[]⟩ : ByteArray), .int .i64 0, .int .i64 0, .string (⟨#[]⟩ : ByteArray), .string (⟨#[]⟩ : ByteArray)]) ?_ 4 _ rfl; refine bx ?_; refine blk_put (cs := #[.string a1, .int .i64 (wrap64 (1 + t200)), .string t202, .string (⟨#[]⟩ : ByteArray), .int .i64 0, .int .i64 0, .string (⟨#[]⟩ : ByteArray), .string (⟨#[]⟩ : ByteArray)]) ?_ 3 _ rfl; refine bx ?_; refine blk_put (cs := #[.string a1, .int .i64 (wrap64 (1 + t200)), .string (⟨#[]⟩ : ByteArray), .string (⟨#[]⟩ : ByteArray), .int .i64 0, .int .i64 0, .string (⟨#[]⟩ : ByteArray), .string (⟨#[]⟩ : ByteArray)]) ?_ 2 _ rfl; refine bx ?_; refine blk_put (cs := #[.string a1, .int .i64 0, .string (⟨#[]⟩ : ByteArray), .string (⟨#[]⟩ : ByteArray), .int .i64 0, .int .i64 0, .string (⟨#[]⟩ : ByteArray), .string (⟨#[]⟩ : ByteArray)]) ?_ 1 _ rfl; refine bx ?_; refine blk_put (cs := #[.string (⟨#[]⟩ : ByteArray), .int .i64 0, .string (⟨#[]⟩ : ByteArray), .string (⟨#[]⟩ : ByteArray), .int .i64 0, .int .i64 0, .string (⟨#[]⟩ : ByteArray), .string (⟨#[]⟩ : ByteArray)]) ?_ 0 _ rfl; refine bx ?_; exact BK206.out) NB206_0.out (by simp)); have n2_ := kt HK hk; have n3_ := Aside0.mk (hb); have n4_ := Aside0.mk (hi); clear BK199; clear BK206; clear HK; clear HB; clear HI0; have BK199 := n0_; have BK206 := n1_; have HK := n2_; have HB := n3_; have HI0 := n4_; clear n0_ n1_ n2_ n3_ n4_; (try clear hb); (try clear hb2); (try clear hk); (try clear hi); have hnb40 := NB206_199.out; have hnc40 := NB199_206.out; have hnb41 := NB206_0.out; have hnc41 := NB0_206.out; have hcz42_0 := b0 BK206; have hcz42_1 := b1 BK206; have hcz42_2 := b2 BK206; have hcz42_3 := b3 BK206; have hcz42_4 := b4 BK206; have hcz42_5 := b5 BK206; have hcz42_6 := b6 BK206; have hcz42_7 := b7 BK206; have hfz42_0 := fz BK206 0; have hfz42_1 := fz BK206 1; have hfz42_2 := fz BK206 2; have hfz42_3 := fz BK206 3; have hfz42_4 := fz BK206 4; have hfz42_5 := fz BK206 5; have hfz42_6 := fz BK206 6; have hfz42_7 := fz BK206 7) | ((with_reducible refine gate_callee (f := 64) rfl ?_); refine goesL_ (some 43) rfl rfl Try.func64 (by kernel_rfl) rfl #[.pointer (some ⟨g, 0, none⟩), .int .i64 30] rfl mxp ?_; (with_reducible refine (spec_l1Rd_pick.calls k g s0_0 t215 30 t218 t219 w0 _ ?side1 ?side2 A38.out).mono ?_); (case side1 => exact ib HI0.out); (case side2 => exact bi HB.out); rintro e w43 ⟨rfl, hi, hb, hk⟩; refine ⟨_, rfl, ?_⟩; have n0_ := Aside0.mk (KeepBut.blk hk (g' := gb199) (o := .cells #[.string (⟨#[]⟩ : ByteArray), .int .i64 0, .string (⟨#[]⟩ : ByteArray), .string (⟨#[]⟩ : ByteArray), .int .i64 0, .int .i64 0, .string (⟨#[]⟩ : ByteArray), .string (⟨#[]⟩ : ByteArray)] 39 (0, 0)) (by refine bx ?_; refine blk_far ?_ NB199_206.out _; refine bx ?_; exact BK199.out) NB199_0.out (by simp)); have n1_ := Aside0.mk (KeepBut.blk hk (g' := gb206) (o := .cells #[.string a1, .int .i64 (wrap64 (1 + t200)), .string t202, .string t214, .int .i64 0, .int .i64 (wrap64 (1 + t204)), .string (⟨#[]⟩ : ByteArray), .string (⟨#[]⟩ : ByteArray)] 39 (0, 0)) (by refine bx ?_; refine blk_put (cs := #[.string a1, .int .i64 (wrap64 (1 + t200)), .string t202, .string (⟨#[]⟩ : ByteArray), .int .i64 0, .int .i64 (wrap64 (1 + t204)), .string (⟨#[]⟩ : ByteArray), .string (⟨#[]⟩ : ByteArray)]) ?_ 3 _ rfl; refine bx ?_; exact BK206.out) NB206_0.out (by simp)); have n2_ := kt HK hk; have n3_ := Aside0.mk (hb); have n4_ := Aside0.mk (hi); clear BK199; clear BK206; clear HK; clear HB; clear HI0; have BK199 := n0_; have BK206 := n1_; have HK := n2_; have HB := n3_; have HI0 := n4_; clear n0_ n1_ n2_ n3_ n4_; (try clear hb); (try clear hb2); (try clear hk); (try clear hi); have hcz44_0 := b0 BK206; have hcz44_1 := b1 BK206; have hcz44_2 := b2 BK206; have hcz44_3 := b3 BK206; have hcz44_4 := b4 BK206; have hcz44_5 := b5 BK206; have hcz44_6 := b6 BK206; have hcz44_7 := b7 BK206; have hfz44_0 := fz BK206 0; have hfz44_1 := fz BK206 1; have hfz44_2 := fz BK206 2; have hfz44_3 := fz BK206 3; have hfz44_4 := fz BK206 4; have hfz44_5 := fz BK206 5; have hfz44_6 := fz BK206 6; have hfz44_7 := fz BK206 7))
     go_meet
     case rel => exact ⟨_, (t219), (t214), (wrap64 (1 + t218)), H', ⟨by first | omega | exact Nat.le_refl _⟩, ⟨by refine bx ?_; refine blk_far ?_ NB199_206.out _; refine bx ?_; exact BK199.out⟩, ⟨by refine bx ?_; refine blk_put (cs := #[.string a1, .int .i64 (wrap64 (1 + t200)), .string t202, .string t214, .int .i64 0, .int .i64 (wrap64 (1 + t204)), .string (⟨#[]⟩ : ByteArray), .string (⟨#[]⟩ : ByteArray)]) ?_ 4 _ rfl; refine bx ?_; exact BK206.out⟩, ⟨ib HI0.out⟩, ⟨kb HK.out⟩, (hbi HB)⟩
   ·rw [if_neg c28] at H
    have c28b0 : ((wrap64 (1 + t200)) == 2) = false := beq_eq_false_iff_ne.mpr c28
    have c28b1 : ((wrap64 (1 + t200)) != 2) = true := bne_iff_ne.mpr c28
    by_cases c45 : (wrap64 (1 + t200)) = 3
    ·rw [if_pos c45] at H
     have c45b0 : ((wrap64 (1 + t200)) == 3) = true := beq_iff_eq.mpr c45
     have c45b1 : ((wrap64 (1 + t200)) != 3) = false := bne_eq_false_iff_eq.mpr c45
     clear c45
     replace H := Option.bind_eq_some_iff.mp H
     obtain ⟨⟨t220, t221⟩, A460, H⟩ := H
     replace H : (spec_l5Phase.j0 k l2 s0_0 t221 a1 (wrap64 (1 + t200)) t202 (⟨#[]⟩ : ByteArray) (wrap64 (1 + t220)) (wrap64 (1 + t204)) (⟨#[]⟩ : ByteArray) (⟨#[]⟩ : ByteArray)) = some (r1, r2, r3, r4, r5, r6, r7, r8, r9) := H
     have A46 := Aside0.mk A460
     clear A460
     have H' := Aside0.mk H
     clear H
     have hnb47 := NB206_199.out
     have hnc47 := NB199_206.out
     have hnb48 := NB206_0.out
     have hnc48 := NB0_206.out
     have hcz49_0 := b0 BK206
     have hcz49_1 := b1 BK206
     have hcz49_2 := b2 BK206
     have hcz49_3 := b3 BK206
     have hcz49_4 := b4 BK206
     have hcz49_5 := b5 BK206
     have hcz49_6 := b6 BK206
     have hcz49_7 := b7 BK206
     have hfz49_0 := fz BK206 0
     have hfz49_1 := fz BK206 1
     have hfz49_2 := fz BK206 2
     have hfz49_3 := fz BK206 3
     have hfz49_4 := fz BK206 4
     have hfz49_5 := fz BK206 5
     have hfz49_6 := fz BK206 6
     have hfz49_7 := fz BK206 7
     go_wp2_with (first | ((with_reducible refine gate_callee (f := 64) rfl ?_); refine goesL_ (some 51) rfl rfl Try.func64 (by kernel_rfl) rfl #[.pointer (some ⟨g, 0, none⟩), .int .i64 (wrap64 (1 + t204))] rfl mxp ?_; (with_reducible refine (spec_l1Rd_pick.calls k g s0_0 t205 (wrap64 (1 + t204)) t220 t221 w0 _ ?side1 ?side2 A46.out).mono ?_); (case side1 => exact ib HI0.out); (case side2 => exact bi HB.out); rintro e w50 ⟨rfl, hi, hb, hk⟩; refine ⟨_, rfl, ?_⟩; have n0_ := Aside0.mk (KeepBut.blk hk (g' := gb199) (o := .cells #[.string (⟨#[]⟩ : ByteArray), .int .i64 0, .string (⟨#[]⟩ : ByteArray), .string (⟨#[]⟩ : ByteArray), .int .i64 0, .int .i64 0, .string (⟨#[]⟩ : ByteArray), .string (⟨#[]⟩ : ByteArray)] 39 (0, 0)) (by refine bx ?_; refine blk_far ?_ NB199_206.out _; refine bx ?_; refine blk_far ?_ NB199_206.out _; refine bx ?_; refine blk_far ?_ NB199_206.out _; refine bx ?_; refine blk_far ?_ NB199_206.out _; refine bx ?_; refine blk_far ?_ NB199_206.out _; refine bx ?_; refine blk_far ?_ NB199_206.out _; refine bx ?_; refine blk_far ?_ NB199_206.out _; refine bx ?_; refine blk_far ?_ NB199_206.out _; refine bx ?_; exact BK199.out) NB199_0.out (by simp)); have n1_ := Aside0.mk (KeepBut.blk hk (g' := gb206) (o := .cells #[.string a1, .int .i64 (wrap64 (1 + t200)), .string t202, .string (⟨#[]⟩ : ByteArray), .int .i64 0, .int .i64 (wrap64 (1 + t204)), .string (⟨#[]⟩ : ByteArray), .string (⟨#[]⟩ : ByteArray)] 39 (0, 0)) (by refine bx ?_; refine blk_put (cs := #[.string a1, .int .i64 (wrap64 (1 + t200)), .string t202, .string (⟨#[]⟩ : ByteArray), .int .i64 0, .int .i64 (wrap64 (1 + t204)), .string (⟨#[]⟩ : ByteArray), .string (⟨#[]⟩ : ByteArray)]) ?_ 7 _ rfl; refine bx ?_; refine blk_put (cs := #[.string a1, .int .i64 (wrap64 (1 + t200)), .string t202, .string (⟨#[]⟩ : ByteArray), .int .i64 0, .int .i64 (wrap64 (1 + t204)), .string (⟨#[]⟩ : ByteArray), .string (⟨#[]⟩ : ByteArray)]) ?_ 6 _ rfl; refine bx ?_; refine blk_put (cs := #[.string a1, .int .i64 (wrap64 (1 + t200)), .string t202, .string (⟨#[]⟩ : ByteArray), .int .i64 0, .int .i64 0, .string (⟨#[]⟩ : ByteArray), .string (⟨#[]⟩ : ByteArray)]) ?_ 5 _ rfl; refine bx ?_; refine blk_put (cs := #[.string a1, .int .i64 (wrap64 (1 + t200)), .string t202, .string (⟨#[]⟩ : ByteArray), .int .i64 0, .int .i64 0, .string (⟨#[]⟩ : ByteArray), .string (⟨#[]⟩ : ByteArray)]) ?_ 4 _ rfl; refine bx ?_; refine blk_put (cs := #[.string a1, .int .i64 (wrap64 (1 + t200)), .string t202, .string (⟨#[]⟩ : ByteArray), .int .i64 0, .int .i64 0, .string (⟨#[]⟩ : ByteArray), .string (⟨#[]⟩ : ByteArray)]) ?_ 3 _ rfl; refine bx ?_; refine blk_put (cs := #[.string a1, .int .i64 (wrap64 (1 + t200)), .string (⟨#[]⟩ : ByteArray), .string (⟨#[]⟩ : ByteArray), .int .i64 0, .int .i64 0, .string (⟨#[]⟩ : ByteArray), .string (⟨#[]⟩ : ByteArray)]) ?_ 2 _ rfl; refine bx ?_; refine blk_put (cs := #[.string a1, .int .i64 0, .string (⟨#[]⟩ : ByteArray), .string (⟨#[]⟩ : ByteArray), .int .i64 0, .int .i64 0, .string (⟨#[]⟩ : ByteArray), .string (⟨#[]⟩ : ByteArray)]) ?_ 1 _ rfl; refine bx ?_; refine blk_put (cs := #[.string (⟨#[]⟩ : ByteArray), .int .i64 0, .string (⟨#[]⟩ : ByteArray), .string (⟨#[]⟩ : ByteArray), .int .i64 0, .int .i64 0, .string (⟨#[]⟩ : ByteArray), .string (⟨#[]⟩ : ByteArray)]) ?_ 0 _ rfl; refine bx ?_; exact BK206.out) NB206_0.out (by simp)); have n2_ := kt HK hk; have n3_ := Aside0.mk (hb); have n4_ := Aside0.mk (hi); clear BK199; clear BK206; clear HK; clear HB; clear HI0; have BK199 := n0_; have BK206 := n1_; have HK := n2_; have HB := n3_; have HI0 := n4_; clear n0_ n1_ n2_ n3_ n4_; (try clear hb); (try clear hb2); (try clear hk); (try clear hi); have hcz51_0 := b0 BK206; have hcz51_1 := b1 BK206; have hcz51_2 := b2 BK206; have hcz51_3 := b3 BK206; have hcz51_4 := b4 BK206; have hcz51_5 := b5 BK206; have hcz51_6 := b6 BK206; have hcz51_7 := b7 BK206; have hfz51_0 := fz BK206 0; have hfz51_1 := fz BK206 1; have hfz51_2 := fz BK206 2; have hfz51_3 := fz BK206 3; have hfz51_4 := fz BK206 4; have hfz51_5 := fz BK206 5; have hfz51_6 := fz BK206 6; have hfz51_7 := fz BK206 7))
     go_meet
     case rel => exact ⟨_, (t221), ((⟨#[]⟩ : ByteArray)), (wrap64 (1 + t220)), H', ⟨by first | omega | exact Nat.le_refl _⟩, ⟨by refine bx ?_; refine blk_far ?_ NB199_206.out _; refine bx ?_; exact BK199.out⟩, ⟨by refine bx ?_; refine blk_put (cs := #[.string a1, .int .i64 (wrap64 (1 + t200)), .string t202, .string (⟨#[]⟩ : ByteArray), .int .i64 0, .int .i64 (wrap64 (1 + t204)), .string (⟨#[]⟩ : ByteArray), .string (⟨#[]⟩ : ByteArray)]) ?_ 4 _ rfl; refine bx ?_; exact BK206.out⟩, ⟨ib HI0.out⟩, ⟨kb HK.out⟩, (hbi HB)⟩
    ·rw [if_neg c45] at H
     have c45b0 : ((wrap64 (1 + t200)) == 3) = false := beq_eq_false_iff_ne.mpr c45
     have c45b1 : ((wrap64 (1 + t200)) != 3) = true := bne_iff_ne.mpr c45
     have H' := Aside0.mk H
     clear H
     go_wp2
     go_meet
     case rel => exact ⟨_, (t205), ((⟨#[]⟩ : ByteArray)), (0), H', ⟨by first | omega | exact Nat.le_refl _⟩, ⟨by refine bx ?_; refine blk_far ?_ NB199_206.out _; refine bx ?_; refine blk_far ?_ NB199_206.out _; refine bx ?_; refine blk_far ?_ NB199_206.out _; refine bx ?_; refine blk_far ?_ NB199_206.out _; refine bx ?_; refine blk_far ?_ NB199_206.out _; refine bx ?_; refine blk_far ?_ NB199_206.out _; refine bx ?_; refine blk_far ?_ NB199_206.out _; refine bx ?_; refine blk_far ?_ NB199_206.out _; refine bx ?_; exact BK199.out⟩, ⟨by refine bx ?_; refine blk_put (cs := #[.string a1, .int .i64 (wrap64 (1 + t200)), .string t202, .string (⟨#[]⟩ : ByteArray), .int .i64 0, .int .i64 (wrap64 (1 + t204)), .string (⟨#[]⟩ : ByteArray), .string (⟨#[]⟩ : ByteArray)]) ?_ 7 _ rfl; refine bx ?_; refine blk_put (cs := #[.string a1, .int .i64 (wrap64 (1 + t200)), .string t202, .string (⟨#[]⟩ : ByteArray), .int .i64 0, .int .i64 (wrap64 (1 + t204)), .string (⟨#[]⟩ : ByteArray), .string (⟨#[]⟩ : ByteArray)]) ?_ 6 _ rfl; refine bx ?_; refine blk_put (cs := #[.string a1, .int .i64 (wrap64 (1 + t200)), .string t202, .string (⟨#[]⟩ : ByteArray), .int .i64 0, .int .i64 0, .string (⟨#[]⟩ : ByteArray), .string (⟨#[]⟩ : ByteArray)]) ?_ 5 _ rfl; refine bx ?_; refine blk_put (cs := #[.string a1, .int .i64 (wrap64 (1 + t200)), .string t202, .string (⟨#[]⟩ : ByteArray), .int .i64 0, .int .i64 0, .string (⟨#[]⟩ : ByteArray), .string (⟨#[]⟩ : ByteArray)]) ?_ 4 _ rfl; refine bx ?_; refine blk_put (cs := #[.string a1, .int .i64 (wrap64 (1 + t200)), .string t202, .string (⟨#[]⟩ : ByteArray), .int .i64 0, .int .i64 0, .string (⟨#[]⟩ : ByteArray), .string (⟨#[]⟩ : ByteArray)]) ?_ 3 _ rfl; refine bx ?_; refine blk_put (cs := #[.string a1, .int .i64 (wrap64 (1 + t200)), .string (⟨#[]⟩ : ByteArray), .string (⟨#[]⟩ : ByteArray), .int .i64 0, .int .i64 0, .string (⟨#[]⟩ : ByteArray), .string (⟨#[]⟩ : ByteArray)]) ?_ 2 _ rfl; refine bx ?_; refine blk_put (cs := #[.string a1, .int .i64 0, .string (⟨#[]⟩ : ByteArray), .string (⟨#[]⟩ : ByteArray), .int .i64 0, .int .i64 0, .string (⟨#[]⟩ : ByteArray), .string (⟨#[]⟩ : ByteArray)]) ?_ 1 _ rfl; refine bx ?_; refine blk_put (cs := #[.string (⟨#[]⟩ : ByteArray), .int .i64 0, .string (⟨#[]⟩ : ByteArray), .string (⟨#[]⟩ : ByteArray), .int .i64 0, .int .i64 0, .string (⟨#[]⟩ : ByteArray), .string (⟨#[]⟩ : ByteArray)]) ?_ 0 _ rfl; refine bx ?_; exact BK206.out⟩, ⟨ib HI0.out⟩, ⟨kb HK.out⟩, (hbi HB)⟩
 case rest =>
  clear HC7
  try clear c1
  try clear c2
  try clear p2
  try clear c3
  try clear c4
  try clear c6
  try clear p6
  try clear c7
  try clear c8
  try clear c9
  try clear c13
  try clear c14
  try clear c16
  try clear c16b0
  try clear c16b1
  try clear c23
  try clear c24
  try clear c28
  try clear c28b0
  try clear c28b1
  try clear c30
  try clear c30b0
  try clear c30b1
  try clear c33
  try clear c34
  try clear c40
  try clear c41
  try clear c45
  try clear c45b0
  try clear c45b1
  try clear c47
  try clear c48
  try clear hcz15_0
  try clear hcz15_1
  try clear hcz15_2
  try clear hcz15_3
  try clear hcz15_4
  try clear hcz15_5
  try clear hcz15_6
  try clear hcz15_7
  try clear hcz25_0
  try clear hcz25_1
  try clear hcz25_2
  try clear hcz25_3
  try clear hcz25_4
  try clear hcz25_5
  try clear hcz25_6
  try clear hcz25_7
  try clear hcz27_0
  try clear hcz27_1
  try clear hcz27_2
  try clear hcz27_3
  try clear hcz27_4
  try clear hcz27_5
  try clear hcz27_6
  try clear hcz27_7
  try clear hcz35_0
  try clear hcz35_1
  try clear hcz35_2
  try clear hcz35_3
  try clear hcz35_4
  try clear hcz35_5
  try clear hcz35_6
  try clear hcz35_7
  try clear hcz37_0
  try clear hcz37_1
  try clear hcz37_2
  try clear hcz37_3
  try clear hcz37_4
  try clear hcz37_5
  try clear hcz37_6
  try clear hcz37_7
  try clear hcz42_0
  try clear hcz42_1
  try clear hcz42_2
  try clear hcz42_3
  try clear hcz42_4
  try clear hcz42_5
  try clear hcz42_6
  try clear hcz42_7
  try clear hcz44_0
  try clear hcz44_1
  try clear hcz44_2
  try clear hcz44_3
  try clear hcz44_4
  try clear hcz44_5
  try clear hcz44_6
  try clear hcz44_7
  try clear hcz49_0
  try clear hcz49_1
  try clear hcz49_2
  try clear hcz49_3
  try clear hcz49_4
  try clear hcz49_5
  try clear hcz49_6
  try clear hcz49_7
  try clear hcz51_0
  try clear hcz51_1
  try clear hcz51_2
  try clear hcz51_3
  try clear hcz51_4
  try clear hcz51_5
  try clear hcz51_6
  try clear hcz51_7
  try clear hfz15_0
  try clear hfz15_1
  try clear hfz15_2
  try clear hfz15_3
  try clear hfz15_4
  try clear hfz15_5
  try clear hfz15_6
  try clear hfz15_7
  try clear hfz25_0
  try clear hfz25_1
  try clear hfz25_2
  try clear hfz25_3
  try clear hfz25_4
  try clear hfz25_5
  try clear hfz25_6
  try clear hfz25_7
  try clear hfz27_0
  try clear hfz27_1
  try clear hfz27_2
  try clear hfz27_3
  try clear hfz27_4
  try clear hfz27_5
  try clear hfz27_6
  try clear hfz27_7
  try clear hfz35_0
  try clear hfz35_1
  try clear hfz35_2
  try clear hfz35_3
  try clear hfz35_4
  try clear hfz35_5
  try clear hfz35_6
  try clear hfz35_7
  try clear hfz37_0
  try clear hfz37_1
  try clear hfz37_2
  try clear hfz37_3
  try clear hfz37_4
  try clear hfz37_5
  try clear hfz37_6
  try clear hfz37_7
  try clear hfz42_0
  try clear hfz42_1
  try clear hfz42_2
  try clear hfz42_3
  try clear hfz42_4
  try clear hfz42_5
  try clear hfz42_6
  try clear hfz42_7
  try clear hfz44_0
  try clear hfz44_1
  try clear hfz44_2
  try clear hfz44_3
  try clear hfz44_4
  try clear hfz44_5
  try clear hfz44_6
  try clear hfz44_7
  try clear hfz49_0
  try clear hfz49_1
  try clear hfz49_2
  try clear hfz49_3
  try clear hfz49_4
  try clear hfz49_5
  try clear hfz49_6
  try clear hfz49_7
  try clear hfz51_0
  try clear hfz51_1
  try clear hfz51_2
  try clear hfz51_3
  try clear hfz51_4
  try clear hfz51_5
  try clear hfz51_6
  try clear hfz51_7
  obtain ⟨kq, x1001_6, x207003_6, x207004_6, HA, HJ6, BK199, BK206, HI0, HK, HB⟩ := hcut
  cases kq with
  | zero => exact absurd HA.out (by simp [spec_l5Phase.j0])
  | succ kj6 =>
   have H := HA.out
   clear HA
   simp only [spec_l5Phase.j0] at H
   obtain ⟨y222, hy222⟩ : ∃ y_ : List ByteArray, y_ = (([(⟨#[103, 111, 111, 100]⟩ : ByteArray), (⟨#[115, 97, 118, 101, 100]⟩ : ByteArray), (⟨#[115, 99, 114, 97, 112, 112, 101, 100]⟩ : ByteArray)] : List ByteArray)) := ⟨_, rfl⟩
   replace H : (if y222.length + l2.length < 8796093022208 then ((some (y222 ++ l2 : List ByteArray)).bind fun y225 => ((spec_l1Rd_of.f kj6 s0_0 x1001_6 y225).bind fun bt228 => ((spec_l1Rd_of.f kj6 s0_0 bt228.2 y225).bind fun bt230 => (if (l2.length : Int) > 0 then ((spec_l1Rd_pick.f kj6 s0_0 bt230.2 4).bind fun bt232 => (if bt232.1 > 0 then (if 0 < (l2.length : Int) then (some (a1, (wrap64 (1 + t200)), t202, x207003_6, x207004_6, (wrap64 (1 + t204)), rdOf ByteArray.empty l2 0, bt230.1, bt232.2)) else (none)) else (some (a1, (wrap64 (1 + t200)), t202, x207003_6, x207004_6, (wrap64 (1 + t204)), bt228.1, bt230.1, bt232.2)))) else (some (a1, (wrap64 (1 + t200)), t202, x207003_6, x207004_6, (wrap64 (1 + t204)), bt228.1, bt230.1, bt230.2)))))) else (none)) = some (r1, r2, r3, r4, r5, r6, r7, r8, r9) := by first | (rw [hy222]; with_reducible exact H) | (have H2_ := (Option.bind_some _ _).symm.trans H; rw [hy222]; with_reducible exact H2_) | (have H2_ := (Option.bind_some _ _).symm.trans H; with_reducible exact H2_) | with_reducible exact H | (rw [hy222]; exact H) | exact H
   have Ny222 := Aside0.mk hy222
   clear hy222
   by_cases c52 : y222.length + l2.length < 8796093022208
   ·rw [if_pos c52] at H
    have LMc52 := Aside0.mk c52
    clear c52
    obtain ⟨y225, hy225⟩ : ∃ y_ : List ByteArray, y_ = (y222 ++ l2) := ⟨_, rfl⟩
    replace H : ((spec_l1Rd_of.f kj6 s0_0 x1001_6 y225).bind fun bt228 => ((spec_l1Rd_of.f kj6 s0_0 bt228.2 y225).bind fun bt230 => (if (l2.length : Int) > 0 then ((spec_l1Rd_pick.f kj6 s0_0 bt230.2 4).bind fun bt232 => (if bt232.1 > 0 then (if 0 < (l2.length : Int) then (some (a1, (wrap64 (1 + t200)), t202, x207003_6, x207004_6, (wrap64 (1 + t204)), rdOf ByteArray.empty l2 0, bt230.1, bt232.2)) else (none)) else (some (a1, (wrap64 (1 + t200)), t202, x207003_6, x207004_6, (wrap64 (1 + t204)), bt228.1, bt230.1, bt232.2)))) else (some (a1, (wrap64 (1 + t200)), t202, x207003_6, x207004_6, (wrap64 (1 + t204)), bt228.1, bt230.1, bt230.2))))) = some (r1, r2, r3, r4, r5, r6, r7, r8, r9) := by first | (rw [hy225]; with_reducible exact H) | (have H2_ := (Option.bind_some _ _).symm.trans H; rw [hy225]; with_reducible exact H2_) | (have H2_ := (Option.bind_some _ _).symm.trans H; with_reducible exact H2_) | with_reducible exact H | (rw [hy225]; exact H) | exact H
    have Ny225 := Aside0.mk hy225
    clear hy225
    replace H := Option.bind_eq_some_iff.mp H
    obtain ⟨⟨t228, t229⟩, A530, H⟩ := H
    replace H : ((spec_l1Rd_of.f kj6 s0_0 t229 y225).bind fun bt230 => (if (l2.length : Int) > 0 then ((spec_l1Rd_pick.f kj6 s0_0 bt230.2 4).bind fun bt232 => (if bt232.1 > 0 then (if 0 < (l2.length : Int) then (some (a1, (wrap64 (1 + t200)), t202, x207003_6, x207004_6, (wrap64 (1 + t204)), rdOf ByteArray.empty l2 0, bt230.1, bt232.2)) else (none)) else (some (a1, (wrap64 (1 + t200)), t202, x207003_6, x207004_6, (wrap64 (1 + t204)), t228, bt230.1, bt232.2)))) else (some (a1, (wrap64 (1 + t200)), t202, x207003_6, x207004_6, (wrap64 (1 + t204)), t228, bt230.1, bt230.2)))) = some (r1, r2, r3, r4, r5, r6, r7, r8, r9) := H
    have A53 := Aside0.mk A530
    clear A530
    replace H := Option.bind_eq_some_iff.mp H
    obtain ⟨⟨t230, t231⟩, A540, H⟩ := H
    replace H : (if (l2.length : Int) > 0 then ((spec_l1Rd_pick.f kj6 s0_0 t231 4).bind fun bt232 => (if bt232.1 > 0 then (if 0 < (l2.length : Int) then (some (a1, (wrap64 (1 + t200)), t202, x207003_6, x207004_6, (wrap64 (1 + t204)), rdOf ByteArray.empty l2 0, t230, bt232.2)) else (none)) else (some (a1, (wrap64 (1 + t200)), t202, x207003_6, x207004_6, (wrap64 (1 + t204)), t228, t230, bt232.2)))) else (some (a1, (wrap64 (1 + t200)), t202, x207003_6, x207004_6, (wrap64 (1 + t204)), t228, t230, t231))) = some (r1, r2, r3, r4, r5, r6, r7, r8, r9) := H
    have A54 := Aside0.mk A540
    clear A540
    by_cases c55 : (l2.length : Int) > 0
    ·rw [if_pos c55] at H
     have c55b0 : decide (0 < (l2.length : Int)) = true := decide_eq_true c55
     have c55b1 : decide (0 < l2.length) = true := decide_eq_true (by omega)
     clear c55
     replace H := Option.bind_eq_some_iff.mp H
     obtain ⟨⟨t232, t233⟩, A560, H⟩ := H
     replace H : (if t232 > 0 then (if 0 < (l2.length : Int) then (some (a1, (wrap64 (1 + t200)), t202, x207003_6, x207004_6, (wrap64 (1 + t204)), rdOf ByteArray.empty l2 0, t230, t233)) else (none)) else (some (a1, (wrap64 (1 + t200)), t202, x207003_6, x207004_6, (wrap64 (1 + t204)), t228, t230, t233))) = some (r1, r2, r3, r4, r5, r6, r7, r8, r9) := H
     have A56 := Aside0.mk A560
     clear A560
     by_cases c57 : t232 > 0
     ·rw [if_pos c57] at H
      have c57b0 : decide (0 < t232) = true := decide_eq_true c57
      clear c57
      by_cases c58 : 0 < (l2.length : Int)
      ·rw [if_pos c58] at H
       have c58b0 : decide (0 < (l2.length : Int)) = true := decide_eq_true c58
       have c58b1 : decide (0 < l2.length) = true := decide_eq_true (by omega)
       clear c58
       simp only [Option.some.injEq, Prod.mk.injEq] at H
       obtain ⟨rfl, rfl, rfl, rfl, rfl, rfl, rfl, rfl, rfl⟩ := H
       go_wp2_with (first | ((with_reducible refine gate_dst (N := 54) rfl ?_); refine Kd.R_lit Kd.string _ 9 ?hg (N := 54) ?hd (xs := ([(⟨#[103, 111, 111, 100]⟩ : ByteArray), (⟨#[115, 97, 118, 101, 100]⟩ : ByteArray), (⟨#[115, 99, 114, 97, 112, 112, 101, 100]⟩ : ByteArray)] : List ByteArray)) (inner := [.string (⟨#[103, 111, 111, 100]⟩ : ByteArray), .string (⟨#[115, 97, 118, 101, 100]⟩ : ByteArray), .string (⟨#[115, 99, 114, 97, 112, 112, 101, 100]⟩ : ByteArray)]) (ok := fun _ => True) (okp := fun _ => True) ?hr ?hp (fun _ hk => hk) trivial (Below.refl _ _) (Nat.le_refl _) (by simp) ?_; (case hd => rfl); (case hg => rfl); (case hr => first | (go_simp; done) | (go_simp; rfl)); (case hp => exact (Reps.one (show Kd.M Kd.string _ _ _ (⟨#[103, 111, 111, 100]⟩ : ByteArray) [.string (⟨#[103, 111, 111, 100]⟩ : ByteArray)] from rfl) (Reps.one (show Kd.M Kd.string _ _ _ (⟨#[115, 97, 118, 101, 100]⟩ : ByteArray) [.string (⟨#[115, 97, 118, 101, 100]⟩ : ByteArray)] from rfl) (Reps.one (show Kd.M Kd.string _ _ _ (⟨#[115, 99, 114, 97, 112, 112, 101, 100]⟩ : ByteArray) [.string (⟨#[115, 99, 114, 97, 112, 112, 101, 100]⟩ : ByteArray)] from rfl) (Reps.none _ _))))); intro v223 w59 ho60 hb hg_ hnew_; clear hg_ hnew_; (first | rw [← Ny222.out] at ho60 | (simp only [Int.reduceToNat] at ho60; rw [← Ny222.out] at ho60)); have n0_ := Aside0.mk (Kd.R_lower ho60 (keep_size (w := w) (g := g) (row := none) (kb HK.out))); have n1_ := up BK199 hb; have n2_ := up BK206 hb; have n3_ := Aside0.mk (IsS107.below (ib HI0.out) hb); have n4_ := kt HK (KeepBut.of_below hb g none); have n5_ := bsi HB hb; clear BK199; clear BK206; clear HI0; clear HK; clear HB; have HO224 := n0_; have BK199 := n1_; have BK206 := n2_; have HI0 := n3_; have HK := n4_; have HB := n5_; clear n0_ n1_ n2_ n3_ n4_ n5_; clear hb ho60) | ((with_reducible refine gate_builtin (b := .append) (xs := #[.tmp 54, .tmp 55]) rfl ?_); at_builtin; refine Kd.R_append_rows Kd.string w.heap.size rfl (.tmp 54) (.tmp 55) 32 9 (.string ⟨#[]⟩) 16 rfl Try.underlying32 info9 rfl (by decide) (by omega) v223 y222 l2 _ _ _ (fun _ => True) (fun _ => False) rfl rfl ?aO ?aR (fun _ _ h => h) (fun _ h => h.elim) ?aF (Below.refl _ _) ?aS ?aL ?_; (case aR => exact Kd.C_keep (⟨#[]⟩ : ByteArray) HR2.out (kb HK.out) hf2); (case aF => exact (fun _ _ => trivial)); (case aO => exact (rx HO224.out)); (case aS => exact (keep_size (w := w) (g := g) (row := none) (kb HK.out))); (case aL => have := LMc52.out; omega); intro v226 w61 ho hb hg hat; rw [← Ny225.out] at ho; have n0_ := Aside0.mk (blk_grown (g := gb199) (o := .cells #[.string (⟨#[]⟩ : ByteArray), .int .i64 0, .string (⟨#[]⟩ : ByteArray), .string (⟨#[]⟩ : ByteArray), .int .i64 0, .int .i64 0, .string (⟨#[]⟩ : ByteArray), .string (⟨#[]⟩ : ByteArray)] 39 (0, 0)) (bx BK199.out) hg (Kd.R_ne HO224.out BK199.out (by decide))); have n1_ := Aside0.mk (blk_grown (g := gb206) (o := .cells #[.string a1, .int .i64 (wrap64 (1 + t200)), .string t202, .string x207003_6, .int .i64 x207004_6, .int .i64 (wrap64 (1 + t204)), .string (⟨#[]⟩ : ByteArray), .string (⟨#[]⟩ : ByteArray)] 39 (0, 0)) (bx BK206.out) hg (Kd.R_ne HO224.out BK206.out (by decide))); have n2_ := Aside0.mk (IsS107.grown (ib HI0.out) hg (IsS107.own_ne HI0.out HO224.out (by decide))); have n3_ := Aside0.mk (below_weaken (bi HB.out) HL.out hb); have n4_ := Aside0.mk (KeepBut.trans (kb HK.out) (KeepBut.of_grown hg g) (Kd.R_base2 HO224.out)); have n5_ := Aside0.mk (ho); clear BK199; clear BK206; clear HI0; clear HB; clear HK; clear HO224; have BK199 := n0_; have BK206 := n1_; have HI0 := n2_; have HB := n3_; have HK := n4_; have HO227 := n5_; clear n0_ n1_ n2_ n3_ n4_ n5_; clear ho hb hg hat; obtain ⟨Ao62, co62, eo62⟩ := Kd.R_slice HO227.out; subst eo62) | ((with_reducible refine gate_callee (f := 80) rfl ?_); refine goesL_ (some 59) rfl rfl Try.func80 (by kernel_rfl) rfl #[.pointer (some ⟨g, 0, none⟩), .slice Ao62 y225.length co62] rfl mxp ?_; (with_reducible refine (spec_l1Rd_of.calls kj6 g s0_0 x1001_6 _ _ y225 t228 t229 w0 _ ?side1 ?side2 ?side3 ?side4 ?side5 A53.out).mono ?_); (case side1 => exact ib HI0.out); (case side2 => exact bi HB.out); (case side3 => exact cx (Kd.R_reads' HO227.out).2.2); (case side4 => exact (Kd.R_reads' HO227.out).2.1); (case side5 => exact far_slice (IsS107.own_ne HI0.out HO227.out (by decide))); rintro e w63 ⟨rfl, hi, hb, hk⟩; refine ⟨_, rfl, ?_⟩; have n0_ := kp BK199 hk NB199_0; have n1_ := kp BK206 hk NB206_0; have n2_ := Aside0.mk (Kd.R_mono (Kd.R_keep (IsS107.apart (show IsS107 w0 _ g s0_0 x1001_6 from ib HI0.out) (rx HO227.out) (by decide)) hk (fun _ h => h.2)) (fun _ h => h.1)); have n3_ := kt HK hk; have n4_ := Aside0.mk (hb); have n5_ := Aside0.mk (hi); clear BK199; clear BK206; clear HO227; clear HK; clear HB; clear HI0; have BK199 := n0_; have BK206 := n1_; have HO227 := n2_; have HK := n3_; have HB := n4_; have HI0 := n5_; clear n0_ n1_ n2_ n3_ n4_ n5_; (try clear hb); (try clear hb2); (try clear hk); (try clear hi); have hnb64 := NB206_199.out; have hnc64 := NB199_206.out; have hnb65 := NB206_0.out; have hnc65 := NB0_206.out; have hcz66_0 := b0 BK206; have hcz66_1 := b1 BK206; have hcz66_2 := b2 BK206; have hcz66_3 := b3 BK206; have hcz66_4 := b4 BK206; have hcz66_5 := b5 BK206; have hcz66_6 := b6 BK206; have hcz66_7 := b7 BK206; have hfz66_0 := fz BK206 0; have hfz66_1 := fz BK206 1; have hfz66_2 := fz BK206 2; have hfz66_3 := fz BK206 3; have hfz66_4 := fz BK206 4; have hfz66_5 := fz BK206 5; have hfz66_6 := fz BK206 6; have hfz66_7 := fz BK206 7) | ((with_reducible refine gate_callee (f := 80) rfl ?_); refine goesL_ (some 63) rfl rfl Try.func80 (by kernel_rfl) rfl #[.pointer (some ⟨g, 0, none⟩), .slice Ao62 y225.length co62] rfl mxp ?_; (with_reducible refine (spec_l1Rd_of.calls kj6 g s0_0 t229 _ _ y225 t230 t231 w0 _ ?side1 ?side2 ?side3 ?side4 ?side5 A54.out).mono ?_); (case side1 => exact ib HI0.out); (case side2 => exact bi HB.out); (case side3 => refine (Kd.R_reads' (e := 9) (base := w.heap.size) (ok := fun k_ => True) (n := y225.length) (c := co62) ?_).2.2; exact (by refine rx ?_; exact (Kd.R_mono (Kd.R_far (p := ⟨gb206, 6, none⟩) (Kd.R_types HO227.out BK206.out (by decide)) (fun _ hk => hk.2) (.string t228)) (fun _ h_ => h_.1)))); (case side4 => exact (Kd.R_reads' HO227.out).2.1); (case side5 => exact far_slice (IsS107.own_ne HI0.out HO227.out (by decide))); rintro e w67 ⟨rfl, hi, hb, hk⟩; refine ⟨_, rfl, ?_⟩; have n0_ := Aside0.mk (KeepBut.blk hk (g' := gb199) (o := .cells #[.string (⟨#[]⟩ : ByteArray), .int .i64 0, .string (⟨#[]⟩ : ByteArray), .string (⟨#[]⟩ : ByteArray), .int .i64 0, .int .i64 0, .string (⟨#[]⟩ : ByteArray), .string (⟨#[]⟩ : ByteArray)] 39 (0, 0)) (by refine bx ?_; refine blk_far ?_ NB199_206.out _; refine bx ?_; exact BK199.out) NB199_0.out (by simp)); have n1_ := Aside0.mk (KeepBut.blk hk (g' := gb206) (o := .cells #[.string a1, .int .i64 (wrap64 (1 + t200)), .string t202, .string x207003_6, .int .i64 x207004_6, .int .i64 (wrap64 (1 + t204)), .string t228, .string (⟨#[]⟩ : ByteArray)] 39 (0, 0)) (by refine bx ?_; refine blk_put (cs := #[.string a1, .int .i64 (wrap64 (1 + t200)), .string t202, .string x207003_6, .int .i64 x207004_6, .int .i64 (wrap64 (1 + t204)), .string (⟨#[]⟩ : ByteArray), .string (⟨#[]⟩ : ByteArray)]) ?_ 6 _ rfl; refine bx ?_; exact BK206.out) NB206_0.out (by simp)); have n2_ := Aside0.mk (Kd.R_mono (Kd.R_keep (IsS107.apart (show IsS107 w0 _ g s0_0 t229 from ib HI0.out) (by refine rx ?_; exact (Kd.R_mono (Kd.R_far (p := ⟨gb206, 6, none⟩) (Kd.R_types HO227.out BK206.out (by decide)) (fun _ hk => hk.2) (.string t228)) (fun _ h_ => h_.1))) (by decide)) hk (fun _ h => h.2)) (fun _ h => h.1)); have n3_ := kt HK hk; have n4_ := Aside0.mk (hb); have n5_ := Aside0.mk (hi); clear BK199; clear BK206; clear HO227; clear HK; clear HB; clear HI0; have BK199 := n0_; have BK206 := n1_; have HO227 := n2_; have HK := n3_; have HB := n4_; have HI0 := n5_; clear n0_ n1_ n2_ n3_ n4_ n5_; (try clear hb); (try clear hb2); (try clear hk); (try clear hi); have hcz68_0 := b0 BK206; have hcz68_1 := b1 BK206; have hcz68_2 := b2 BK206; have hcz68_3 := b3 BK206; have hcz68_4 := b4 BK206; have hcz68_5 := b5 BK206; have hcz68_6 := b6 BK206; have hcz68_7 := b7 BK206; have hfz68_0 := fz BK206 0; have hfz68_1 := fz BK206 1; have hfz68_2 := fz BK206 2; have hfz68_3 := fz BK206 3; have hfz68_4 := fz BK206 4; have hfz68_5 := fz BK206 5; have hfz68_6 := fz BK206 6; have hfz68_7 := fz BK206 7) | (go_at_call 64; (with_reducible refine (spec_l1Rd_pick.calls kj6 g s0_0 t231 4 t232 t233 w0 _ ?side1 ?side2 A56.out).mono ?_); (case side1 => exact ib HI0.out); (case side2 => exact bi HB.out); rintro e w69 ⟨rfl, hi, hb, hk⟩; have n0_ := Aside0.mk (KeepBut.blk hk (g' := gb199) (o := .cells #[.string (⟨#[]⟩ : ByteArray), .int .i64 0, .string (⟨#[]⟩ : ByteArray), .string (⟨#[]⟩ : ByteArray), .int .i64 0, .int .i64 0, .string (⟨#[]⟩ : ByteArray), .string (⟨#[]⟩ : ByteArray)] 39 (0, 0)) (by refine bx ?_; refine blk_far ?_ NB199_206.out _; refine bx ?_; exact BK199.out) NB199_0.out (by simp)); have n1_ := Aside0.mk (KeepBut.blk hk (g' := gb206) (o := .cells #[.string a1, .int .i64 (wrap64 (1 + t200)), .string t202, .string x207003_6, .int .i64 x207004_6, .int .i64 (wrap64 (1 + t204)), .string t228, .string t230] 39 (0, 0)) (by refine bx ?_; refine blk_put (cs := #[.string a1, .int .i64 (wrap64 (1 + t200)), .string t202, .string x207003_6, .int .i64 x207004_6, .int .i64 (wrap64 (1 + t204)), .string t228, .string (⟨#[]⟩ : ByteArray)]) ?_ 7 _ rfl; refine bx ?_; exact BK206.out) NB206_0.out (by simp)); have n2_ := Aside0.mk (Kd.R_mono (Kd.R_keep (IsS107.apart (show IsS107 w0 _ g s0_0 t231 from ib HI0.out) (by refine rx ?_; exact (Kd.R_mono (Kd.R_far (p := ⟨gb206, 7, none⟩) (Kd.R_types HO227.out BK206.out (by decide)) (fun _ hk => hk.2) (.string t230)) (fun _ h_ => h_.1))) (by decide)) hk (fun _ h => h.2)) (fun _ h => h.1)); have n3_ := kt HK hk; have n4_ := Aside0.mk (hb); have n5_ := Aside0.mk (hi); clear BK199; clear BK206; clear HO227; clear HK; clear HB; clear HI0; have BK199 := n0_; have BK206 := n1_; have HO227 := n2_; have HK := n3_; have HB := n4_; have HI0 := n5_; clear n0_ n1_ n2_ n3_ n4_ n5_; (try clear hb); (try clear hb2); (try clear hk); (try clear hi); have p234 : 0 ≤ (0 : Int) := (by omega); have q234 : 0 < (l2.length : Int) := oda; obtain ⟨ad234, e234, hx234_0⟩ := Kd.at_string HR2.out 0 p234 q234; cases e234; have qi234 : (0 < l2.length) = True := eq_true (by omega); (try rw [show ((0 : Int)).toNat = 0 from rfl] at hx234_0); (try rw [Addr.add_zero'] at hx234_0); replace hx234_0 := keep_cell HK.out hx234_0 (by first | (rw [add_block]; exact hf2 _ rfl (by omega)) | exact hf2 _ rfl (by omega) | exact hf2 ad234 rfl (by omega)); replace p234 := eq_true p234; replace q234 := eq_true q234; have hcz70_0 := b0 BK206; have hcz70_1 := b1 BK206; have hcz70_2 := b2 BK206; have hcz70_3 := b3 BK206; have hcz70_4 := b4 BK206; have hcz70_5 := b5 BK206; have hcz70_6 := b6 BK206; have hcz70_7 := b7 BK206; have hfz70_0 := fz BK206 0; have hfz70_1 := fz BK206 1; have hfz70_2 := fz BK206 2; have hfz70_3 := fz BK206 3; have hfz70_4 := fz BK206 4; have hfz70_5 := fz BK206 5; have hfz70_6 := fz BK206 6; have hfz70_7 := fz BK206 7; have hnb71 := NB199_0.out; have hnc71 := NB0_199.out; have hcz72_0 := b0 BK199; have hcz72_1 := b1 BK199; have hcz72_2 := b2 BK199; have hcz72_3 := b3 BK199; have hcz72_4 := b4 BK199; have hcz72_5 := b5 BK199; have hcz72_6 := b6 BK199; have hcz72_7 := b7 BK199; have hfz72_0 := fz BK199 0; have hfz72_1 := fz BK199 1; have hfz72_2 := fz BK199 2; have hfz72_3 := fz BK199 3; have hfz72_4 := fz BK199 4; have hfz72_5 := fz BK199 5; have hfz72_6 := fz BK199 6; have hfz72_7 := fz BK199 7))
       refine bodyPost_ret (results_cell_row rfl _ _ gb199 39 #[.string a1, .int .i64 (wrap64 (1 + t200)), .string t202, .string x207003_6, .int .i64 x207004_6, .int .i64 (wrap64 (1 + t204)), .string (rdOf ByteArray.empty l2 0), .string t230] (0, 0) _ rfl (by refine bx ?_; refine blk_put (cs := #[.string a1, .int .i64 (wrap64 (1 + t200)), .string t202, .string x207003_6, .int .i64 x207004_6, .int .i64 (wrap64 (1 + t204)), .string (rdOf ByteArray.empty l2 0), .string (⟨#[]⟩ : ByteArray)]) ?_ 7 _ rfl; refine bx ?_; refine blk_put (cs := #[.string a1, .int .i64 (wrap64 (1 + t200)), .string t202, .string x207003_6, .int .i64 x207004_6, .int .i64 (wrap64 (1 + t204)), .string (⟨#[]⟩ : ByteArray), .string (⟨#[]⟩ : ByteArray)]) ?_ 6 _ rfl; refine bx ?_; refine blk_put (cs := #[.string a1, .int .i64 (wrap64 (1 + t200)), .string t202, .string x207003_6, .int .i64 x207004_6, .int .i64 0, .string (⟨#[]⟩ : ByteArray), .string (⟨#[]⟩ : ByteArray)]) ?_ 5 _ rfl; refine bx ?_; refine blk_put (cs := #[.string a1, .int .i64 (wrap64 (1 + t200)), .string t202, .string x207003_6, .int .i64 0, .int .i64 0, .string (⟨#[]⟩ : ByteArray), .string (⟨#[]⟩ : ByteArray)]) ?_ 4 _ rfl; refine bx ?_; refine blk_put (cs := #[.string a1, .int .i64 (wrap64 (1 + t200)), .string t202, .string (⟨#[]⟩ : ByteArray), .int .i64 0, .int .i64 0, .string (⟨#[]⟩ : ByteArray), .string (⟨#[]⟩ : ByteArray)]) ?_ 3 _ rfl; refine bx ?_; refine blk_put (cs := #[.string a1, .int .i64 (wrap64 (1 + t200)), .string (⟨#[]⟩ : ByteArray), .string (⟨#[]⟩ : ByteArray), .int .i64 0, .int .i64 0, .string (⟨#[]⟩ : ByteArray), .string (⟨#[]⟩ : ByteArray)]) ?_ 2 _ rfl; refine bx ?_; refine blk_put (cs := #[.string a1, .int .i64 0, .string (⟨#[]⟩ : ByteArray), .string (⟨#[]⟩ : ByteArray), .int .i64 0, .int .i64 0, .string (⟨#[]⟩ : ByteArray), .string (⟨#[]⟩ : ByteArray)]) ?_ 1 _ rfl; refine bx ?_; refine blk_put (cs := #[.string (⟨#[]⟩ : ByteArray), .int .i64 0, .string (⟨#[]⟩ : ByteArray), .string (⟨#[]⟩ : ByteArray), .int .i64 0, .int .i64 0, .string (⟨#[]⟩ : ByteArray), .string (⟨#[]⟩ : ByteArray)]) ?_ 0 _ rfl; refine bx ?_; refine blk_far ?_ NB199_206.out _; refine bx ?_; exact BK199.out) Try.underlying39 rfl (by kernel_rfl)) rfl ?_
       exact ⟨exq, ib HI0.out, bi HB.out, kb HK.out⟩
      ·rw [if_neg c58] at H
       exact absurd H (by simp)
     ·rw [if_neg c57] at H
      have c57b0 : decide (0 < t232) = false := decide_eq_false c57
      clear c57
      simp only [Option.some.injEq, Prod.mk.injEq] at H
      obtain ⟨rfl, rfl, rfl, rfl, rfl, rfl, rfl, rfl, rfl⟩ := H
      go_wp2_with (first | ((with_reducible refine gate_dst (N := 54) rfl ?_); refine Kd.R_lit Kd.string _ 9 ?hg (N := 54) ?hd (xs := ([(⟨#[103, 111, 111, 100]⟩ : ByteArray), (⟨#[115, 97, 118, 101, 100]⟩ : ByteArray), (⟨#[115, 99, 114, 97, 112, 112, 101, 100]⟩ : ByteArray)] : List ByteArray)) (inner := [.string (⟨#[103, 111, 111, 100]⟩ : ByteArray), .string (⟨#[115, 97, 118, 101, 100]⟩ : ByteArray), .string (⟨#[115, 99, 114, 97, 112, 112, 101, 100]⟩ : ByteArray)]) (ok := fun _ => True) (okp := fun _ => True) ?hr ?hp (fun _ hk => hk) trivial (Below.refl _ _) (Nat.le_refl _) (by simp) ?_; (case hd => rfl); (case hg => rfl); (case hr => first | (go_simp; done) | (go_simp; rfl)); (case hp => exact (Reps.one (show Kd.M Kd.string _ _ _ (⟨#[103, 111, 111, 100]⟩ : ByteArray) [.string (⟨#[103, 111, 111, 100]⟩ : ByteArray)] from rfl) (Reps.one (show Kd.M Kd.string _ _ _ (⟨#[115, 97, 118, 101, 100]⟩ : ByteArray) [.string (⟨#[115, 97, 118, 101, 100]⟩ : ByteArray)] from rfl) (Reps.one (show Kd.M Kd.string _ _ _ (⟨#[115, 99, 114, 97, 112, 112, 101, 100]⟩ : ByteArray) [.string (⟨#[115, 99, 114, 97, 112, 112, 101, 100]⟩ : ByteArray)] from rfl) (Reps.none _ _))))); intro v223 w73 ho74 hb hg_ hnew_; clear hg_ hnew_; (first | rw [← Ny222.out] at ho74 | (simp only [Int.reduceToNat] at ho74; rw [← Ny222.out] at ho74)); have n0_ := Aside0.mk (Kd.R_lower ho74 (keep_size (w := w) (g := g) (row := none) (kb HK.out))); have n1_ := up BK199 hb; have n2_ := up BK206 hb; have n3_ := Aside0.mk (IsS107.below (ib HI0.out) hb); have n4_ := kt HK (KeepBut.of_below hb g none); have n5_ := bsi HB hb; clear BK199; clear BK206; clear HI0; clear HK; clear HB; have HO224 := n0_; have BK199 := n1_; have BK206 := n2_; have HI0 := n3_; have HK := n4_; have HB := n5_; clear n0_ n1_ n2_ n3_ n4_ n5_; clear hb ho74) | ((with_reducible refine gate_builtin (b := .append) (xs := #[.tmp 54, .tmp 55]) rfl ?_); at_builtin; refine Kd.R_append_rows Kd.string w.heap.size rfl (.tmp 54) (.tmp 55) 32 9 (.string ⟨#[]⟩) 16 rfl Try.underlying32 info9 rfl (by decide) (by omega) v223 y222 l2 _ _ _ (fun _ => True) (fun _ => False) rfl rfl ?aO ?aR (fun _ _ h => h) (fun _ h => h.elim) ?aF (Below.refl _ _) ?aS ?aL ?_; (case aR => exact Kd.C_keep (⟨#[]⟩ : ByteArray) HR2.out (kb HK.out) hf2); (case aF => exact (fun _ _ => trivial)); (case aO => exact (rx HO224.out)); (case aS => exact (keep_size (w := w) (g := g) (row := none) (kb HK.out))); (case aL => have := LMc52.out; omega); intro v226 w75 ho hb hg hat; rw [← Ny225.out] at ho; have n0_ := Aside0.mk (blk_grown (g := gb199) (o := .cells #[.string (⟨#[]⟩ : ByteArray), .int .i64 0, .string (⟨#[]⟩ : ByteArray), .string (⟨#[]⟩ : ByteArray), .int .i64 0, .int .i64 0, .string (⟨#[]⟩ : ByteArray), .string (⟨#[]⟩ : ByteArray)] 39 (0, 0)) (bx BK199.out) hg (Kd.R_ne HO224.out BK199.out (by decide))); have n1_ := Aside0.mk (blk_grown (g := gb206) (o := .cells #[.string a1, .int .i64 (wrap64 (1 + t200)), .string t202, .string x207003_6, .int .i64 x207004_6, .int .i64 (wrap64 (1 + t204)), .string (⟨#[]⟩ : ByteArray), .string (⟨#[]⟩ : ByteArray)] 39 (0, 0)) (bx BK206.out) hg (Kd.R_ne HO224.out BK206.out (by decide))); have n2_ := Aside0.mk (IsS107.grown (ib HI0.out) hg (IsS107.own_ne HI0.out HO224.out (by decide))); have n3_ := Aside0.mk (below_weaken (bi HB.out) HL.out hb); have n4_ := Aside0.mk (KeepBut.trans (kb HK.out) (KeepBut.of_grown hg g) (Kd.R_base2 HO224.out)); have n5_ := Aside0.mk (ho); clear BK199; clear BK206; clear HI0; clear HB; clear HK; clear HO224; have BK199 := n0_; have BK206 := n1_; have HI0 := n2_; have HB := n3_; have HK := n4_; have HO227 := n5_; clear n0_ n1_ n2_ n3_ n4_ n5_; clear ho hb hg hat; obtain ⟨Ao76, co76, eo76⟩ := Kd.R_slice HO227.out; subst eo76) | ((with_reducible refine gate_callee (f := 80) rfl ?_); refine goesL_ (some 59) rfl rfl Try.func80 (by kernel_rfl) rfl #[.pointer (some ⟨g, 0, none⟩), .slice Ao76 y225.length co76] rfl mxp ?_; (with_reducible refine (spec_l1Rd_of.calls kj6 g s0_0 x1001_6 _ _ y225 t228 t229 w0 _ ?side1 ?side2 ?side3 ?side4 ?side5 A53.out).mono ?_); (case side1 => exact ib HI0.out); (case side2 => exact bi HB.out); (case side3 => exact cx (Kd.R_reads' HO227.out).2.2); (case side4 => exact (Kd.R_reads' HO227.out).2.1); (case side5 => exact far_slice (IsS107.own_ne HI0.out HO227.out (by decide))); rintro e w77 ⟨rfl, hi, hb, hk⟩; refine ⟨_, rfl, ?_⟩; have n0_ := kp BK199 hk NB199_0; have n1_ := kp BK206 hk NB206_0; have n2_ := Aside0.mk (Kd.R_mono (Kd.R_keep (IsS107.apart (show IsS107 w0 _ g s0_0 x1001_6 from ib HI0.out) (rx HO227.out) (by decide)) hk (fun _ h => h.2)) (fun _ h => h.1)); have n3_ := kt HK hk; have n4_ := Aside0.mk (hb); have n5_ := Aside0.mk (hi); clear BK199; clear BK206; clear HO227; clear HK; clear HB; clear HI0; have BK199 := n0_; have BK206 := n1_; have HO227 := n2_; have HK := n3_; have HB := n4_; have HI0 := n5_; clear n0_ n1_ n2_ n3_ n4_ n5_; (try clear hb); (try clear hb2); (try clear hk); (try clear hi); have hnb78 := NB206_199.out; have hnc78 := NB199_206.out; have hnb79 := NB206_0.out; have hnc79 := NB0_206.out; have hcz80_0 := b0 BK206; have hcz80_1 := b1 BK206; have hcz80_2 := b2 BK206; have hcz80_3 := b3 BK206; have hcz80_4 := b4 BK206; have hcz80_5 := b5 BK206; have hcz80_6 := b6 BK206; have hcz80_7 := b7 BK206; have hfz80_0 := fz BK206 0; have hfz80_1 := fz BK206 1; have hfz80_2 := fz BK206 2; have hfz80_3 := fz BK206 3; have hfz80_4 := fz BK206 4; have hfz80_5 := fz BK206 5; have hfz80_6 := fz BK206 6; have hfz80_7 := fz BK206 7) | ((with_reducible refine gate_callee (f := 80) rfl ?_); refine goesL_ (some 63) rfl rfl Try.func80 (by kernel_rfl) rfl #[.pointer (some ⟨g, 0, none⟩), .slice Ao76 y225.length co76] rfl mxp ?_; (with_reducible refine (spec_l1Rd_of.calls kj6 g s0_0 t229 _ _ y225 t230 t231 w0 _ ?side1 ?side2 ?side3 ?side4 ?side5 A54.out).mono ?_); (case side1 => exact ib HI0.out); (case side2 => exact bi HB.out); (case side3 => refine (Kd.R_reads' (e := 9) (base := w.heap.size) (ok := fun k_ => True) (n := y225.length) (c := co76) ?_).2.2; exact (by refine rx ?_; exact (Kd.R_mono (Kd.R_far (p := ⟨gb206, 6, none⟩) (Kd.R_types HO227.out BK206.out (by decide)) (fun _ hk => hk.2) (.string t228)) (fun _ h_ => h_.1)))); (case side4 => exact (Kd.R_reads' HO227.out).2.1); (case side5 => exact far_slice (IsS107.own_ne HI0.out HO227.out (by decide))); rintro e w81 ⟨rfl, hi, hb, hk⟩; refine ⟨_, rfl, ?_⟩; have n0_ := Aside0.mk (KeepBut.blk hk (g' := gb199) (o := .cells #[.string (⟨#[]⟩ : ByteArray), .int .i64 0, .string (⟨#[]⟩ : ByteArray), .string (⟨#[]⟩ : ByteArray), .int .i64 0, .int .i64 0, .string (⟨#[]⟩ : ByteArray), .string (⟨#[]⟩ : ByteArray)] 39 (0, 0)) (by refine bx ?_; refine blk_far ?_ NB199_206.out _; refine bx ?_; exact BK199.out) NB199_0.out (by simp)); have n1_ := Aside0.mk (KeepBut.blk hk (g' := gb206) (o := .cells #[.string a1, .int .i64 (wrap64 (1 + t200)), .string t202, .string x207003_6, .int .i64 x207004_6, .int .i64 (wrap64 (1 + t204)), .string t228, .string (⟨#[]⟩ : ByteArray)] 39 (0, 0)) (by refine bx ?_; refine blk_put (cs := #[.string a1, .int .i64 (wrap64 (1 + t200)), .string t202, .string x207003_6, .int .i64 x207004_6, .int .i64 (wrap64 (1 + t204)), .string (⟨#[]⟩ : ByteArray), .string (⟨#[]⟩ : ByteArray)]) ?_ 6 _ rfl; refine bx ?_; exact BK206.out) NB206_0.out (by simp)); have n2_ := Aside0.mk (Kd.R_mono (Kd.R_keep (IsS107.apart (show IsS107 w0 _ g s0_0 t229 from ib HI0.out) (by refine rx ?_; exact (Kd.R_mono (Kd.R_far (p := ⟨gb206, 6, none⟩) (Kd.R_types HO227.out BK206.out (by decide)) (fun _ hk => hk.2) (.string t228)) (fun _ h_ => h_.1))) (by decide)) hk (fun _ h => h.2)) (fun _ h => h.1)); have n3_ := kt HK hk; have n4_ := Aside0.mk (hb); have n5_ := Aside0.mk (hi); clear BK199; clear BK206; clear HO227; clear HK; clear HB; clear HI0; have BK199 := n0_; have BK206 := n1_; have HO227 := n2_; have HK := n3_; have HB := n4_; have HI0 := n5_; clear n0_ n1_ n2_ n3_ n4_ n5_; (try clear hb); (try clear hb2); (try clear hk); (try clear hi); have hcz82_0 := b0 BK206; have hcz82_1 := b1 BK206; have hcz82_2 := b2 BK206; have hcz82_3 := b3 BK206; have hcz82_4 := b4 BK206; have hcz82_5 := b5 BK206; have hcz82_6 := b6 BK206; have hcz82_7 := b7 BK206; have hfz82_0 := fz BK206 0; have hfz82_1 := fz BK206 1; have hfz82_2 := fz BK206 2; have hfz82_3 := fz BK206 3; have hfz82_4 := fz BK206 4; have hfz82_5 := fz BK206 5; have hfz82_6 := fz BK206 6; have hfz82_7 := fz BK206 7) | (go_at_call 64; (with_reducible refine (spec_l1Rd_pick.calls kj6 g s0_0 t231 4 t232 t233 w0 _ ?side1 ?side2 A56.out).mono ?_); (case side1 => exact ib HI0.out); (case side2 => exact bi HB.out); rintro e w83 ⟨rfl, hi, hb, hk⟩; have n0_ := Aside0.mk (KeepBut.blk hk (g' := gb199) (o := .cells #[.string (⟨#[]⟩ : ByteArray), .int .i64 0, .string (⟨#[]⟩ : ByteArray), .string (⟨#[]⟩ : ByteArray), .int .i64 0, .int .i64 0, .string (⟨#[]⟩ : ByteArray), .string (⟨#[]⟩ : ByteArray)] 39 (0, 0)) (by refine bx ?_; refine blk_far ?_ NB199_206.out _; refine bx ?_; exact BK199.out) NB199_0.out (by simp)); have n1_ := Aside0.mk (KeepBut.blk hk (g' := gb206) (o := .cells #[.string a1, .int .i64 (wrap64 (1 + t200)), .string t202, .string x207003_6, .int .i64 x207004_6, .int .i64 (wrap64 (1 + t204)), .string t228, .string t230] 39 (0, 0)) (by refine bx ?_; refine blk_put (cs := #[.string a1, .int .i64 (wrap64 (1 + t200)), .string t202, .string x207003_6, .int .i64 x207004_6, .int .i64 (wrap64 (1 + t204)), .string t228, .string (⟨#[]⟩ : ByteArray)]) ?_ 7 _ rfl; refine bx ?_; exact BK206.out) NB206_0.out (by simp)); have n2_ := Aside0.mk (Kd.R_mono (Kd.R_keep (IsS107.apart (show IsS107 w0 _ g s0_0 t231 from ib HI0.out) (by refine rx ?_; exact (Kd.R_mono (Kd.R_far (p := ⟨gb206, 7, none⟩) (Kd.R_types HO227.out BK206.out (by decide)) (fun _ hk => hk.2) (.string t230)) (fun _ h_ => h_.1))) (by decide)) hk (fun _ h => h.2)) (fun _ h => h.1)); have n3_ := kt HK hk; have n4_ := Aside0.mk (hb); have n5_ := Aside0.mk (hi); clear BK199; clear BK206; clear HO227; clear HK; clear HB; clear HI0; have BK199 := n0_; have BK206 := n1_; have HO227 := n2_; have HK := n3_; have HB := n4_; have HI0 := n5_; clear n0_ n1_ n2_ n3_ n4_ n5_; (try clear hb); (try clear hb2); (try clear hk); (try clear hi); have hcz84_0 := b0 BK206; have hcz84_1 := b1 BK206; have hcz84_2 := b2 BK206; have hcz84_3 := b3 BK206; have hcz84_4 := b4 BK206; have hcz84_5 := b5 BK206; have hcz84_6 := b6 BK206; have hcz84_7 := b7 BK206; have hfz84_0 := fz BK206 0; have hfz84_1 := fz BK206 1; have hfz84_2 := fz BK206 2; have hfz84_3 := fz BK206 3; have hfz84_4 := fz BK206 4; have hfz84_5 := fz BK206 5; have hfz84_6 := fz BK206 6; have hfz84_7 := fz BK206 7; have hnb85 := NB199_0.out; have hnc85 := NB0_199.out; have hcz86_0 := b0 BK199; have hcz86_1 := b1 BK199; have hcz86_2 := b2 BK199; have hcz86_3 := b3 BK199; have hcz86_4 := b4 BK199; have hcz86_5 := b5 BK199; have hcz86_6 := b6 BK199; have hcz86_7 := b7 BK199; have hfz86_0 := fz BK199 0; have hfz86_1 := fz BK199 1; have hfz86_2 := fz BK199 2; have hfz86_3 := fz BK199 3; have hfz86_4 := fz BK199 4; have hfz86_5 := fz BK199 5; have hfz86_6 := fz BK199 6; have hfz86_7 := fz BK199 7))
      refine bodyPost_ret (results_cell_row rfl _ _ gb199 39 #[.string a1, .int .i64 (wrap64 (1 + t200)), .string t202, .string x207003_6, .int .i64 x207004_6, .int .i64 (wrap64 (1 + t204)), .string t228, .string t230] (0, 0) _ rfl (by refine bx ?_; refine blk_put (cs := #[.string a1, .int .i64 (wrap64 (1 + t200)), .string t202, .string x207003_6, .int .i64 x207004_6, .int .i64 (wrap64 (1 + t204)), .string t228, .string (⟨#[]⟩ : ByteArray)]) ?_ 7 _ rfl; refine bx ?_; refine blk_put (cs := #[.string a1, .int .i64 (wrap64 (1 + t200)), .string t202, .string x207003_6, .int .i64 x207004_6, .int .i64 (wrap64 (1 + t204)), .string (⟨#[]⟩ : ByteArray), .string (⟨#[]⟩ : ByteArray)]) ?_ 6 _ rfl; refine bx ?_; refine blk_put (cs := #[.string a1, .int .i64 (wrap64 (1 + t200)), .string t202, .string x207003_6, .int .i64 x207004_6, .int .i64 0, .string (⟨#[]⟩ : ByteArray), .string (⟨#[]⟩ : ByteArray)]) ?_ 5 _ rfl; refine bx ?_; refine blk_put (cs := #[.string a1, .int .i64 (wrap64 (1 + t200)), .string t202, .string x207003_6, .int .i64 0, .int .i64 0, .string (⟨#[]⟩ : ByteArray), .string (⟨#[]⟩ : ByteArray)]) ?_ 4 _ rfl; refine bx ?_; refine blk_put (cs := #[.string a1, .int .i64 (wrap64 (1 + t200)), .string t202, .string (⟨#[]⟩ : ByteArray), .int .i64 0, .int .i64 0, .string (⟨#[]⟩ : ByteArray), .string (⟨#[]⟩ : ByteArray)]) ?_ 3 _ rfl; refine bx ?_; refine blk_put (cs := #[.string a1, .int .i64 (wrap64 (1 + t200)), .string (⟨#[]⟩ : ByteArray), .string (⟨#[]⟩ : ByteArray), .int .i64 0, .int .i64 0, .string (⟨#[]⟩ : ByteArray), .string (⟨#[]⟩ : ByteArray)]) ?_ 2 _ rfl; refine bx ?_; refine blk_put (cs := #[.string a1, .int .i64 0, .string (⟨#[]⟩ : ByteArray), .string (⟨#[]⟩ : ByteArray), .int .i64 0, .int .i64 0, .string (⟨#[]⟩ : ByteArray), .string (⟨#[]⟩ : ByteArray)]) ?_ 1 _ rfl; refine bx ?_; refine blk_put (cs := #[.string (⟨#[]⟩ : ByteArray), .int .i64 0, .string (⟨#[]⟩ : ByteArray), .string (⟨#[]⟩ : ByteArray), .int .i64 0, .int .i64 0, .string (⟨#[]⟩ : ByteArray), .string (⟨#[]⟩ : ByteArray)]) ?_ 0 _ rfl; refine bx ?_; exact BK199.out) Try.underlying39 rfl (by kernel_rfl)) rfl ?_
      exact ⟨exq, ib HI0.out, bi HB.out, kb HK.out⟩
    ·rw [if_neg c55] at H
     have c55b0 : decide (0 < (l2.length : Int)) = false := decide_eq_false c55
     have c55b1 : decide (0 < l2.length) = false := decide_eq_false (by omega)
     clear c55
     simp only [Option.some.injEq, Prod.mk.injEq] at H
     obtain ⟨rfl, rfl, rfl, rfl, rfl, rfl, rfl, rfl, rfl⟩ := H
     go_wp2_with (first | ((with_reducible refine gate_dst (N := 54) rfl ?_); refine Kd.R_lit Kd.string _ 9 ?hg (N := 54) ?hd (xs := ([(⟨#[103, 111, 111, 100]⟩ : ByteArray), (⟨#[115, 97, 118, 101, 100]⟩ : ByteArray), (⟨#[115, 99, 114, 97, 112, 112, 101, 100]⟩ : ByteArray)] : List ByteArray)) (inner := [.string (⟨#[103, 111, 111, 100]⟩ : ByteArray), .string (⟨#[115, 97, 118, 101, 100]⟩ : ByteArray), .string (⟨#[115, 99, 114, 97, 112, 112, 101, 100]⟩ : ByteArray)]) (ok := fun _ => True) (okp := fun _ => True) ?hr ?hp (fun _ hk => hk) trivial (Below.refl _ _) (Nat.le_refl _) (by simp) ?_; (case hd => rfl); (case hg => rfl); (case hr => first | (go_simp; done) | (go_simp; rfl)); (case hp => exact (Reps.one (show Kd.M Kd.string _ _ _ (⟨#[103, 111, 111, 100]⟩ : ByteArray) [.string (⟨#[103, 111, 111, 100]⟩ : ByteArray)] from rfl) (Reps.one (show Kd.M Kd.string _ _ _ (⟨#[115, 97, 118, 101, 100]⟩ : ByteArray) [.string (⟨#[115, 97, 118, 101, 100]⟩ : ByteArray)] from rfl) (Reps.one (show Kd.M Kd.string _ _ _ (⟨#[115, 99, 114, 97, 112, 112, 101, 100]⟩ : ByteArray) [.string (⟨#[115, 99, 114, 97, 112, 112, 101, 100]⟩ : ByteArray)] from rfl) (Reps.none _ _))))); intro v223 w87 ho88 hb hg_ hnew_; clear hg_ hnew_; (first | rw [← Ny222.out] at ho88 | (simp only [Int.reduceToNat] at ho88; rw [← Ny222.out] at ho88)); have n0_ := Aside0.mk (Kd.R_lower ho88 (keep_size (w := w) (g := g) (row := none) (kb HK.out))); have n1_ := up BK199 hb; have n2_ := up BK206 hb; have n3_ := Aside0.mk (IsS107.below (ib HI0.out) hb); have n4_ := kt HK (KeepBut.of_below hb g none); have n5_ := bsi HB hb; clear BK199; clear BK206; clear HI0; clear HK; clear HB; have HO224 := n0_; have BK199 := n1_; have BK206 := n2_; have HI0 := n3_; have HK := n4_; have HB := n5_; clear n0_ n1_ n2_ n3_ n4_ n5_; clear hb ho88) | ((with_reducible refine gate_builtin (b := .append) (xs := #[.tmp 54, .tmp 55]) rfl ?_); at_builtin; refine Kd.R_append_rows Kd.string w.heap.size rfl (.tmp 54) (.tmp 55) 32 9 (.string ⟨#[]⟩) 16 rfl Try.underlying32 info9 rfl (by decide) (by omega) v223 y222 l2 _ _ _ (fun _ => True) (fun _ => False) rfl rfl ?aO ?aR (fun _ _ h => h) (fun _ h => h.elim) ?aF (Below.refl _ _) ?aS ?aL ?_; (case aR => exact Kd.C_keep (⟨#[]⟩ : ByteArray) HR2.out (kb HK.out) hf2); (case aF => exact (fun _ _ => trivial)); (case aO => exact (rx HO224.out)); (case aS => exact (keep_size (w := w) (g := g) (row := none) (kb HK.out))); (case aL => have := LMc52.out; omega); intro v226 w89 ho hb hg hat; rw [← Ny225.out] at ho; have n0_ := Aside0.mk (blk_grown (g := gb199) (o := .cells #[.string (⟨#[]⟩ : ByteArray), .int .i64 0, .string (⟨#[]⟩ : ByteArray), .string (⟨#[]⟩ : ByteArray), .int .i64 0, .int .i64 0, .string (⟨#[]⟩ : ByteArray), .string (⟨#[]⟩ : ByteArray)] 39 (0, 0)) (bx BK199.out) hg (Kd.R_ne HO224.out BK199.out (by decide))); have n1_ := Aside0.mk (blk_grown (g := gb206) (o := .cells #[.string a1, .int .i64 (wrap64 (1 + t200)), .string t202, .string x207003_6, .int .i64 x207004_6, .int .i64 (wrap64 (1 + t204)), .string (⟨#[]⟩ : ByteArray), .string (⟨#[]⟩ : ByteArray)] 39 (0, 0)) (bx BK206.out) hg (Kd.R_ne HO224.out BK206.out (by decide))); have n2_ := Aside0.mk (IsS107.grown (ib HI0.out) hg (IsS107.own_ne HI0.out HO224.out (by decide))); have n3_ := Aside0.mk (below_weaken (bi HB.out) HL.out hb); have n4_ := Aside0.mk (KeepBut.trans (kb HK.out) (KeepBut.of_grown hg g) (Kd.R_base2 HO224.out)); have n5_ := Aside0.mk (ho); clear BK199; clear BK206; clear HI0; clear HB; clear HK; clear HO224; have BK199 := n0_; have BK206 := n1_; have HI0 := n2_; have HB := n3_; have HK := n4_; have HO227 := n5_; clear n0_ n1_ n2_ n3_ n4_ n5_; clear ho hb hg hat; obtain ⟨Ao90, co90, eo90⟩ := Kd.R_slice HO227.out; subst eo90) | ((with_reducible refine gate_callee (f := 80) rfl ?_); refine goesL_ (some 59) rfl rfl Try.func80 (by kernel_rfl) rfl #[.pointer (some ⟨g, 0, none⟩), .slice Ao90 y225.length co90] rfl mxp ?_; (with_reducible refine (spec_l1Rd_of.calls kj6 g s0_0 x1001_6 _ _ y225 t228 t229 w0 _ ?side1 ?side2 ?side3 ?side4 ?side5 A53.out).mono ?_); (case side1 => exact ib HI0.out); (case side2 => exact bi HB.out); (case side3 => exact cx (Kd.R_reads' HO227.out).2.2); (case side4 => exact (Kd.R_reads' HO227.out).2.1); (case side5 => exact far_slice (IsS107.own_ne HI0.out HO227.out (by decide))); rintro e w91 ⟨rfl, hi, hb, hk⟩; refine ⟨_, rfl, ?_⟩; have n0_ := kp BK199 hk NB199_0; have n1_ := kp BK206 hk NB206_0; have n2_ := Aside0.mk (Kd.R_mono (Kd.R_keep (IsS107.apart (show IsS107 w0 _ g s0_0 x1001_6 from ib HI0.out) (rx HO227.out) (by decide)) hk (fun _ h => h.2)) (fun _ h => h.1)); have n3_ := kt HK hk; have n4_ := Aside0.mk (hb); have n5_ := Aside0.mk (hi); clear BK199; clear BK206; clear HO227; clear HK; clear HB; clear HI0; have BK199 := n0_; have BK206 := n1_; have HO227 := n2_; have HK := n3_; have HB := n4_; have HI0 := n5_; clear n0_ n1_ n2_ n3_ n4_ n5_; (try clear hb); (try clear hb2); (try clear hk); (try clear hi); have hnb92 := NB206_199.out; have hnc92 := NB199_206.out; have hnb93 := NB206_0.out; have hnc93 := NB0_206.out; have hcz94_0 := b0 BK206; have hcz94_1 := b1 BK206; have hcz94_2 := b2 BK206; have hcz94_3 := b3 BK206; have hcz94_4 := b4 BK206; have hcz94_5 := b5 BK206; have hcz94_6 := b6 BK206; have hcz94_7 := b7 BK206; have hfz94_0 := fz BK206 0; have hfz94_1 := fz BK206 1; have hfz94_2 := fz BK206 2; have hfz94_3 := fz BK206 3; have hfz94_4 := fz BK206 4; have hfz94_5 := fz BK206 5; have hfz94_6 := fz BK206 6; have hfz94_7 := fz BK206 7) | ((with_reducible refine gate_callee (f := 80) rfl ?_); refine goesL_ (some 63) rfl rfl Try.func80 (by kernel_rfl) rfl #[.pointer (some ⟨g, 0, none⟩), .slice Ao90 y225.length co90] rfl mxp ?_; (with_reducible refine (spec_l1Rd_of.calls kj6 g s0_0 t229 _ _ y225 t230 t231 w0 _ ?side1 ?side2 ?side3 ?side4 ?side5 A54.out).mono ?_); (case side1 => exact ib HI0.out); (case side2 => exact bi HB.out); (case side3 => refine (Kd.R_reads' (e := 9) (base := w.heap.size) (ok := fun k_ => True) (n := y225.length) (c := co90) ?_).2.2; exact (by refine rx ?_; exact (Kd.R_mono (Kd.R_far (p := ⟨gb206, 6, none⟩) (Kd.R_types HO227.out BK206.out (by decide)) (fun _ hk => hk.2) (.string t228)) (fun _ h_ => h_.1)))); (case side4 => exact (Kd.R_reads' HO227.out).2.1); (case side5 => exact far_slice (IsS107.own_ne HI0.out HO227.out (by decide))); rintro e w95 ⟨rfl, hi, hb, hk⟩; refine ⟨_, rfl, ?_⟩; have n0_ := Aside0.mk (KeepBut.blk hk (g' := gb199) (o := .cells #[.string (⟨#[]⟩ : ByteArray), .int .i64 0, .string (⟨#[]⟩ : ByteArray), .string (⟨#[]⟩ : ByteArray), .int .i64 0, .int .i64 0, .string (⟨#[]⟩ : ByteArray), .string (⟨#[]⟩ : ByteArray)] 39 (0, 0)) (by refine bx ?_; refine blk_far ?_ NB199_206.out _; refine bx ?_; exact BK199.out) NB199_0.out (by simp)); have n1_ := Aside0.mk (KeepBut.blk hk (g' := gb206) (o := .cells #[.string a1, .int .i64 (wrap64 (1 + t200)), .string t202, .string x207003_6, .int .i64 x207004_6, .int .i64 (wrap64 (1 + t204)), .string t228, .string (⟨#[]⟩ : ByteArray)] 39 (0, 0)) (by refine bx ?_; refine blk_put (cs := #[.string a1, .int .i64 (wrap64 (1 + t200)), .string t202, .string x207003_6, .int .i64 x207004_6, .int .i64 (wrap64 (1 + t204)), .string (⟨#[]⟩ : ByteArray), .string (⟨#[]⟩ : ByteArray)]) ?_ 6 _ rfl; refine bx ?_; exact BK206.out) NB206_0.out (by simp)); have n2_ := Aside0.mk (Kd.R_mono (Kd.R_keep (IsS107.apart (show IsS107 w0 _ g s0_0 t229 from ib HI0.out) (by refine rx ?_; exact (Kd.R_mono (Kd.R_far (p := ⟨gb206, 6, none⟩) (Kd.R_types HO227.out BK206.out (by decide)) (fun _ hk => hk.2) (.string t228)) (fun _ h_ => h_.1))) (by decide)) hk (fun _ h => h.2)) (fun _ h => h.1)); have n3_ := kt HK hk; have n4_ := Aside0.mk (hb); have n5_ := Aside0.mk (hi); clear BK199; clear BK206; clear HO227; clear HK; clear HB; clear HI0; have BK199 := n0_; have BK206 := n1_; have HO227 := n2_; have HK := n3_; have HB := n4_; have HI0 := n5_; clear n0_ n1_ n2_ n3_ n4_ n5_; (try clear hb); (try clear hb2); (try clear hk); (try clear hi); have hcz96_0 := b0 BK206; have hcz96_1 := b1 BK206; have hcz96_2 := b2 BK206; have hcz96_3 := b3 BK206; have hcz96_4 := b4 BK206; have hcz96_5 := b5 BK206; have hcz96_6 := b6 BK206; have hcz96_7 := b7 BK206; have hfz96_0 := fz BK206 0; have hfz96_1 := fz BK206 1; have hfz96_2 := fz BK206 2; have hfz96_3 := fz BK206 3; have hfz96_4 := fz BK206 4; have hfz96_5 := fz BK206 5; have hfz96_6 := fz BK206 6; have hfz96_7 := fz BK206 7; have hnb97 := NB199_0.out; have hnc97 := NB0_199.out; have hcz98_0 := b0 BK199; have hcz98_1 := b1 BK199; have hcz98_2 := b2 BK199; have hcz98_3 := b3 BK199; have hcz98_4 := b4 BK199; have hcz98_5 := b5 BK199; have hcz98_6 := b6 BK199; have hcz98_7 := b7 BK199; have hfz98_0 := fz BK199 0; have hfz98_1 := fz BK199 1; have hfz98_2 := fz BK199 2; have hfz98_3 := fz BK199 3; have hfz98_4 := fz BK199 4; have hfz98_5 := fz BK199 5; have hfz98_6 := fz BK199 6; have hfz98_7 := fz BK199 7))
     refine bodyPost_ret (results_cell_row rfl _ _ gb199 39 #[.string a1, .int .i64 (wrap64 (1 + t200)), .string t202, .string x207003_6, .int .i64 x207004_6, .int .i64 (wrap64 (1 + t204)), .string t228, .string t230] (0, 0) _ rfl (by refine bx ?_; refine blk_put (cs := #[.string a1, .int .i64 (wrap64 (1 + t200)), .string t202, .string x207003_6, .int .i64 x207004_6, .int .i64 (wrap64 (1 + t204)), .string t228, .string (⟨#[]⟩ : ByteArray)]) ?_ 7 _ rfl; refine bx ?_; refine blk_put (cs := #[.string a1, .int .i64 (wrap64 (1 + t200)), .string t202, .string x207003_6, .int .i64 x207004_6, .int .i64 (wrap64 (1 + t204)), .string (⟨#[]⟩ : ByteArray), .string (⟨#[]⟩ : ByteArray)]) ?_ 6 _ rfl; refine bx ?_; refine blk_put (cs := #[.string a1, .int .i64 (wrap64 (1 + t200)), .string t202, .string x207003_6, .int .i64 x207004_6, .int .i64 0, .string (⟨#[]⟩ : ByteArray), .string (⟨#[]⟩ : ByteArray)]) ?_ 5 _ rfl; refine bx ?_; refine blk_put (cs := #[.string a1, .int .i64 (wrap64 (1 + t200)), .string t202, .string x207003_6, .int .i64 0, .int .i64 0, .string (⟨#[]⟩ : ByteArray), .string (⟨#[]⟩ : ByteArray)]) ?_ 4 _ rfl; refine bx ?_; refine blk_put (cs := #[.string a1, .int .i64 (wrap64 (1 + t200)), .string t202, .string (⟨#[]⟩ : ByteArray), .int .i64 0, .int .i64 0, .string (⟨#[]⟩ : ByteArray), .string (⟨#[]⟩ : ByteArray)]) ?_ 3 _ rfl; refine bx ?_; refine blk_put (cs := #[.string a1, .int .i64 (wrap64 (1 + t200)), .string (⟨#[]⟩ : ByteArray), .string (⟨#[]⟩ : ByteArray), .int .i64 0, .int .i64 0, .string (⟨#[]⟩ : ByteArray), .string (⟨#[]⟩ : ByteArray)]) ?_ 2 _ rfl; refine bx ?_; refine blk_put (cs := #[.string a1, .int .i64 0, .string (⟨#[]⟩ : ByteArray), .string (⟨#[]⟩ : ByteArray), .int .i64 0, .int .i64 0, .string (⟨#[]⟩ : ByteArray), .string (⟨#[]⟩ : ByteArray)]) ?_ 1 _ rfl; refine bx ?_; refine blk_put (cs := #[.string (⟨#[]⟩ : ByteArray), .int .i64 0, .string (⟨#[]⟩ : ByteArray), .string (⟨#[]⟩ : ByteArray), .int .i64 0, .int .i64 0, .string (⟨#[]⟩ : ByteArray), .string (⟨#[]⟩ : ByteArray)]) ?_ 0 _ rfl; refine bx ?_; refine blk_far ?_ NB199_206.out _; refine bx ?_; exact BK199.out) Try.underlying39 rfl (by kernel_rfl)) rfl ?_
     exact ⟨exq, ib HI0.out, bi HB.out, kb HK.out⟩
   ·rw [if_neg c52] at H
    exact absurd H (by simp)


/-! ### spec_l5Names: function 81 -/
def spec_l5Names.f  : Option (List ByteArray) := some (([(⟨#[98, 114, 101, 119]⟩ : ByteArray), (⟨#[102, 49]⟩ : ByteArray), (⟨#[102, 50]⟩ : ByteArray), (⟨#[103]⟩ : ByteArray), (⟨#[104]⟩ : ByteArray), (⟨#[109, 97, 115, 104]⟩ : ByteArray), (⟨#[114, 101, 115, 116]⟩ : ByteArray), (⟨#[120, 45, 57]⟩ : ByteArray)] : List ByteArray))
set_option maxHeartbeats 8000000 in
set_option maxRecDepth 100000 in
theorem spec_l5Names.calls  (r : List ByteArray) (w : World) (h : spec_l5Names.f  = some r) :
  Calls Try.prog 81 #[] w fun e w' => ∃ v0_ : Value, e = .returned (v0_) ∧ Kd.R Kd.string 9 w' w.heap.size (fun _ => True) v0_ r ∧ Below w.heap.size w w' := by
 have HB := Aside0.mk (Below.refl w.heap.size w)
 have H : (some (([(⟨#[98, 114, 101, 119]⟩ : ByteArray), (⟨#[102, 49]⟩ : ByteArray), (⟨#[102, 50]⟩ : ByteArray), (⟨#[103]⟩ : ByteArray), (⟨#[104]⟩ : ByteArray), (⟨#[109, 97, 115, 104]⟩ : ByteArray), (⟨#[114, 101, 115, 116]⟩ : ByteArray), (⟨#[120, 45, 57]⟩ : ByteArray)] : List ByteArray))) = some r := h
 clear h
 obtain ⟨y235, hy235⟩ : ∃ y_ : List ByteArray, y_ = (([(⟨#[98, 114, 101, 119]⟩ : ByteArray), (⟨#[102, 49]⟩ : ByteArray), (⟨#[102, 50]⟩ : ByteArray), (⟨#[103]⟩ : ByteArray), (⟨#[104]⟩ : ByteArray), (⟨#[109, 97, 115, 104]⟩ : ByteArray), (⟨#[114, 101, 115, 116]⟩ : ByteArray), (⟨#[120, 45, 57]⟩ : ByteArray)] : List ByteArray)) := ⟨_, rfl⟩
 replace H : (some y235) = some r := by first | (rw [hy235]; with_reducible exact H) | (have H2_ := (Option.bind_some _ _).symm.trans H; rw [hy235]; with_reducible exact H2_) | (have H2_ := (Option.bind_some _ _).symm.trans H; with_reducible exact H2_) | with_reducible exact H | (rw [hy235]; exact H) | exact H
 have Ny235 := Aside0.mk hy235
 clear hy235
 obtain rfl := Option.some.inj H
 go_enter Try.func81, Try.ntmps81
 go_wp2_with (first | ((with_reducible refine gate_dst (N := 1) rfl ?_); refine Kd.R_lit Kd.string _ 9 ?hg (N := 1) ?hd (xs := ([(⟨#[98, 114, 101, 119]⟩ : ByteArray), (⟨#[102, 49]⟩ : ByteArray), (⟨#[102, 50]⟩ : ByteArray), (⟨#[103]⟩ : ByteArray), (⟨#[104]⟩ : ByteArray), (⟨#[109, 97, 115, 104]⟩ : ByteArray), (⟨#[114, 101, 115, 116]⟩ : ByteArray), (⟨#[120, 45, 57]⟩ : ByteArray)] : List ByteArray)) (inner := [.string (⟨#[98, 114, 101, 119]⟩ : ByteArray), .string (⟨#[102, 49]⟩ : ByteArray), .string (⟨#[102, 50]⟩ : ByteArray), .string (⟨#[103]⟩ : ByteArray), .string (⟨#[104]⟩ : ByteArray), .string (⟨#[109, 97, 115, 104]⟩ : ByteArray), .string (⟨#[114, 101, 115, 116]⟩ : ByteArray), .string (⟨#[120, 45, 57]⟩ : ByteArray)]) (ok := fun _ => True) (okp := fun _ => True) ?hr ?hp (fun _ hk => hk) trivial (Below.refl _ _) (Nat.le_refl _) (by simp) ?_; (case hd => rfl); (case hg => rfl); (case hr => first | (go_simp; done) | (go_simp; rfl)); (case hp => exact (Reps.one (show Kd.M Kd.string _ _ _ (⟨#[98, 114, 101, 119]⟩ : ByteArray) [.string (⟨#[98, 114, 101, 119]⟩ : ByteArray)] from rfl) (Reps.one (show Kd.M Kd.string _ _ _ (⟨#[102, 49]⟩ : ByteArray) [.string (⟨#[102, 49]⟩ : ByteArray)] from rfl) (Reps.one (show Kd.M Kd.string _ _ _ (⟨#[102, 50]⟩ : ByteArray) [.string (⟨#[102, 50]⟩ : ByteArray)] from rfl) (Reps.one (show Kd.M Kd.string _ _ _ (⟨#[103]⟩ : ByteArray) [.string (⟨#[103]⟩ : ByteArray)] from rfl) (Reps.one (show Kd.M Kd.string _ _ _ (⟨#[104]⟩ : ByteArray) [.string (⟨#[104]⟩ : ByteArray)] from rfl) (Reps.one (show Kd.M Kd.string _ _ _ (⟨#[109, 97, 115, 104]⟩ : ByteArray) [.string (⟨#[109, 97, 115, 104]⟩ : ByteArray)] from rfl) (Reps.one (show Kd.M Kd.string _ _ _ (⟨#[114, 101, 115, 116]⟩ : ByteArray) [.string (⟨#[114, 101, 115, 116]⟩ : ByteArray)] from rfl) (Reps.one (show Kd.M Kd.string _ _ _ (⟨#[120, 45, 57]⟩ : ByteArray) [.string (⟨#[120, 45, 57]⟩ : ByteArray)] from rfl) (Reps.none _ _)))))))))); intro v236 w1 ho2 hb hg_ hnew_; clear hg_ hnew_; (first | rw [← Ny235.out] at ho2 | (simp only [Int.reduceToNat] at ho2; rw [← Ny235.out] at ho2)); have n0_ := Aside0.mk (Kd.R_lower ho2 (below_size (bw HB.out))); have n1_ := bs HB hb; clear HB; have HO237 := n0_; have HB := n1_; clear n0_ n1_; clear hb ho2))
 go_ret
 exact ⟨_, exq, by refine rx ?_; exact HO237.out, bw HB.out⟩


/-! ### spec_l3Dec: function 102 -/
def spec_l3Dec.f : Nat → Int → Option (ByteArray)
 | 0, _ => none
 | k + 1, a0 => if a0 < 10 then (some (strOfNums (([(wrap64 (48 + a0)) % 256] : List Int)))) else ((spec_l3Dec.f k (wrap64 (Int.tdiv a0 10))).bind fun t471 => ((some (([(wrap64 (48 + (Int.tmod a0 10))) % 256] : List Int) : List Int)).bind fun y472 => (if t471.size + (strOfNums y472).size ≤ 9223372036854775807 then (some (t471 ++ (strOfNums y472))) else (none))))
theorem spec_l3Dec.mono_l : ∀ k, (∀ y0, LeO (spec_l3Dec.f k y0) (spec_l3Dec.f (k + 1) y0))
 | 0 => fun _ r h => by simp [spec_l3Dec.f] at h
 | k + 1 => by
  have ih0 := spec_l3Dec.mono_l k
  ·intro y0
   unfold spec_l3Dec.f
   repeat' first
   | (with_reducible exact ih0 _)
   | (with_reducible exact LeO.refl _)
   | (with_reducible exact LeO.none _)
   | (with_reducible refine LeO.ite ?_ ?_)
   | (with_reducible refine LeO.bind ?_ (fun _ => ?_))
   | exact ih0 _
   | exact LeO.none _
   | refine LeO.ite ?_ ?_
   | refine LeO.bind ?_ (fun _ => ?_)
theorem spec_l3Dec.mono : ∀ a0 k, LeO (spec_l3Dec.f k a0) (spec_l3Dec.f (k + 1) a0) := by
 intro a0 k
 have ih0 := spec_l3Dec.mono_l k
 exact ih0 a0
def spec_l3Dec.T3 : Bool × List (List Nat × List Nat) := (true, [([], []), ([0], [0]), ([1], [1]), ([], []), ([3], [3]), ([4], [4]), ([5], [5]), ([6], [6]), ([7], [7]), ([2, 8], [2, 8]), ([9, 2, 0, 1, 2, 3, 4, 5, 6, 7, 8, 9], [9])])
def spec_l3Dec.B3 : List Nat := [0, 1, 3, 0, 8, 24, 56, 120, 248, 511, 1023]
theorem spec_l3Dec.tab3 : rtab .any (opsOf Try.f102 3) = spec_l3Dec.T3 := by kernel_rfl
theorem spec_l3Dec.bits3 : waitsOk spec_l3Dec.T3.2 spec_l3Dec.B3 = true := by kernel_rfl
set_option maxHeartbeats 8000000 in
set_option maxRecDepth 100000 in
theorem spec_l3Dec.calls (k : Nat) : ∀ (a0 : Int) (r : ByteArray) (w : World) (h : spec_l3Dec.f k a0 = some r),
  Calls Try.prog 102 #[.int .i64 a0] w fun e w' => e = .returned (.string r) ∧ Below w.heap.size w w' := by
 induction k using Nat.strongRecOn with
 | _ k ih =>
 intro a0 r w h
 cases k with
 | zero => exact absurd h (by simp [spec_l3Dec.f])
 | succ k =>
 simp only [spec_l3Dec.f] at h
 have HB := Aside0.mk (Below.refl w.heap.size w)
 have H : (if a0 < 10 then (some (strOfNums (([(wrap64 (48 + a0)) % 256] : List Int)))) else ((spec_l3Dec.f k (wrap64 (Int.tdiv a0 10))).bind fun t471 => ((some (([(wrap64 (48 + (Int.tmod a0 10))) % 256] : List Int) : List Int)).bind fun y472 => (if t471.size + (strOfNums y472).size ≤ 9223372036854775807 then (some (t471 ++ (strOfNums y472))) else (none))))) = some r := h
 clear h
 by_cases c2 : a0 < 10
 ·rw [if_pos c2] at H
  have c2b0 : decide (a0 < 10) = true := decide_eq_true c2
  clear c2
  obtain ⟨y468, hy468⟩ : ∃ y_ : List Int, y_ = (([(wrap64 (48 + a0)) % 256] : List Int)) := ⟨_, rfl⟩
  replace H : (some (strOfNums y468)) = some r := by first | (rw [hy468]; with_reducible exact H) | (have H2_ := (Option.bind_some _ _).symm.trans H; rw [hy468]; with_reducible exact H2_) | (have H2_ := (Option.bind_some _ _).symm.trans H; with_reducible exact H2_) | with_reducible exact H | (rw [hy468]; exact H) | exact H
  have Ny468 := Aside0.mk hy468
  clear hy468
  obtain rfl := Option.some.inj H
  go_enter Try.func102, Try.ntmps102
  go_wp2_with (first | ((with_reducible refine gate_dst (N := 8) rfl ?_); refine Kd.R_lit (Kd.int .u8) _ 5 ?hg (N := 8) ?hd (xs := ([(wrap64 (48 + a0)) % 256] : List Int)) (inner := [.int .u8 ((wrap64 (48 + a0)) % 256)]) (ok := fun _ => True) (okp := fun _ => True) ?hr ?hp (fun _ hk => hk) trivial (Below.refl _ _) (Nat.le_refl _) (by simp) ?_; (case hd => rfl); (case hg => rfl); (case hr => first | (go_simp; done) | (go_simp; rfl)); (case hp => exact (Reps.one (show Kd.M (Kd.int .u8) _ _ _ ((wrap64 (48 + a0)) % 256) [.int .u8 ((wrap64 (48 + a0)) % 256)] from rfl) (Reps.none _ _))); intro v469 w3 ho4 hb hg_ hnew_; clear hg_ hnew_; (first | rw [← Ny468.out] at ho4 | (simp only [Int.reduceToNat] at ho4; rw [← Ny468.out] at ho4)); have n0_ := Aside0.mk (Kd.R_lower ho4 (below_size (bw HB.out))); have n1_ := bs HB hb; clear HB; have HO470 := n0_; have HB := n1_; clear n0_ n1_; clear hb ho4; have hcv5 := own_string (P := Try.prog) Try.underlying25 Try.underlying5 Try.underlying9 (Kd.own_of_R HO470.out)))
  go_ret
  exact ⟨exq, bw HB.out⟩
 ·rw [if_neg c2] at H
  have c2b0 : decide (a0 < 10) = false := decide_eq_false c2
  clear c2
  replace H := Option.bind_eq_some_iff.mp H
  obtain ⟨t471, A60, H⟩ := H
  replace H : ((some (([(wrap64 (48 + (Int.tmod a0 10))) % 256] : List Int) : List Int)).bind fun y472 => (if t471.size + (strOfNums y472).size ≤ 9223372036854775807 then (some (t471 ++ (strOfNums y472))) else (none))) = some r := H
  have A6 := Aside0.mk A60
  clear A60
  obtain ⟨y472, hy472⟩ : ∃ y_ : List Int, y_ = (([(wrap64 (48 + (Int.tmod a0 10))) % 256] : List Int)) := ⟨_, rfl⟩
  replace H : (if t471.size + (strOfNums y472).size ≤ 9223372036854775807 then (some (t471 ++ (strOfNums y472))) else (none)) = some r := by first | (rw [hy472]; with_reducible exact H) | (have H2_ := (Option.bind_some _ _).symm.trans H; rw [hy472]; with_reducible exact H2_) | (have H2_ := (Option.bind_some _ _).symm.trans H; with_reducible exact H2_) | with_reducible exact H | (rw [hy472]; exact H) | exact H
  have Ny472 := Aside0.mk hy472
  clear hy472
  by_cases c7 : t471.size + (strOfNums y472).size ≤ 9223372036854775807
  ·rw [if_pos c7] at H
   have c7b0 := eq_true c7
   have c7b1 : decide (t471.size + (strOfNums y472).size ≤ 9223372036854775807) = true := decide_eq_true c7
   try have c7b2 : (9223372036854775807 < t471.size + (strOfNums y472).size) = False := eq_false (Nat.not_lt.2 c7)
   obtain rfl := Option.some.inj H
   go_enter Try.func102, Try.ntmps102
   try go_wp2
   have n0_ := Aside0.mk (below_drew1 HB.out)
   clear HB
   have HB := n0_
   clear n0_
   refine start_ (n := 11) (S := fun w' => True) (ds := []) #[false, false, false, false, false, false, false, false, false, false, false] (by kernel_rfl) rfl rfl trivial (fun hHeld => ?_); refine with_tabW spec_l3Dec.tab3 spec_l3Dec.bits3 (fun HT_ HW_ => ?_)
   generalize w.drew = w8 at HB hHeld ⊢
   refine pure_ (i := 0) (N := some 10) (v := ?_) (a' := ?_) #[true, false, false, false, false, false, false, false, false, false, false] rfl rfl (any_of HT_.out (by kernel_rfl)) (fun _ _ _ h => h) (Or.inl ⟨by rfl, ?_⟩) ?_ ?_
   rotate_left
   ·intro w'
    go_simp
    with_reducible rfl
   rotate_left
   ·simp only [Act.put, List.setIfInBounds_toArray, List.set_cons_zero, List.set_cons_succ, i64_w, i32_w]
    rfl
   refine pure_ (i := 1) (N := some 11) (v := ?_) (a' := ?_) #[true, true, false, false, false, false, false, false, false, false, false] rfl rfl (any_of HT_.out (by kernel_rfl)) (fun _ _ _ h => h) (Or.inl ⟨by rfl, ?_⟩) ?_ ?_
   rotate_left
   ·intro w'
    go_simp
    with_reducible rfl
   rotate_left
   ·simp only [Act.put, List.setIfInBounds_toArray, List.set_cons_zero, List.set_cons_succ, i64_w, i32_w]
    rfl
   refine pure_ (i := 3) (N := some 13) (v := ?_) (a' := ?_) #[true, true, false, true, false, false, false, false, false, false, false] rfl rfl (any_of HT_.out (by kernel_rfl)) (fun _ _ _ h => h) (Or.inl ⟨by rfl, ?_⟩) ?_ ?_
   rotate_left
   ·intro w'
    go_simp
    with_reducible rfl
   rotate_left
   ·simp only [Act.put, List.setIfInBounds_toArray, List.set_cons_zero, List.set_cons_succ, i64_w, i32_w]
    rfl
   refine pure_ (i := 4) (N := some 14) (v := ?_) (a' := ?_) #[true, true, false, true, true, false, false, false, false, false, false] rfl rfl (any_of HT_.out (by kernel_rfl)) (fun _ _ _ h => h) (Or.inl ⟨by rfl, ?_⟩) ?_ ?_
   rotate_left
   ·intro w'
    go_simp
    with_reducible rfl
   rotate_left
   ·simp only [Act.put, List.setIfInBounds_toArray, List.set_cons_zero, List.set_cons_succ, i64_w, i32_w]
    rfl
   refine pure_ (i := 5) (N := some 15) (v := ?_) (a' := ?_) #[true, true, false, true, true, true, false, false, false, false, false] rfl rfl (any_of HT_.out (by kernel_rfl)) (fun _ _ _ h => h) (Or.inl ⟨by rfl, ?_⟩) ?_ ?_
   rotate_left
   ·intro w'
    go_simp
    with_reducible rfl
   rotate_left
   ·simp only [Act.put, List.setIfInBounds_toArray, List.set_cons_zero, List.set_cons_succ, i64_w, i32_w]
    rfl
   refine pure_ (i := 6) (N := some 16) (v := ?_) (a' := ?_) #[true, true, false, true, true, true, true, false, false, false, false] rfl rfl (any_of HT_.out (by kernel_rfl)) (fun _ _ _ h => h) (Or.inl ⟨by rfl, ?_⟩) ?_ ?_
   rotate_left
   ·intro w'
    go_simp
    with_reducible rfl
   rotate_left
   ·simp only [Act.put, List.setIfInBounds_toArray, List.set_cons_zero, List.set_cons_succ, i64_w, i32_w]
    rfl
   refine join_ (σ := Value) 2 #[true, true, true, true, true, true, true, true, true, false, false] (fun s_ => [(12, .string t471), (17, s_), (18, .string (strOfNums y472))]) (fun s_ w' => (Kd.R (Kd.int .u8) 5 w' w.heap.size (fun _ => True) s_ y472) ∧ (Below w.heap.size w w')) ?_ ?_
   rotate_left
   ·intro hCont
    refine two_ (i := 2) (j := 7) (Ni := some 12) (Nj := some 17) #[true, true, true, true, true, true, true, false, false, false, false] #[true, true, false, true, true, true, true, true, false, false, false] rfl rfl rfl rfl (two_of HT_.out (by kernel_rfl)) (by decide) (by decide) (fun K hK => ?_) (fun K hK => ?_)
    ·skip
     refine goes_ Try.func102 (by kernel_rfl) rfl #[.int .i64 (wrap64 (Int.tdiv a0 10))] (by rfl) rfl rfl mxp ?_
     with_reducible refine (ih k (by omega) (wrap64 (Int.tdiv a0 10)) t471 _ A6.out).mono ?_
     rintro e w9 ⟨rfl, hb⟩
     refine ⟨_, rfl, ?_⟩
     have n0_ := bs HB hb
     clear HB
     have HB := n0_
     clear n0_
     (try clear hb)
     (try clear hb2)
     (try clear hk)
     (try clear hi)
     refine hK.out _ _ trivial (fun hHeld => ?_)
     clear hK K
     refine norm_ (a' := ?_) ?_ ?_
     rotate_left
     ·show Act.put _ (some 12) _ = _
      simp only [Act.put, List.setIfInBounds_toArray, List.set_cons_zero, List.set_cons_succ, i64_w, i32_w]
      rfl
     refine one_ (i := 7) (N := some 17) #[true, true, true, true, true, true, true, true, false, false, false] rfl rfl (one_of HT_.out (by kernel_rfl)) (by decide) (fun K hK => ?_)
     refine Kd.R_lit_step (Kd.int .u8) _ 5 ?hg (N := 17) ?hd (xs := ([(wrap64 (48 + (Int.tmod a0 10))) % 256] : List Int)) (inner := [.int .u8 ((wrap64 (48 + (Int.tmod a0 10))) % 256)]) (ok := fun _ => True) (okp := fun _ => True) ?hr ?hp (fun _ hk => hk) trivial (Below.refl _ _) (Nat.le_refl _) (by simp) ?_; (case hd => rfl); (case hg => rfl); (case hr => first | (go_simp; done) | (go_simp; rfl)); (case hp => exact (Reps.one (show Kd.M (Kd.int .u8) _ _ _ ((wrap64 (48 + (Int.tmod a0 10))) % 256) [.int .u8 ((wrap64 (48 + (Int.tmod a0 10))) % 256)] from rfl) (Reps.none _ _)))
     intro v473 w10 ho11 hb hg_ hnew_
     clear hg_ hnew_
     (first | rw [← Ny472.out] at ho11 | (simp only [Int.reduceToNat] at ho11; rw [← Ny472.out] at ho11))
     have n0_ := Aside0.mk (Kd.R_lower ho11 (below_size (bw HB.out)))
     have n1_ := bs HB hb
     clear HB
     have HO474 := n0_
     have HB := n1_
     clear n0_ n1_
     clear hb ho11
     refine hK.out _ _ trivial (fun hHeld => ?_)
     clear hK K
     refine norm_ (a' := ?_) ?_ ?_
     rotate_left
     ·show Act.put _ (some 17) _ = _
      simp only [Act.put, List.setIfInBounds_toArray, List.set_cons_zero, List.set_cons_succ, i64_w, i32_w]
      rfl
     refine one_ (i := 8) (N := some 18) #[true, true, true, true, true, true, true, true, true, false, false] rfl rfl (one_of HT_.out (by kernel_rfl)) (by decide) (fun K hK => ?_)
     have hcv12 := own_string (P := Try.prog) Try.underlying25 Try.underlying5 Try.underlying9 (Kd.own_of_R HO474.out)
     refine value_ (w1 := ?_) (v := ?_) (by rfl) rfl ?_ ?_
     rotate_left 2
     ·go_simp
      constructor
      ·rfl
      ·rfl
     clear hcv12
     refine hK.out _ _ trivial (fun hHeld => ?_)
     clear hK K
     refine norm_ (a' := ?_) ?_ ?_
     rotate_left
     ·show Act.put _ (some 18) _ = _
      simp only [Act.put, List.setIfInBounds_toArray, List.set_cons_zero, List.set_cons_succ, i64_w, i32_w]
      rfl
     exact norm_ (by simp only [putAll, Act.put, List.setIfInBounds_toArray, List.set_cons_zero, List.set_cons_succ]) (hCont (v473) _ ⟨(rx HO474.out), (bw HB.out)⟩)
    ·skip
     refine Kd.R_lit_step (Kd.int .u8) _ 5 ?hg (N := 17) ?hd (xs := ([(wrap64 (48 + (Int.tmod a0 10))) % 256] : List Int)) (inner := [.int .u8 ((wrap64 (48 + (Int.tmod a0 10))) % 256)]) (ok := fun _ => True) (okp := fun _ => True) ?hr ?hp (fun _ hk => hk) trivial (Below.refl _ _) (Nat.le_refl _) (by simp) ?_; (case hd => rfl); (case hg => rfl); (case hr => first | (go_simp; done) | (go_simp; rfl)); (case hp => exact (Reps.one (show Kd.M (Kd.int .u8) _ _ _ ((wrap64 (48 + (Int.tmod a0 10))) % 256) [.int .u8 ((wrap64 (48 + (Int.tmod a0 10))) % 256)] from rfl) (Reps.none _ _)))
     intro v473 w9 ho10 hb hg_ hnew_
     clear hg_ hnew_
     (first | rw [← Ny472.out] at ho10 | (simp only [Int.reduceToNat] at ho10; rw [← Ny472.out] at ho10))
     have n0_ := Aside0.mk (Kd.R_lower ho10 (below_size (bw HB.out)))
     have n1_ := bs HB hb
     clear HB
     have HO474 := n0_
     have HB := n1_
     clear n0_ n1_
     clear hb ho10
     refine hK.out _ _ trivial (fun hHeld => ?_)
     clear hK K
     refine norm_ (a' := ?_) ?_ ?_
     rotate_left
     ·show Act.put _ (some 17) _ = _
      simp only [Act.put, List.setIfInBounds_toArray, List.set_cons_zero, List.set_cons_succ, i64_w, i32_w]
      rfl
     refine two_ (i := 2) (j := 8) (Ni := some 12) (Nj := some 18) #[true, true, true, true, true, true, true, true, false, false, false] #[true, true, false, true, true, true, true, true, true, false, false] rfl rfl rfl rfl (two_of HT_.out (by kernel_rfl)) (by decide) (by decide) (fun K hK => ?_) (fun K hK => ?_)
     ·skip
      refine goes_ Try.func102 (by kernel_rfl) rfl #[.int .i64 (wrap64 (Int.tdiv a0 10))] (by rfl) rfl rfl mxp ?_
      with_reducible refine (ih k (by omega) (wrap64 (Int.tdiv a0 10)) t471 _ A6.out).mono ?_
      rintro e w11 ⟨rfl, hb⟩
      refine ⟨_, rfl, ?_⟩
      have n0_ := Aside0.mk (Kd.R_below (rx HO474.out) hb)
      have n1_ := bs HB hb
      clear HO474
      clear HB
      have HO474 := n0_
      have HB := n1_
      clear n0_ n1_
      (try clear hb)
      (try clear hb2)
      (try clear hk)
      (try clear hi)
      refine hK.out _ _ trivial (fun hHeld => ?_)
      clear hK K
      refine norm_ (a' := ?_) ?_ ?_
      rotate_left
      ·show Act.put _ (some 12) _ = _
       simp only [Act.put, List.setIfInBounds_toArray, List.set_cons_zero, List.set_cons_succ, i64_w, i32_w]
       rfl
      refine one_ (i := 8) (N := some 18) #[true, true, true, true, true, true, true, true, true, false, false] rfl rfl (one_of HT_.out (by kernel_rfl)) (by decide) (fun K hK => ?_)
      have hcv12 := own_string (P := Try.prog) Try.underlying25 Try.underlying5 Try.underlying9 (Kd.own_of_R HO474.out)
      refine value_ (w1 := ?_) (v := ?_) (by rfl) rfl ?_ ?_
      rotate_left 2
      ·go_simp
       constructor
       ·rfl
       ·rfl
      clear hcv12
      refine hK.out _ _ trivial (fun hHeld => ?_)
      clear hK K
      refine norm_ (a' := ?_) ?_ ?_
      rotate_left
      ·show Act.put _ (some 18) _ = _
       simp only [Act.put, List.setIfInBounds_toArray, List.set_cons_zero, List.set_cons_succ, i64_w, i32_w]
       rfl
      exact norm_ (by simp only [putAll, Act.put, List.setIfInBounds_toArray, List.set_cons_zero, List.set_cons_succ]) (hCont (v473) _ ⟨(rx HO474.out), (bw HB.out)⟩)
     ·skip
      have hcv11 := own_string (P := Try.prog) Try.underlying25 Try.underlying5 Try.underlying9 (Kd.own_of_R HO474.out)
      refine value_ (w1 := ?_) (v := ?_) (by rfl) rfl ?_ ?_
      rotate_left 2
      ·go_simp
       constructor
       ·rfl
       ·rfl
      clear hcv11
      refine hK.out _ _ trivial (fun hHeld => ?_)
      clear hK K
      refine norm_ (a' := ?_) ?_ ?_
      rotate_left
      ·show Act.put _ (some 18) _ = _
       simp only [Act.put, List.setIfInBounds_toArray, List.set_cons_zero, List.set_cons_succ, i64_w, i32_w]
       rfl
      refine one_ (i := 2) (N := some 12) #[true, true, true, true, true, true, true, true, true, false, false] rfl rfl (one_of HT_.out (by kernel_rfl)) (by decide) (fun K hK => ?_)
      refine goes_ Try.func102 (by kernel_rfl) rfl #[.int .i64 (wrap64 (Int.tdiv a0 10))] (by rfl) rfl rfl mxp ?_
      with_reducible refine (ih k (by omega) (wrap64 (Int.tdiv a0 10)) t471 _ A6.out).mono ?_
      rintro e w12 ⟨rfl, hb⟩
      refine ⟨_, rfl, ?_⟩
      have n0_ := Aside0.mk (Kd.R_below (rx HO474.out) hb)
      have n1_ := bs HB hb
      clear HO474
      clear HB
      have HO474 := n0_
      have HB := n1_
      clear n0_ n1_
      (try clear hb)
      (try clear hb2)
      (try clear hk)
      (try clear hi)
      refine hK.out _ _ trivial (fun hHeld => ?_)
      clear hK K
      refine norm_ (a' := ?_) ?_ ?_
      rotate_left
      ·show Act.put _ (some 12) _ = _
       simp only [Act.put, List.setIfInBounds_toArray, List.set_cons_zero, List.set_cons_succ, i64_w, i32_w]
       rfl
      exact norm_ (by simp only [putAll, Act.put, List.setIfInBounds_toArray, List.set_cons_zero, List.set_cons_succ]) (hCont (v473) _ ⟨(rx HO474.out), (bw HB.out)⟩)
   rintro v473 w13 ⟨h0_, h1_⟩
   have n0_ : Aside0 (Kd.R (Kd.int .u8) 5 w13 w.heap.size (fun _ => True) v473 y472) := ⟨h0_⟩
   have n1_ : Aside0 (Below w.heap.size w w13) := ⟨h1_⟩
   clear HB
   clear h0_ h1_
   have HO474 := n0_
   have HB := n1_
   clear n0_ n1_
   have hHeld := trivial
   refine norm_ (a' := ?_) ?_ ?_
   rotate_left
   ·simp only [putAll, Act.put, List.setIfInBounds_toArray, List.set_cons_zero, List.set_cons_succ]
    rfl
   refine pure_ (i := 9) (N := some 19) (v := ?_) (a' := ?_) #[true, true, true, true, true, true, true, true, true, true, false] rfl rfl (any_of HT_.out (by kernel_rfl)) (fun _ _ _ h => h) (Or.inl ⟨by rfl, ?_⟩) ?_ ?_
   rotate_left
   ·intro w'
    go_simp
    with_reducible rfl
   rotate_left
   ·simp only [Act.put, List.setIfInBounds_toArray, List.set_cons_zero, List.set_cons_succ, i64_w, i32_w]
    rfl
   refine pure_ (i := 10) (N := some 2) (v := ?_) (a' := ?_) #[true, true, true, true, true, true, true, true, true, true, true] rfl rfl (any_of HT_.out (by kernel_rfl)) (fun _ _ _ h => h) (Or.inl ⟨by rfl, ?_⟩) ?_ ?_
   rotate_left
   ·intro w'
    go_simp
    with_reducible rfl
   rotate_left
   ·simp only [Act.put, List.setIfInBounds_toArray, List.set_cons_zero, List.set_cons_succ, i64_w, i32_w]
    rfl
   refine done_ (done_of HT_.out (by kernel_rfl)) ?_
   try go_wp2
   go_ret
   exact ⟨exq, bw HB.out⟩
  ·rw [if_neg c7] at H
   exact absurd H (by simp)

end Go.Proofs.Ytdkologncoofdaa.P
-- XFar
namespace Go.Proofs.Ytdkologncoofdaa.P
open Go.RowKit Go.Proofs.YtdkologncoofdaaW.PrintWords Go.Proofs.YtdkologncoofdaaW.PrintLast
set_option linter.unusedVariables false

/-- A row of texts doesn't lie in a reader's block: a reader's cells are a slice and a number. -/
theorem far_seen107 {w0 W : World} {g : Nat} {f0 : List Int} {f1 : Int} {A : Option Addr} {n : Nat} {l : List ByteArray} (hc : Kd.C Kd.string W A n l) (h : IsS107 w0 W g f0 f1) :
    ∀ ad, A = some ad → 0 < n → ad.block ≠ g := by
  rintro ad rfl hn rfl
  obtain ⟨A0, c0, hb, _, _⟩ := h
  obtain ⟨ad', c, e, _, hK, hcell⟩ := Kd.C_get hc ByteArray.empty 0 (by omega) (by omega)
  cases e
  have h1 := hcell 0 _ (by rw [hK]; rfl)
  rw [show ((0 : Int).toNat * Kd.string.sz + 0) = 0 from by simp] at h1
  rw [show ad.add 0 = ad from by unfold Addr.add; split <;> simp_all] at h1
  simp only [World.cell?, hb] at h1
  split at h1
  · cases h1
  · have : ad.off = 0 ∨ ad.off = 1 ∨ 2 ≤ ad.off := by omega
    rcases this with e | e | e
    · rw [e] at h1; cases h1
    · rw [e] at h1; cases h1
    · rw [Array.getElem?_eq_none (by simpa using e)] at h1; cases h1

end Go.Proofs.Ytdkologncoofdaa.P
-- Px51
namespace Go.Proofs.Ytdkologncoofdaa.P
open Go.RowKit Go.Proofs.YtdkologncoofdaaW.PrintWords Go.Proofs.YtdkologncoofdaaW.PrintLast Go.Proofs.YtdkologncoofdaaW.PrintMore
attribute [local go_sem] max2_int min2_int max_two min_two max_three min_three max_four min_four   -- for this text's walks alone
set_option linter.unusedVariables false
set_option linter.unusedSimpArgs false

/-! ### spec_l5Recipe: function 93 -/
mutual
def spec_l5Recipe.l0 : Nat → List ByteArray → Int → List (S39) → Int → List Int → Int → Option ((List (S39)) × Int)
 | 0, _, _, _, _, _, _ => none
 | k + 1, x3, x4, x5, x6, x1000, x1001 => if x6 < x4 then (if 0 ≤ x6 then (if x6 < (x3.length : Int) then (if 0 ≤ (wrap64 (x6 + 1)) then (if (wrap64 (x6 + 1)) ≤ x4 then (if x4 ≤ (x3.length : Int) then ((spec_l5Phase.f k x1000 x1001 (rdOf ByteArray.empty x3 x6) ((x3.take (x4 : Int).toNat).drop ((wrap64 (x6 + 1)) : Int).toNat)).bind fun bt488 => (if x5.length < 1353245080339 then (spec_l5Recipe.l0 k x3 x4 (x5 ++ [(⟨bt488.1, bt488.2.1, bt488.2.2.1, bt488.2.2.2.1, bt488.2.2.2.2.1, bt488.2.2.2.2.2.1, bt488.2.2.2.2.2.2.1, bt488.2.2.2.2.2.2.2.1⟩ : S39)]) (wrap64 (x6 + 1)) x1000 bt488.2.2.2.2.2.2.2.2) else (none))) else (none)) else (none)) else (none)) else (none)) else (none)) else ((spec_l1Rd_pick.f k x1000 x1001 20).bind fun bt500 => (if bt500.1 = 0 then (spec_l5Recipe.l1 k x5 0 x1000 bt500.2) else (some (x5, bt500.2))))
def spec_l5Recipe.l1 : Nat → List (S39) → Int → List Int → Int → Option ((List (S39)) × Int)
 | 0, _, _, _, _ => none
 | k + 1, x5, x7, x1000, x1001 => if (x5.length : Int) < 12 then ((spec_l3Dec.f k x7).bind fun t502 => (if 1 + t502.size ≤ 9223372036854775807 then ((spec_l5Phase.f k x1000 x1001 ((⟨#[121]⟩ : ByteArray) ++ t502) (([] : List ByteArray))).bind fun bt506 => (if x5.length < 1353245080339 then (spec_l5Recipe.l1 k (x5 ++ [(⟨bt506.1, bt506.2.1, bt506.2.2.1, bt506.2.2.2.1, bt506.2.2.2.2.1, bt506.2.2.2.2.2.1, bt506.2.2.2.2.2.2.1, bt506.2.2.2.2.2.2.2.1⟩ : S39)]) (wrap64 (x7 + 1)) x1000 bt506.2.2.2.2.2.2.2.2) else (none))) else (none))) else (some (x5, x1001))
end
def spec_l5Recipe.f (k : Nat) (s0_0 : List Int) (s0_1 : Int) : Option ((List (S39)) × Int) := (spec_l5Names.f).bind fun t475 => ((spec_l1Rd_pick.f k s0_0 s0_1 (t475.length : Int)).bind fun bt478 => (spec_l5Recipe.l0 k t475 (wrap64 (1 + bt478.1)) (([] : List (S39))) 0 s0_0 bt478.2))
theorem spec_l5Recipe.mono_l : ∀ k, (∀ y0 y1 y2 y3 y4 y5, LeO (spec_l5Recipe.l0 k y0 y1 y2 y3 y4 y5) (spec_l5Recipe.l0 (k + 1) y0 y1 y2 y3 y4 y5)) ∧ (∀ y0 y1 y2 y3, LeO (spec_l5Recipe.l1 k y0 y1 y2 y3) (spec_l5Recipe.l1 (k + 1) y0 y1 y2 y3))
 | 0 => ⟨fun _ _ _ _ _ _ r h => by simp [spec_l5Recipe.l0] at h, fun _ _ _ _ r h => by simp [spec_l5Recipe.l1] at h⟩
 | k + 1 => by
  obtain ⟨ih0, ih1⟩ := spec_l5Recipe.mono_l k
  refine ⟨?_, ?_⟩
  ·intro y0 y1 y2 y3 y4 y5
   unfold spec_l5Recipe.l0
   repeat' first
   | (with_reducible exact ih0 _ _ _ _ _ _)
   | (with_reducible exact ih1 _ _ _ _)
   | (with_reducible exact spec_l1Rd_pick.mono _ _ _ _)
   | (with_reducible exact spec_l3Dec.mono _ _)
   | (with_reducible exact spec_l5Phase.mono _ _ _ _ _)
   | (with_reducible exact LeO.refl _)
   | (with_reducible exact LeO.none _)
   | (with_reducible refine LeO.ite ?_ ?_)
   | (with_reducible refine LeO.bind ?_ (fun _ => ?_))
   | exact ih0 _ _ _ _ _ _
   | exact ih1 _ _ _ _
   | exact spec_l1Rd_pick.mono _ _ _ _
   | exact spec_l3Dec.mono _ _
   | exact spec_l5Phase.mono _ _ _ _ _
   | exact LeO.none _
   | refine LeO.ite ?_ ?_
   | refine LeO.bind ?_ (fun _ => ?_)
  ·intro y0 y1 y2 y3
   unfold spec_l5Recipe.l1
   repeat' first
   | (with_reducible exact ih0 _ _ _ _ _ _)
   | (with_reducible exact ih1 _ _ _ _)
   | (with_reducible exact spec_l1Rd_pick.mono _ _ _ _)
   | (with_reducible exact spec_l3Dec.mono _ _)
   | (with_reducible exact spec_l5Phase.mono _ _ _ _ _)
   | (with_reducible exact LeO.refl _)
   | (with_reducible exact LeO.none _)
   | (with_reducible refine LeO.ite ?_ ?_)
   | (with_reducible refine LeO.bind ?_ (fun _ => ?_))
   | exact ih0 _ _ _ _ _ _
   | exact ih1 _ _ _ _
   | exact spec_l1Rd_pick.mono _ _ _ _
   | exact spec_l3Dec.mono _ _
   | exact spec_l5Phase.mono _ _ _ _ _
   | exact LeO.none _
   | refine LeO.ite ?_ ?_
   | refine LeO.bind ?_ (fun _ => ?_)
theorem spec_l5Recipe.mono : ∀ a0 a1 k, LeO (spec_l5Recipe.f k a0 a1) (spec_l5Recipe.f (k + 1) a0 a1) := by
 intro a0 a1 k
 obtain ⟨ih0, ih1⟩ := spec_l5Recipe.mono_l k
 unfold spec_l5Recipe.f
 repeat' first
   | (with_reducible exact ih0 _ _ _ _ _ _)
   | (with_reducible exact ih1 _ _ _ _)
   | (with_reducible exact spec_l1Rd_pick.mono _ _ _ _)
   | (with_reducible exact spec_l3Dec.mono _ _)
   | (with_reducible exact spec_l5Phase.mono _ _ _ _ _)
   | (with_reducible exact LeO.refl _)
   | (with_reducible exact LeO.none _)
   | (with_reducible refine LeO.ite ?_ ?_)
   | (with_reducible refine LeO.bind ?_ (fun _ => ?_))
   | exact ih0 _ _ _ _ _ _
   | exact ih1 _ _ _ _
   | exact spec_l1Rd_pick.mono _ _ _ _
   | exact spec_l3Dec.mono _ _
   | exact spec_l5Phase.mono _ _ _ _ _
   | exact LeO.none _
   | refine LeO.ite ?_ ?_
   | refine LeO.bind ?_ (fun _ => ?_)
def spec_l5Recipe.T7 : Bool × List (List Nat × List Nat) := (true, [([], []), ([], []), ([], []), ([], []), ([2, 3], [2, 3]), ([4], [4]), ([], []), ([], []), ([7], [7]), ([], []), ([6, 8, 9], [6, 8, 9]), ([1, 5, 10], [1, 5, 10]), ([11], [11]), ([0, 12, 11], [0, 12]), ([13, 13, 0, 1, 2, 3, 4, 5, 6, 7, 8, 9, 10, 11, 12, 13], [0, 13])])
def spec_l5Recipe.B7 : List Nat := [0, 0, 0, 0, 12, 28, 0, 0, 128, 0, 960, 2046, 4094, 8191, 16383]
theorem spec_l5Recipe.tab7 : rtab .any (opsOf Try.f93 7) = spec_l5Recipe.T7 := by kernel_rfl
theorem spec_l5Recipe.bits7 : waitsOk spec_l5Recipe.T7.2 spec_l5Recipe.B7 = true := by kernel_rfl
set_option maxHeartbeats 8000000 in
set_option maxRecDepth 100000 in
theorem spec_l5Recipe.calls (k : Nat) (g : Nat) (s0_0 : List Int) (s0_1 : Int) (r1 : List (S39)) (r2 : Int) (w0 w : World) (hI : IsS107 w0 w g s0_0 s0_1) (hB : Below w0.heap.size w0 w) (h : spec_l5Recipe.f k s0_0 s0_1 = some (r1, r2)) :
  Calls Try.prog 93 #[.pointer (some ⟨g, 0, none⟩)] w fun e w' => ∃ v0_ : Value, e = .returned (v0_) ∧ Kd.R k39 39 w' w.heap.size (fun _ => True) v0_ r1 ∧ IsS107 w0 w' g s0_0 r2 ∧ Below w0.heap.size w0 w' ∧ KeepBut w w' g none := by
 have HI0 := Aside0.mk hI
 have HK := Aside0.mk (KeepBut.refl w g none)
 have HL := Aside0.mk hB.size
 clear hI
 have HW0 := Aside0.mk hB.size
 have HB := Aside0.mk hB
 clear hB
 have H : ((spec_l5Names.f).bind fun t475 => ((spec_l1Rd_pick.f k s0_0 s0_1 (t475.length : Int)).bind fun bt478 => (spec_l5Recipe.l0 k t475 (wrap64 (1 + bt478.1)) (([] : List (S39))) 0 s0_0 bt478.2))) = some (r1, r2) := h
 clear h
 replace H := Option.bind_eq_some_iff.mp H
 obtain ⟨t475, A20, H⟩ := H
 replace H : ((spec_l1Rd_pick.f k s0_0 s0_1 (t475.length : Int)).bind fun bt478 => (spec_l5Recipe.l0 k t475 (wrap64 (1 + bt478.1)) (([] : List (S39))) 0 s0_0 bt478.2)) = some (r1, r2) := H
 have A2 := Aside0.mk A20
 clear A20
 replace H := Option.bind_eq_some_iff.mp H
 obtain ⟨⟨t478, t479⟩, A30, H⟩ := H
 replace H : (spec_l5Recipe.l0 k t475 (wrap64 (1 + t478)) (([] : List (S39))) 0 s0_0 t479) = some (r1, r2) := H
 have A3 := Aside0.mk A30
 clear A30
 obtain ⟨y480, hy480⟩ : ∃ y_ : List (S39), y_ = (([] : List (S39))) := ⟨_, rfl⟩
 replace H : (spec_l5Recipe.l0 k t475 (wrap64 (1 + t478)) y480 0 s0_0 t479) = some (r1, r2) := by first | (rw [hy480]; with_reducible exact H) | (have H2_ := (Option.bind_some _ _).symm.trans H; rw [hy480]; with_reducible exact H2_) | (have H2_ := (Option.bind_some _ _).symm.trans H; with_reducible exact H2_) | with_reducible exact H | (rw [hy480]; exact H) | exact H
 have Ny480 := Aside0.mk hy480
 clear hy480
 have H' := Aside0.mk H
 clear H
 go_enter Try.func93, Try.ntmps93
 go_wp2_with (first | ((with_reducible refine gate_callee (f := 81) rfl ?_); refine goesL_ (some 8) rfl rfl Try.func81 (by kernel_rfl) rfl #[] rfl mxp ?_; (with_reducible refine (spec_l5Names.calls  t475 _ A2.out).mono ?_); rintro e w4 ⟨v476, rfl, ho0, hb⟩; refine ⟨_, rfl, ?_⟩; have n0_ := Aside0.mk (Kd.R_lower ho0 (keep_size (w := w) (g := g) (row := none) (kb HK.out))); have n1_ := Aside0.mk (IsS107.below (ib HI0.out) hb); have n2_ := kt HK (KeepBut.of_below hb g none); have n3_ := bsi HB hb; clear HI0; clear HK; clear HB; have HO477 := n0_; have HI0 := n1_; have HK := n2_; have HB := n3_; clear n0_ n1_ n2_ n3_; (try clear hb); (try clear hb2); (try clear hk); (try clear hi); (try clear ho0); obtain ⟨Ao5, co5, eo5⟩ := Kd.R_slice HO477.out; subst eo5) | ((with_reducible refine gate_callee (f := 64) rfl ?_); refine goesL_ (some 12) rfl rfl Try.func64 (by kernel_rfl) rfl #[.pointer (some ⟨g, 0, none⟩), .int .i64 (t475.length : Int)] rfl mxp ?_; (with_reducible refine (spec_l1Rd_pick.calls k g s0_0 s0_1 (t475.length : Int) t478 t479 w0 _ ?side1 ?side2 A3.out).mono ?_); (case side1 => exact ib HI0.out); (case side2 => exact bi HB.out); rintro e w6 ⟨rfl, hi, hb, hk⟩; refine ⟨_, rfl, ?_⟩; have n0_ := Aside0.mk (Kd.R_mono (Kd.R_keep (IsS107.apart (show IsS107 w0 _ g s0_0 s0_1 from ib HI0.out) (rx HO477.out) (by decide)) hk (fun _ h => h.2)) (fun _ h => h.1)); have n1_ := kt HK hk; have n2_ := Aside0.mk (hb); have n3_ := Aside0.mk (hi); clear HO477; clear HK; clear HB; clear HI0; have HO477 := n0_; have HK := n1_; have HB := n2_; have HI0 := n3_; clear n0_ n1_ n2_ n3_; (try clear hb); (try clear hb2); (try clear hk); (try clear hi)) | ((with_reducible refine gate_dst (N := 14) rfl ?_); refine Kd.R_lit k39 _ 39 ?hg (N := 14) ?hd (xs := ([] : List (S39))) (inner := []) (ok := fun _ => True) (okp := fun _ => True) ?hr ?hp (fun _ hk => hk) trivial (Below.refl _ _) (Nat.le_refl _) (by simp) ?_; (case hd => rfl); (case hg => rfl); (case hr => first | (go_simp; done) | (go_simp; rfl)); (case hp => exact (Reps.none _ _)); intro v481 w7 ho8 hb hg_ hnew_; clear hg_ hnew_; (first | rw [← Ny480.out] at ho8 | (simp only [Int.reduceToNat] at ho8; rw [← Ny480.out] at ho8)); have n0_ := Aside0.mk (Kd.R_below (rx HO477.out) hb); have n1_ := Aside0.mk (Kd.R_lower ho8 (keep_size (w := w) (g := g) (row := none) (kb HK.out))); have n2_ := Aside0.mk (IsS107.below (ib HI0.out) hb); have n3_ := kt HK (KeepBut.of_below hb g none); have n4_ := bsi HB hb; clear HO477; clear HI0; clear HK; clear HB; have HO477 := n0_; have HO482 := n1_; have HI0 := n2_; have HK := n3_; have HB := n4_; clear n0_ n1_ n2_ n3_ n4_; clear hb ho8))
 go_loopg [5, 6] k (fun kq v5 v6 w' => ∃ (x5_1 : List (S39)) (x6_1 : Int) (x1001_1 : Int), v6 = .int .i64 x6_1 ∧ Aside0 (spec_l5Recipe.l0 kq t475 (wrap64 (1 + t478)) x5_1 x6_1 s0_0 x1001_1 = some (r1, r2)) ∧ Aside0 (kq ≤ k) ∧ Aside0 (Kd.R Kd.string 9 w' w.heap.size (fun _ => True) (.slice Ao5 t475.length co5) t475) ∧ Aside0 (Kd.R k39 39 w' w.heap.size (fun _ => True) v5 x5_1) ∧ Aside0 (IsS107 w0 w' g s0_0 x1001_1) ∧ Aside0 (KeepBut w w' g none) ∧ Aside0 (Below w0.heap.size w0 w'))
 case atStart => exact ⟨(y480), (0), (t479), (by first | rfl | (simp; done) | (simp [*]; done)), H', ⟨Nat.le_refl _⟩, ⟨by refine rx ?_; exact HO477.out⟩, ⟨by refine rx ?_; exact HO482.out⟩, ⟨ib HI0.out⟩, ⟨kb HK.out⟩, (hbi HB)⟩
 case round =>
  clear H'
  try clear p2
  try clear c6
  try clear p6
  try clear c8
  obtain ⟨x5_1, x6_1, x1001_1, rfl, HA, HK1, HO_3, HO_5, HI0, HK, HB⟩ := hrel
  cases gk with
  | zero => exact absurd HA.out (by simp [spec_l5Recipe.l0])
  | succ k1 =>
   have H := HA.out
   clear HA
   simp only [spec_l5Recipe.l0] at H
   by_cases c9 : x6_1 < (wrap64 (1 + t478))
   ·rw [if_pos c9] at H
    have c9b0 : decide (x6_1 < (wrap64 (1 + t478))) = true := decide_eq_true c9
    clear c9
    by_cases c10 : 0 ≤ x6_1
    ·rw [if_pos c10] at H
     have c10b0 : decide (0 ≤ x6_1) = true := decide_eq_true c10
     clear c10
     by_cases c11 : x6_1 < (t475.length : Int)
     ·rw [if_pos c11] at H
      have c11b0 : decide (x6_1 < (t475.length : Int)) = true := decide_eq_true c11
      clear c11
      obtain ⟨ji12, hji12⟩ : ∃ j_ : Int, (wrap64 (x6_1 + 1)) = j_ := ⟨_, rfl⟩
      replace H : (if 0 ≤ (ji12) then (if (ji12) ≤ (wrap64 (1 + t478)) then (if (wrap64 (1 + t478)) ≤ (t475.length : Int) then ((spec_l5Phase.f k1 s0_0 x1001_1 (rdOf ByteArray.empty t475 x6_1) ((t475.take ((wrap64 (1 + t478)) : Int).toNat).drop ((ji12) : Int).toNat)).bind fun bt488 => (if x5_1.length < 1353245080339 then (spec_l5Recipe.l0 k1 t475 (wrap64 (1 + t478)) (x5_1 ++ [(⟨bt488.1, bt488.2.1, bt488.2.2.1, bt488.2.2.2.1, bt488.2.2.2.2.1, bt488.2.2.2.2.2.1, bt488.2.2.2.2.2.2.1, bt488.2.2.2.2.2.2.2.1⟩ : S39)]) ji12 s0_0 bt488.2.2.2.2.2.2.2.2) else (none))) else (none)) else (none)) else (none)) = some (r1, r2) := by first | (rw [hji12] at H; exact H) | (simp only [hji12] at H ⊢; exact H)
      have hji12w : (IntKind.i64.wrap (x6_1 + 1)) = ji12 := (i64_w _).trans hji12
      by_cases c13 : 0 ≤ (ji12)
      ·rw [if_pos c13] at H
       have c13b0 := eq_true c13
       have c13b1 : decide (0 ≤ (ji12)) = true := decide_eq_true c13
       clear c13
       by_cases c14 : (ji12) ≤ (wrap64 (1 + t478))
       ·rw [if_pos c14] at H
        have c14b0 := eq_true c14
        have c14b1 : decide ((ji12) ≤ (wrap64 (1 + t478))) = true := decide_eq_true c14
        by_cases c15 : (wrap64 (1 + t478)) ≤ (t475.length : Int)
        ·rw [if_pos c15] at H
         have c15b0 := eq_true c15
         have c15b1 : decide ((wrap64 (1 + t478)) ≤ (t475.length : Int)) = true := decide_eq_true c15
         obtain ⟨y484, hy484⟩ : ∃ y_ : List ByteArray, y_ = ((t475.take ((wrap64 (1 + t478)) : Int).toNat).drop ((ji12) : Int).toNat) := ⟨_, rfl⟩
         replace H : ((spec_l5Phase.f k1 s0_0 x1001_1 (rdOf ByteArray.empty t475 x6_1) y484).bind fun bt488 => (if x5_1.length < 1353245080339 then (spec_l5Recipe.l0 k1 t475 (wrap64 (1 + t478)) (x5_1 ++ [(⟨bt488.1, bt488.2.1, bt488.2.2.1, bt488.2.2.2.1, bt488.2.2.2.2.1, bt488.2.2.2.2.2.1, bt488.2.2.2.2.2.2.1, bt488.2.2.2.2.2.2.2.1⟩ : S39)]) ji12 s0_0 bt488.2.2.2.2.2.2.2.2) else (none))) = some (r1, r2) := by first | (rw [hy484]; with_reducible exact H) | (have H2_ := (Option.bind_some _ _).symm.trans H; rw [hy484]; with_reducible exact H2_) | (have H2_ := (Option.bind_some _ _).symm.trans H; with_reducible exact H2_) | with_reducible exact H | (rw [hy484]; exact H) | exact H
         have Ny484 := Aside0.mk hy484
         clear hy484
         replace H := Option.bind_eq_some_iff.mp H
         obtain ⟨⟨t488, t489, t490, t491, t492, t493, t494, t495, t496⟩, A160, H⟩ := H
         replace H : (if x5_1.length < 1353245080339 then (spec_l5Recipe.l0 k1 t475 (wrap64 (1 + t478)) (x5_1 ++ [(⟨t488, t489, t490, t491, t492, t493, t494, t495⟩ : S39)]) ji12 s0_0 t496) else (none)) = some (r1, r2) := H
         have A16 := Aside0.mk A160
         clear A160
         by_cases c17 : x5_1.length < 1353245080339
         ·rw [if_pos c17] at H
          have LMc17 := Aside0.mk c17
          clear c17
          obtain ⟨y497, hy497⟩ : ∃ y_ : List (S39), y_ = (x5_1 ++ [(⟨t488, t489, t490, t491, t492, t493, t494, t495⟩ : S39)]) := ⟨_, rfl⟩
          replace H : (spec_l5Recipe.l0 k1 t475 (wrap64 (1 + t478)) y497 ji12 s0_0 t496) = some (r1, r2) := by first | (rw [hy497]; with_reducible exact H) | (have H2_ := (Option.bind_some _ _).symm.trans H; rw [hy497]; with_reducible exact H2_) | (have H2_ := (Option.bind_some _ _).symm.trans H; with_reducible exact H2_) | with_reducible exact H | (rw [hy497]; exact H) | exact H
          have Ny497 := Aside0.mk hy497
          clear hy497
          have H' := Aside0.mk H
          clear H
          try go_wp2
          have n0_ := Aside0.mk (Kd.R_drew HO_3.out)
          have n1_ := Aside0.mk (Kd.R_drew HO_5.out)
          have n2_ := Aside0.mk (IsS107.drew HI0.out)
          have n3_ := Aside0.mk (keep_drew HK.out)
          have n4_ := Aside0.mk (below_drew1 HB.out)
          clear HO_3
          clear HO_5
          clear HI0
          clear HK
          clear HB
          have HO_3 := n0_
          have HO_5 := n1_
          have HI0 := n2_
          have HK := n3_
          have HB := n4_
          clear n0_ n1_ n2_ n3_ n4_
          have p483 : 0 ≤ (x6_1 : Int) := oda
          have q483 : x6_1 < (t475.length : Int) := oda
          obtain ⟨ad483, e483, hx483_0⟩ := Kd.at_string (Kd.R_reads' HO_3.out).2.2 x6_1 p483 q483
          cases e483
          replace p483 := eq_true p483
          replace q483 := eq_true q483
          have q19 : ((wrap64 (1 + t478)) : Int) ≤ ((t475.length : Int) : Int) := oda
          obtain ⟨i019, hi019, _, hsz19, _⟩ := info_parts info9
          have hroom19 : t475.length ≤ co5 := (Kd.R_reads' HO_3.out).2.1
          have hC19 : Kd.C Kd.string _ (some ad483) t475.length t475 := (Kd.R_reads' HO_3.out).2.2
          have ql19 : ((ji12) : Int) ≤ ((wrap64 (1 + t478)) : Int) := oda
          have q019 : (0 : Int) ≤ ((ji12) : Int) := oda
          have hcut19 := cut_mid (P := Try.prog) 32 9 .i64 .i64 Try.underlying32 hi019 1 hsz19 (some ad483) t475.length co5 (ji12) (wrap64 (1 + t478)) q019 ql19 q19 hroom19
          have hr19 := Kd.C_mid (lo := ((ji12) : Int).toNat) (hi := ((wrap64 (1 + t478)) : Int).toNat) (c := co5) hC19 (by omega) (by omega) hroom19
          obtain ⟨A19, hA19⟩ : ∃ A1, A1 = (if co5 = ((ji12) : Int).toNat then (some ad483) else ((some ad483) : Option Addr).map (·.add (((ji12) : Int).toNat * 1))) := ⟨_, rfl⟩
          obtain ⟨c19, hc19⟩ : ∃ c1, c1 = co5 - ((ji12) : Int).toNat := ⟨_, rfl⟩
          have hy19 : y484.length = ((wrap64 (1 + t478)) : Int).toNat - ((ji12) : Int).toNat := (by rw [Ny484.out, List.length_drop, List.length_take] <;> omega)
          rw [show ((t475).take ((wrap64 (1 + t478)) : Int).toNat).drop ((ji12) : Int).toNat = y484 from Ny484.out.symm] at hr19
          replace hr19 : Kd.C Kd.string _ A19 y484.length y484 := (by rw [hA19]; exact hr19)
          rw [← hy19, ← hA19, ← hc19] at hcut19
          have HR487 := Aside0.mk hr19
          have HC487 := Aside0.mk (show y484.length ≤ c19 from by rw [hy19, hc19]; exact Nat.sub_le_sub_right (Nat.le_trans (by omega) hroom19) _)
          clear hr19 hC19 hroom19 hi019 hsz19 hc19
          have KY19 := Aside0.mk hy19
          have KA19 := Aside0.mk hA19
          clear hy19 hA19
          have KL19 := Aside0.mk (show ((wrap64 (1 + t478)) : Int).toNat ≤ t475.length from by omega)
          have KM19 := Aside0.mk (show ((ji12) : Int).toNat ≤ ((wrap64 (1 + t478)) : Int).toNat from by omega)
          replace q19 := eq_true q19
          refine start_ (n := 15) (S := fun w' => w'.cell? (ad483.add (x6_1).toNat) = some (.string (rdOf ByteArray.empty t475 x6_1))) (ds := [12, 13]) #[false, false, false, false, false, false, false, false, false, false, false, false, false, false, false] (by kernel_rfl) rfl rfl (hx483_0) (fun hHeld => ?_); refine with_tabW spec_l5Recipe.tab7 spec_l5Recipe.bits7 (fun HT_ HW_ => ?_)
          generalize wr.drew = w18 at HO_3 HO_5 HI0 HK HB HR487 hx483_0 hHeld ⊢
          refine pure_ (i := 0) (N := some 20) (v := ?_) (a' := ?_) #[true, false, false, false, false, false, false, false, false, false, false, false, false, false, false] rfl rfl (any_of HT_.out (by kernel_rfl)) (fun _ _ _ h => h) (Or.inl ⟨by rfl, ?_⟩) ?_ ?_
          rotate_left
          ·intro w'
           go_simp
           with_reducible rfl
          rotate_left
          ·simp only [Act.put, List.setIfInBounds_toArray, List.set_cons_zero, List.set_cons_succ, i64_w, i32_w]
           rfl
          refine pure_ (i := 1) (N := some 21) (v := ?_) (a' := ?_) #[true, true, false, false, false, false, false, false, false, false, false, false, false, false, false] rfl rfl (any_of HT_.out (by kernel_rfl)) (fun _ _ _ h => h) (Or.inl ⟨by rfl, ?_⟩) ?_ ?_
          rotate_left
          ·intro w'
           go_simp
           with_reducible rfl
          rotate_left
          ·simp only [Act.put, List.setIfInBounds_toArray, List.set_cons_zero, List.set_cons_succ, i64_w, i32_w]
           rfl
          refine pure_ (i := 2) (N := some 22) (v := ?_) (a' := ?_) #[true, true, true, false, false, false, false, false, false, false, false, false, false, false, false] rfl rfl (any_of HT_.out (by kernel_rfl)) (fun _ _ _ h => h) (Or.inl ⟨by rfl, ?_⟩) ?_ ?_
          rotate_left
          ·intro w'
           go_simp
           with_reducible rfl
          rotate_left
          ·simp only [Act.put, List.setIfInBounds_toArray, List.set_cons_zero, List.set_cons_succ, i64_w, i32_w]
           rfl
          refine pure_ (i := 3) (N := some 23) (v := ?_) (a' := ?_) #[true, true, true, true, false, false, false, false, false, false, false, false, false, false, false] rfl rfl (any_of HT_.out (by kernel_rfl)) (fun _ _ _ h => h) (Or.inl ⟨by rfl, ?_⟩) ?_ ?_
          rotate_left
          ·intro w'
           go_simp
           with_reducible rfl
          rotate_left
          ·simp only [Act.put, List.setIfInBounds_toArray, List.set_cons_zero, List.set_cons_succ, i64_w, i32_w]
           rfl
          refine pure_ (i := 4) (N := some 24) (v := ?_) (a' := ?_) #[true, true, true, true, true, false, false, false, false, false, false, false, false, false, false] rfl rfl (any_of HT_.out (by kernel_rfl)) (fun _ _ _ h => h) (Or.inl ⟨by rfl, ?_⟩) ?_ ?_
          rotate_left
          ·intro w'
           go_simp
           with_reducible rfl
          rotate_left
          ·simp only [Act.put, List.setIfInBounds_toArray, List.set_cons_zero, List.set_cons_succ, i64_w, i32_w]
           rfl
          refine pure_ (i := 6) (N := some 26) (v := ?_) (a' := ?_) #[true, true, true, true, true, false, true, false, false, false, false, false, false, false, false] rfl rfl (any_of HT_.out (by kernel_rfl)) (fun _ _ _ h => h) (Or.inl ⟨by rfl, ?_⟩) ?_ ?_
          rotate_left
          ·intro w'
           go_simp
           with_reducible rfl
          rotate_left
          ·simp only [Act.put, List.setIfInBounds_toArray, List.set_cons_zero, List.set_cons_succ, i64_w, i32_w]
           rfl
          refine pure_ (i := 7) (N := some 27) (v := ?_) (a' := ?_) #[true, true, true, true, true, false, true, true, false, false, false, false, false, false, false] rfl rfl (any_of HT_.out (by kernel_rfl)) (fun _ _ _ h => h) (Or.inl ⟨by rfl, ?_⟩) ?_ ?_
          rotate_left
          ·intro w'
           go_simp
           with_reducible rfl
          rotate_left
          ·simp only [Act.put, List.setIfInBounds_toArray, List.set_cons_zero, List.set_cons_succ, i64_w, i32_w]
           rfl
          refine pure_ (i := 8) (N := some 28) (v := ?_) (a' := ?_) #[true, true, true, true, true, false, true, true, true, false, false, false, false, false, false] rfl rfl (any_of HT_.out (by kernel_rfl)) (fun _ _ _ h => h) (Or.inl ⟨by rfl, ?_⟩) ?_ ?_
          rotate_left
          ·intro w'
           go_simp
           with_reducible rfl
          rotate_left
          ·simp only [Act.put, List.setIfInBounds_toArray, List.set_cons_zero, List.set_cons_succ, i64_w, i32_w]
           rfl
          refine pure_ (i := 9) (N := some 29) (v := ?_) (a' := ?_) #[true, true, true, true, true, false, true, true, true, true, false, false, false, false, false] rfl rfl (any_of HT_.out (by kernel_rfl)) (fun _ _ _ h => h) (Or.inl ⟨by rfl, ?_⟩) ?_ ?_
          rotate_left
          ·intro w'
           go_simp
           with_reducible rfl
          rotate_left
          ·simp only [Act.put, List.setIfInBounds_toArray, List.set_cons_zero, List.set_cons_succ, i64_w, i32_w]
           rfl
          refine pure_ (i := 10) (N := some 30) (v := ?_) (a' := ?_) #[true, true, true, true, true, false, true, true, true, true, true, false, false, false, false] rfl rfl (any_of HT_.out (by kernel_rfl)) (fun _ _ _ h => h) (Or.inl ⟨by rfl, ?_⟩) ?_ ?_
          rotate_left
          ·intro w'
           go_simp
           with_reducible rfl
          rotate_left
          ·simp only [Act.put, List.setIfInBounds_toArray, List.set_cons_zero, List.set_cons_succ, i64_w, i32_w]
           rfl
          refine take_ (i := 5) (N := some 25) (v := ?_) (a' := ?_) #[true, true, true, true, true, true, true, true, true, true, true, false, false, false, false] rfl rfl (take_ofW HT_.out HW_.out (by kernel_rfl)) (fun _ _ _ h => h) (Or.inl ⟨by rfl, ?_⟩) hHeld ?_ ?_
          rotate_left
          ·intro w' s0
           go_simp
           with_reducible rfl
          rotate_left
          ·simp only [Act.put, List.setIfInBounds_toArray, List.set_cons_zero, List.set_cons_succ, i64_w, i32_w]
           rfl
          refine one_ (i := 11) (N := some 31) #[true, true, true, true, true, true, true, true, true, true, true, true, false, false, false] rfl rfl (one_of HT_.out (by kernel_rfl)) (by decide) (fun K hK => ?_)
          refine goes_ Try.func79 (by kernel_rfl) rfl #[.pointer (some ⟨g, 0, none⟩), .string (rdOf ByteArray.empty t475 x6_1), .slice A19 y484.length c19] (by rfl) rfl rfl mxp ?_
          with_reducible refine (spec_l5Phase.calls k1 g s0_0 x1001_1 (rdOf ByteArray.empty t475 x6_1) _ _ y484 t488 t489 t490 t491 t492 t493 t494 t495 t496 w0 _ ?side1 ?side2 ?side3 ?side4 ?side5 A16.out).mono ?_
          (case side1 => exact ib HI0.out)
          (case side2 => exact bi HB.out)
          (case side3 => repeat (first | exact (by repeat (first | (with_reducible exact HR487.out) | (with_reducible refine Kd.C_alloc ?_ _) | (with_reducible refine Kd.C_drewN ?_ _) | (with_reducible refine Kd.C_drew ?_) | exact HR487.out)) | (with_reducible refine Kd.C_alloc ?_ _) | (with_reducible refine Kd.C_drewN ?_ _) | (with_reducible refine Kd.C_drew ?_)))
          (case side4 => exact HC487.out)
          (case side5 => exact far_seen107 (by repeat (first | (with_reducible exact HR487.out) | (with_reducible refine Kd.C_alloc ?_ _) | (with_reducible refine Kd.C_drewN ?_ _) | (with_reducible refine Kd.C_drew ?_) | exact HR487.out)) (ib HI0.out))
          rintro e w20 ⟨rfl, hi, hb, hk⟩
          have HS0_ := keep_cell hk (hHeld) (by first | (rw [add_block]; exact Kd.own_blk (IsS107.own_ne HI0.out HO_3.out (by decide))) | (show (Addr.add _ _).block ≠ _; rw [add_block]; exact Kd.own_blk (IsS107.own_ne HI0.out HO_3.out (by decide))) | exact Kd.own_blk (IsS107.own_ne HI0.out HO_3.out (by decide)))
          refine ⟨_, rfl, ?_⟩
          have n0_ := Aside0.mk (Kd.R_mono (Kd.R_keep (IsS107.apart (show IsS107 w0 _ g s0_0 x1001_1 from ib HI0.out) (rx HO_3.out) (by decide)) hk (fun _ h => h.2)) (fun _ h => h.1))
          have n1_ := Aside0.mk (Kd.R_mono (Kd.R_keep (IsS107.apart (show IsS107 w0 _ g s0_0 x1001_1 from ib HI0.out) (rx HO_5.out) (by decide)) hk (fun _ h => h.2)) (fun _ h => h.1))
          have n2_ := kt HK hk
          have n3_ := Aside0.mk (hb)
          have n4_ := Aside0.mk (hi)
          clear HO_3
          clear HO_5
          clear HK
          clear HB
          clear HI0
          have HO_3 := n0_
          have HO_5 := n1_
          have HK := n2_
          have HB := n3_
          have HI0 := n4_
          clear n0_ n1_ n2_ n3_ n4_
          (try clear hb)
          (try clear hb2)
          (try clear hk)
          (try clear hi)
          refine hK.out _ _ (HS0_) (fun hHeld => ?_)
          clear hK K
          refine norm_ (a' := ?_) ?_ ?_
          rotate_left
          ·show Act.put _ (some 31) _ = _
           simp only [Act.put, List.setIfInBounds_toArray, List.set_cons_zero, List.set_cons_succ, i64_w, i32_w]
           rfl
          refine last_ (i := 12) (N := some 32) #[true, true, true, true, true, true, true, true, true, true, true, true, true, false, false] rfl rfl (one_of HT_.out (by kernel_rfl)) (by decide) (fun K hK => ?_)
          refine value_ (w1 := ?_) (v := ?_) (by rfl) rfl ?_ ?_
          rotate_left 2
          ·go_simp
           constructor
           ·rfl
           ·rfl
          refine hK.out _ _ ?_
          clear hK K
          refine norm_ (a' := ?_) ?_ ?_
          rotate_left
          ·show Act.put _ (some 32) _ = _
           simp only [Act.put, List.setIfInBounds_toArray, List.set_cons_zero, List.set_cons_succ, i64_w, i32_w]
           rfl
          refine last_ (i := 13) (N := some 33) #[true, true, true, true, true, true, true, true, true, true, true, true, true, true, false] rfl rfl (one_of HT_.out (by kernel_rfl)) (by decide) (fun K hK => ?_)
          refine Kd.R_append_step k39 w.heap.size (by rfl) (.tmp 20) (.tmp 32) 26 39 (.agg #[(.string ⟨#[]⟩), (.int .i64 0), (.string ⟨#[]⟩), (.string ⟨#[]⟩), (.int .i64 0), (.int .i64 0), (.string ⟨#[]⟩), (.string ⟨#[]⟩)]) 104 rfl Try.underlying26 info39 rfl (by decide) (by omega) u5 x5_1 (⟨t488, t489, t490, t491, t492, t493, t494, t495⟩ : S39) [.string t488, .int .i64 t489, .string t490, .string t491, .int .i64 t492, .int .i64 t493, .string t494, .string t495] (fun _ => True) (fun _ => False) rfl rfl ?aP (fun _ hk => hk.elim) ?aF ?aO (Below.refl _ _) ?aS ?aL ?_
          (case aP => exact k39_mkM _ _ _ (⟨t488, t489, t490, t491, t492, t493, t494, t495⟩ : S39))
          (case aF => exact (fun _ _ => trivial))
          (case aO => exact (rx HO_5.out))
          (case aS => exact (keep_size (w := w) (g := g) (row := none) (kb HK.out)))
          (case aL => have := LMc17.out; omega)
          intro v498 w21 ho hb hg hat
          rw [← Ny497.out] at ho
          have n0_ := Aside0.mk (Kd.R_over' (rx HO_3.out) (Kd.R_typed (rx HO_5.out)) (by decide) hg)
          have n1_ := Aside0.mk (IsS107.grown (ib HI0.out) hg (IsS107.own_ne HI0.out HO_5.out (by decide)))
          have n2_ := Aside0.mk (below_weaken (bi HB.out) HL.out hb)
          have n3_ := Aside0.mk (KeepBut.trans (kb HK.out) (KeepBut.of_grown hg g) (Kd.R_base2 HO_5.out))
          have n4_ := Aside0.mk (ho)
          clear HO_3
          clear HI0
          clear HB
          clear HK
          clear HO_5
          have HO_3 := n0_
          have HI0 := n1_
          have HB := n2_
          have HK := n3_
          have HO499 := n4_
          clear n0_ n1_ n2_ n3_ n4_
          clear ho hb hg hat
          refine hK.out _ _ ?_
          clear hK K
          refine norm_ (a' := ?_) ?_ ?_
          rotate_left
          ·show Act.put _ (some 33) _ = _
           simp only [Act.put, List.setIfInBounds_toArray, List.set_cons_zero, List.set_cons_succ, i64_w, i32_w]
           rfl
          refine pure_ (i := 14) (N := some 5) (v := ?_) (a' := ?_) #[true, true, true, true, true, true, true, true, true, true, true, true, true, true, true] rfl rfl (any_of HT_.out (by kernel_rfl)) (fun _ _ _ h => h) (Or.inl ⟨by rfl, ?_⟩) ?_ ?_
          rotate_left
          ·intro w'
           go_simp
           with_reducible rfl
          rotate_left
          ·simp only [Act.put, List.setIfInBounds_toArray, List.set_cons_zero, List.set_cons_succ, i64_w, i32_w]
           rfl
          refine done_ (done_of HT_.out (by kernel_rfl)) ?_
          try go_wp2
          go_roundg k1
          case measure => have := HK1.out; omega
          case rel => exact ⟨(y497), (ji12), (t496), (by first | rfl | (simp; done) | (simp only [← hji12] <;> (first | rfl | simp)) | (simp [*]; done)), H', ⟨by have := HK1.out; omega⟩, ⟨by refine rx ?_; exact HO_3.out⟩, ⟨by refine rx ?_; exact HO499.out⟩, ⟨ib HI0.out⟩, ⟨kb HK.out⟩, (hbi HB)⟩
         ·rw [if_neg c17] at H
          exact absurd H (by simp)
        ·rw [if_neg c15] at H
         exact absurd H (by simp)
       ·rw [if_neg c14] at H
        exact absurd H (by simp)
      ·rw [if_neg c13] at H
       exact absurd H (by simp)
     ·rw [if_neg c11] at H
      exact absurd H (by simp)
    ·rw [if_neg c10] at H
     exact absurd H (by simp)
   ·rw [if_neg c9] at H
    have c9b0 : decide (x6_1 < (wrap64 (1 + t478))) = false := decide_eq_false c9
    clear c9
    replace H := Option.bind_eq_some_iff.mp H
    obtain ⟨⟨t500, t501⟩, A220, H⟩ := H
    replace H : (if t500 = 0 then (spec_l5Recipe.l1 k1 x5_1 0 s0_0 t501) else (some (x5_1, t501))) = some (r1, r2) := H
    have A22 := Aside0.mk A220
    clear A220
    by_cases c23 : t500 = 0
    ·rw [if_pos c23] at H
     have c23b0 : (t500 == 0) = true := beq_iff_eq.mpr c23
     have c23b1 : (t500 != 0) = false := bne_eq_false_iff_eq.mpr c23
     clear c23
     have H' := Aside0.mk H
     clear H
     go_wp2_with (first | ((with_reducible refine gate_callee (f := 64) rfl ?_); refine goesL_ (some 35) rfl rfl Try.func64 (by kernel_rfl) rfl #[.pointer (some ⟨g, 0, none⟩), .int .i64 20] rfl mxp ?_; (with_reducible refine (spec_l1Rd_pick.calls k1 g s0_0 x1001_1 20 t500 t501 w0 _ ?side1 ?side2 A22.out).mono ?_); (case side1 => exact ib HI0.out); (case side2 => exact bi HB.out); rintro e w24 ⟨rfl, hi, hb, hk⟩; refine ⟨_, rfl, ?_⟩; have n0_ := Aside0.mk (Kd.R_mono (Kd.R_keep (IsS107.apart (show IsS107 w0 _ g s0_0 x1001_1 from ib HI0.out) (rx HO_3.out) (by decide)) hk (fun _ h => h.2)) (fun _ h => h.1)); have n1_ := Aside0.mk (Kd.R_mono (Kd.R_keep (IsS107.apart (show IsS107 w0 _ g s0_0 x1001_1 from ib HI0.out) (rx HO_5.out) (by decide)) hk (fun _ h => h.2)) (fun _ h => h.1)); have n2_ := kt HK hk; have n3_ := Aside0.mk (hb); have n4_ := Aside0.mk (hi); clear HO_3; clear HO_5; clear HK; clear HB; clear HI0; have HO_3 := n0_; have HO_5 := n1_; have HK := n2_; have HB := n3_; have HI0 := n4_; clear n0_ n1_ n2_ n3_ n4_; (try clear hb); (try clear hb2); (try clear hk); (try clear hi)))
     go_loopg [5, 7] k1 (fun kq v5 v7 w' => ∃ (x5_2 : List (S39)) (x7_2 : Int) (x1001_2 : Int), v7 = .int .i64 x7_2 ∧ Aside0 (spec_l5Recipe.l1 kq x5_2 x7_2 s0_0 x1001_2 = some (r1, r2)) ∧ Aside0 (kq ≤ k1) ∧ Aside0 (Kd.R k39 39 w' w.heap.size (fun _ => True) v5 x5_2) ∧ Aside0 (IsS107 w0 w' g s0_0 x1001_2) ∧ Aside0 (KeepBut w w' g none) ∧ Aside0 (Below w0.heap.size w0 w'))
     case atStart => exact ⟨(x5_1), (0), (t501), (by first | rfl | (simp; done) | (simp [*]; done)), H', ⟨Nat.le_refl _⟩, ⟨by refine rx ?_; exact HO_5.out⟩, ⟨ib HI0.out⟩, ⟨kb HK.out⟩, (hbi HB)⟩
     case round =>
      clear H'
      try clear c1
      try clear q1
      try clear c2
      try clear p2
      try clear p4
      try clear q4
      try clear hx4
      try clear c6
      try clear p6
      try clear c7
      try clear c8
      try clear c9
      try clear c9b0
      try clear c10
      try clear c10b0
      try clear c11
      try clear c11b0
      try clear c13
      try clear c13b0
      try clear c13b1
      try clear c14
      try clear c14b0
      try clear c14b1
      try clear c15
      try clear c15b0
      try clear c15b1
      try clear c17
      try clear c19
      try clear q19
      try clear c23
      try clear c23b0
      try clear c23b1
      try clear hx483_0
      try clear p2
      try clear p483
      try clear p6
      try clear q019
      try clear q19
      try clear q483
      obtain ⟨x5_2, x7_2, x1001_2, rfl, HA, HK2, HO_5, HI0, HK, HB⟩ := hrel
      cases gk with
      | zero => exact absurd HA.out (by simp [spec_l5Recipe.l1])
      | succ k2 =>
       have H := HA.out
       clear HA
       simp only [spec_l5Recipe.l1] at H
       by_cases c25 : (x5_2.length : Int) < 12
       ·rw [if_pos c25] at H
        have c25b0 : decide ((x5_2.length : Int) < 12) = true := decide_eq_true c25
        have c25b1 : decide (x5_2.length < 12) = true := decide_eq_true (by omega)
        clear c25
        replace H := Option.bind_eq_some_iff.mp H
        obtain ⟨t502, A260, H⟩ := H
        replace H : (if 1 + t502.size ≤ 9223372036854775807 then ((spec_l5Phase.f k2 s0_0 x1001_2 ((⟨#[121]⟩ : ByteArray) ++ t502) (([] : List ByteArray))).bind fun bt506 => (if x5_2.length < 1353245080339 then (spec_l5Recipe.l1 k2 (x5_2 ++ [(⟨bt506.1, bt506.2.1, bt506.2.2.1, bt506.2.2.2.1, bt506.2.2.2.2.1, bt506.2.2.2.2.2.1, bt506.2.2.2.2.2.2.1, bt506.2.2.2.2.2.2.2.1⟩ : S39)]) (wrap64 (x7_2 + 1)) s0_0 bt506.2.2.2.2.2.2.2.2) else (none))) else (none)) = some (r1, r2) := H
        have A26 := Aside0.mk A260
        clear A260
        by_cases c27 : 1 + t502.size ≤ 9223372036854775807
        ·rw [if_pos c27] at H
         have c27b0 := eq_true c27
         have c27b1 : decide (1 + t502.size ≤ 9223372036854775807) = true := decide_eq_true c27
         try have c27b2 : (9223372036854775807 < 1 + t502.size) = False := eq_false (Nat.not_lt.2 c27)
         obtain ⟨y503, hy503⟩ : ∃ y_ : List ByteArray, y_ = (([] : List ByteArray)) := ⟨_, rfl⟩
         replace H : ((spec_l5Phase.f k2 s0_0 x1001_2 ((⟨#[121]⟩ : ByteArray) ++ t502) y503).bind fun bt506 => (if x5_2.length < 1353245080339 then (spec_l5Recipe.l1 k2 (x5_2 ++ [(⟨bt506.1, bt506.2.1, bt506.2.2.1, bt506.2.2.2.1, bt506.2.2.2.2.1, bt506.2.2.2.2.2.1, bt506.2.2.2.2.2.2.1, bt506.2.2.2.2.2.2.2.1⟩ : S39)]) (wrap64 (x7_2 + 1)) s0_0 bt506.2.2.2.2.2.2.2.2) else (none))) = some (r1, r2) := by first | (rw [hy503]; with_reducible exact H) | (have H2_ := (Option.bind_some _ _).symm.trans H; rw [hy503]; with_reducible exact H2_) | (have H2_ := (Option.bind_some _ _).symm.trans H; with_reducible exact H2_) | with_reducible exact H | (rw [hy503]; exact H) | exact H
         have Ny503 := Aside0.mk hy503
         clear hy503
         replace H := Option.bind_eq_some_iff.mp H
         obtain ⟨⟨t506, t507, t508, t509, t510, t511, t512, t513, t514⟩, A280, H⟩ := H
         replace H : (if x5_2.length < 1353245080339 then (spec_l5Recipe.l1 k2 (x5_2 ++ [(⟨t506, t507, t508, t509, t510, t511, t512, t513⟩ : S39)]) (wrap64 (x7_2 + 1)) s0_0 t514) else (none)) = some (r1, r2) := H
         have A28 := Aside0.mk A280
         clear A280
         by_cases c29 : x5_2.length < 1353245080339
         ·rw [if_pos c29] at H
          have LMc29 := Aside0.mk c29
          clear c29
          obtain ⟨y515, hy515⟩ : ∃ y_ : List (S39), y_ = (x5_2 ++ [(⟨t506, t507, t508, t509, t510, t511, t512, t513⟩ : S39)]) := ⟨_, rfl⟩
          replace H : (spec_l5Recipe.l1 k2 y515 (wrap64 (x7_2 + 1)) s0_0 t514) = some (r1, r2) := by first | (rw [hy515]; with_reducible exact H) | (have H2_ := (Option.bind_some _ _).symm.trans H; rw [hy515]; with_reducible exact H2_) | (have H2_ := (Option.bind_some _ _).symm.trans H; with_reducible exact H2_) | with_reducible exact H | (rw [hy515]; exact H) | exact H
          have Ny515 := Aside0.mk hy515
          clear hy515
          have H' := Aside0.mk H
          clear H
          obtain ⟨Ao30, co30, eo30⟩ := Kd.R_slice HO_5.out
          subst eo30
          go_wp2_with (first | ((with_reducible refine gate_callee (f := 102) rfl ?_); refine goesL_ (some 45) rfl rfl Try.func102 (by kernel_rfl) rfl #[.int .i64 x7_2] rfl mxp ?_; (with_reducible refine (spec_l3Dec.calls k2 x7_2 t502 _ A26.out).mono ?_); rintro e w31 ⟨rfl, hb⟩; refine ⟨_, rfl, ?_⟩; have n0_ := Aside0.mk (Kd.R_below (rx HO_5.out) hb); have n1_ := Aside0.mk (IsS107.below (ib HI0.out) hb); have n2_ := kt HK (KeepBut.of_below hb g none); have n3_ := bsi HB hb; clear HO_5; clear HI0; clear HK; clear HB; have HO_5 := n0_; have HI0 := n1_; have HK := n2_; have HB := n3_; clear n0_ n1_ n2_ n3_; (try clear hb); (try clear hb2); (try clear hk); (try clear hi)) | ((with_reducible refine gate_dst (N := 47) rfl ?_); refine Kd.R_lit Kd.string _ 9 ?hg (N := 47) ?hd (xs := ([] : List ByteArray)) (inner := []) (ok := fun _ => True) (okp := fun _ => True) ?hr ?hp (fun _ hk => hk) trivial (Below.refl _ _) (Nat.le_refl _) (by simp) ?_; (case hd => rfl); (case hg => rfl); (case hr => first | (go_simp; done) | (go_simp; rfl)); (case hp => exact (Reps.none _ _)); intro v504 w32 ho33 hb hg_ hnew_; clear hg_ hnew_; (first | rw [← Ny503.out] at ho33 | (simp only [Int.reduceToNat] at ho33; rw [← Ny503.out] at ho33)); have n0_ := Aside0.mk (Kd.R_below (rx HO_5.out) hb); have n1_ := Aside0.mk (Kd.R_lower ho33 (keep_size (w := w) (g := g) (row := none) (kb HK.out))); have n2_ := Aside0.mk (IsS107.below (ib HI0.out) hb); have n3_ := kt HK (KeepBut.of_below hb g none); have n4_ := bsi HB hb; clear HO_5; clear HI0; clear HK; clear HB; have HO_5 := n0_; have HO505 := n1_; have HI0 := n2_; have HK := n3_; have HB := n4_; clear n0_ n1_ n2_ n3_ n4_; clear hb ho33; obtain ⟨Ao34, co34, eo34⟩ := Kd.R_slice HO505.out; subst eo34) | ((with_reducible refine gate_callee (f := 79) rfl ?_); refine goesL_ (some 48) rfl rfl Try.func79 (by kernel_rfl) rfl #[.pointer (some ⟨g, 0, none⟩), .string ((⟨#[121]⟩ : ByteArray) ++ t502), .slice Ao34 y503.length co34] rfl mxp ?_; (with_reducible refine (spec_l5Phase.calls k2 g s0_0 x1001_2 ((⟨#[121]⟩ : ByteArray) ++ t502) _ _ y503 t506 t507 t508 t509 t510 t511 t512 t513 t514 w0 _ ?side1 ?side2 ?side3 ?side4 ?side5 A28.out).mono ?_); (case side1 => exact ib HI0.out); (case side2 => exact bi HB.out); (case side3 => exact cx (Kd.R_reads' HO505.out).2.2); (case side4 => exact (Kd.R_reads' HO505.out).2.1); (case side5 => exact far_slice (IsS107.own_ne HI0.out HO505.out (by decide))); rintro e w35 ⟨rfl, hi, hb, hk⟩; refine ⟨_, rfl, ?_⟩; have n0_ := Aside0.mk (Kd.R_mono (Kd.R_keep (IsS107.apart (show IsS107 w0 _ g s0_0 x1001_2 from ib HI0.out) (rx HO_5.out) (by decide)) hk (fun _ h => h.2)) (fun _ h => h.1)); have n1_ := Aside0.mk (Kd.R_mono (Kd.R_keep (IsS107.apart (show IsS107 w0 _ g s0_0 x1001_2 from ib HI0.out) (rx HO505.out) (by decide)) hk (fun _ h => h.2)) (fun _ h => h.1)); have n2_ := kt HK hk; have n3_ := Aside0.mk (hb); have n4_ := Aside0.mk (hi); clear HO_5; clear HO505; clear HK; clear HB; clear HI0; have HO_5 := n0_; have HO505 := n1_; have HK := n2_; have HB := n3_; have HI0 := n4_; clear n0_ n1_ n2_ n3_ n4_; (try clear hb); (try clear hb2); (try clear hk); (try clear hi)) | ((with_reducible refine gate_builtin (b := .append) (xs := #[.tmp 42, .tmp 49]) rfl ?_); at_builtin; refine Kd.R_append k39 w.heap.size rfl (.tmp 42) (.tmp 49) 26 39 (.agg #[(.string ⟨#[]⟩), (.int .i64 0), (.string ⟨#[]⟩), (.string ⟨#[]⟩), (.int .i64 0), (.int .i64 0), (.string ⟨#[]⟩), (.string ⟨#[]⟩)]) 104 rfl Try.underlying26 info39 rfl (by decide) (by omega) (.slice Ao30 x5_2.length co30) x5_2 (⟨t506, t507, t508, t509, t510, t511, t512, t513⟩ : S39) [.string t506, .int .i64 t507, .string t508, .string t509, .int .i64 t510, .int .i64 t511, .string t512, .string t513] (fun _ => True) (fun _ => False) rfl rfl ?aP (fun _ hk => hk.elim) ?aF ?aO (Below.refl _ _) ?aS ?aL ?_; (case aP => exact k39_mkM _ _ _ (⟨t506, t507, t508, t509, t510, t511, t512, t513⟩ : S39)); (case aF => exact (fun _ _ => trivial)); (case aO => exact (rx HO_5.out)); (case aS => exact (keep_size (w := w) (g := g) (row := none) (kb HK.out))); (case aL => have := LMc29.out; omega); intro v516 w36 ho hb hg hat; rw [← Ny515.out] at ho; have n0_ := Aside0.mk (IsS107.grown (ib HI0.out) hg (IsS107.own_ne HI0.out HO_5.out (by decide))); have n1_ := Aside0.mk (Kd.R_over' (rx HO505.out) (Kd.R_typed (rx HO_5.out)) (by decide) hg); have n2_ := Aside0.mk (below_weaken (bi HB.out) HL.out hb); have n3_ := Aside0.mk (KeepBut.trans (kb HK.out) (KeepBut.of_grown hg g) (Kd.R_base2 HO_5.out)); have n4_ := Aside0.mk (ho); clear HI0; clear HO505; clear HB; clear HK; clear HO_5; have HI0 := n0_; have HO505 := n1_; have HB := n2_; have HK := n3_; have HO517 := n4_; clear n0_ n1_ n2_ n3_ n4_; clear ho hb hg hat))
          go_roundg k2
          case measure => have := HK1.out; have := HK2.out; omega
          case rel => exact ⟨(y515), (wrap64 (x7_2 + 1)), (t514), (by first | rfl | (simp; done) | (simp [*]; done)), H', ⟨by have := HK1.out; have := HK2.out; omega⟩, ⟨by refine rx ?_; exact HO517.out⟩, ⟨ib HI0.out⟩, ⟨kb HK.out⟩, (hbi HB)⟩
         ·rw [if_neg c29] at H
          exact absurd H (by simp)
        ·rw [if_neg c27] at H
         exact absurd H (by simp)
       ·rw [if_neg c25] at H
        have c25b0 : decide ((x5_2.length : Int) < 12) = false := decide_eq_false c25
        have c25b1 : decide (x5_2.length < 12) = false := decide_eq_false (by omega)
        clear c25
        simp only [Option.some.injEq, Prod.mk.injEq] at H
        obtain ⟨rfl, rfl⟩ := H
        obtain ⟨Ao37, co37, eo37⟩ := Kd.R_slice HO_5.out
        subst eo37
        go_wp2
        go_ret
        exact ⟨_, exq, by refine rx ?_; exact HO_5.out, ib HI0.out, bi HB.out, kb HK.out⟩
    ·rw [if_neg c23] at H
     have c23b0 : (t500 == 0) = false := beq_eq_false_iff_ne.mpr c23
     have c23b1 : (t500 != 0) = true := bne_iff_ne.mpr c23
     simp only [Option.some.injEq, Prod.mk.injEq] at H
     obtain ⟨rfl, rfl⟩ := H
     go_wp2_with (first | ((with_reducible refine gate_callee (f := 64) rfl ?_); refine goesL_ (some 35) rfl rfl Try.func64 (by kernel_rfl) rfl #[.pointer (some ⟨g, 0, none⟩), .int .i64 20] rfl mxp ?_; (with_reducible refine (spec_l1Rd_pick.calls k1 g s0_0 x1001_1 20 t500 t501 w0 _ ?side1 ?side2 A22.out).mono ?_); (case side1 => exact ib HI0.out); (case side2 => exact bi HB.out); rintro e w38 ⟨rfl, hi, hb, hk⟩; refine ⟨_, rfl, ?_⟩; have n0_ := Aside0.mk (Kd.R_mono (Kd.R_keep (IsS107.apart (show IsS107 w0 _ g s0_0 x1001_1 from ib HI0.out) (rx HO_3.out) (by decide)) hk (fun _ h => h.2)) (fun _ h => h.1)); have n1_ := Aside0.mk (Kd.R_mono (Kd.R_keep (IsS107.apart (show IsS107 w0 _ g s0_0 x1001_1 from ib HI0.out) (rx HO_5.out) (by decide)) hk (fun _ h => h.2)) (fun _ h => h.1)); have n2_ := kt HK hk; have n3_ := Aside0.mk (hb); have n4_ := Aside0.mk (hi); clear HO_3; clear HO_5; clear HK; clear HB; clear HI0; have HO_3 := n0_; have HO_5 := n1_; have HK := n2_; have HB := n3_; have HI0 := n4_; clear n0_ n1_ n2_ n3_ n4_; (try clear hb); (try clear hb2); (try clear hk); (try clear hi)))
     go_ret
     exact ⟨_, exq, by refine rx ?_; exact HO_5.out, ib HI0.out, bi HB.out, kb HK.out⟩

end Go.Proofs.Ytdkologncoofdaa.P
