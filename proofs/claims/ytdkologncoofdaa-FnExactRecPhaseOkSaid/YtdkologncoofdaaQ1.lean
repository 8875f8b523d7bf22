/- Plain lemmas: names, ends, phases, recipes. No program in sight. -/
import Derived.Test.YtdkologncoofdaaPx5
import Derived.Test.YtdkologncoofdaaPx12
import Derived.Test.YtdkologncoofdaaPx16
import Derived.Test.YtdkologncoofdaaPx19
namespace Go.Proofs.Ytdkologncoofdaa.P
open Go.RowKit Go.Proofs.YtdkologncoofdaaW.PrintWords Go.Proofs.YtdkologncoofdaaW.PrintLast
set_option linter.unusedVariables false
set_option linter.unusedSimpArgs false

/-- With enough rounds, and from there on, the answer is r. -/
def Evn {α : Type} (g : Nat → Option α) (r : α) : Prop := ∃ K, ∀ k, K ≤ k → g k = some r
theorem Evn.pure {α : Type} (r : α) : Evn (fun _ => some r) r := ⟨0, fun _ _ => rfl⟩
theorem Evn.bind {α β : Type} {g : Nat → Option α} {r : α} {h : Nat → α → Option β} {s : β} (h1 : Evn g r) (h2 : Evn (fun k => h k r) s) : Evn (fun k => (g k).bind (h k)) s := by
  obtain ⟨K1, h1⟩ := h1
  obtain ⟨K2, h2⟩ := h2
  exact ⟨max K1 K2, fun k hk => by show (g k).bind (h k) = some s; rw [h1 k (by omega)]; exact h2 k (by omega)⟩
theorem Evn.bind' {α β : Type} {r : α} {h : Nat → α → Option β} {s : β} (h2 : Evn (fun k => h k r) s) : Evn (fun k => (some r).bind (h k)) s := h2
theorem Evn.succ {α : Type} {g f : Nat → Option α} {r : α} (h : Evn f r) (e : ∀ k, g (k + 1) = f k) : Evn g r := by
  obtain ⟨K, h⟩ := h
  refine ⟨K + 1, fun k hk => ?_⟩
  obtain ⟨k, rfl⟩ : ∃ m, k = m + 1 := ⟨k - 1, by omega⟩
  rw [e]
  exact h k (by omega)
theorem Evn.congr {α : Type} {g f : Nat → Option α} {r : α} (h : Evn f r) (e : ∀ k, g k = f k) : Evn g r := by
  obtain ⟨K, h⟩ := h
  exact ⟨K, fun k hk => by rw [e]; exact h k hk⟩
theorem Evn.of {α : Type} {g : Nat → Option α} {r s : α} (h : Evn g r) (e : r = s) : Evn g s := e ▸ h
theorem Evn.yes {α : Type} {c : Prop} [Decidable c] {f g : Nat → Option α} {r : α} (hc : c) (h : Evn f r) : Evn (fun k => if c then f k else g k) r := h.congr fun k => if_pos hc
theorem Evn.no {α : Type} {c : Prop} [Decidable c] {f g : Nat → Option α} {r : α} (hc : ¬ c) (h : Evn g r) : Evn (fun k => if c then f k else g k) r := h.congr fun k => if_neg hc
theorem Evn.ite {α : Type} {c : Prop} [Decidable c] {f g : Nat → Option α} {r s : α} (h1 : c → Evn f r) (h2 : ¬ c → Evn g s) : Evn (fun k => if c then f k else g k) (if c then r else s) := by
  by_cases hc : c
  · rw [if_pos hc]; exact Evn.yes hc (h1 hc)
  · rw [if_neg hc]; exact Evn.no hc (h2 hc)
theorem Evn.ends {α : Type} {g : Nat → Option α} {r : α} (h : Evn g r) : ∃ k, g k = some r := by
  obtain ⟨K, h⟩ := h
  exact ⟨K, h K (Nat.le_refl _)⟩
/-- Of two answers there is one. -/
theorem Evn.one {α : Type} {g : Nat → Option α} {r s : α} (h : Evn g r) (h' : Evn g s) : r = s := by
  obtain ⟨K, h⟩ := h
  obtain ⟨K', h'⟩ := h'
  have := (h (max K K') (by omega)).symm.trans (h' (max K K') (by omega))
  exact Option.some.inj this

theorem wrap_id {x : Int} (h1 : -9223372036854775808 ≤ x) (h2 : x ≤ 9223372036854775807) : wrap64 x = x := by unfold wrap64; omega

/-! ### Ends -/
def endOf (a : ByteArray) : Int := if a.toList = ([103, 111, 111, 100] : List UInt8) then 1 else if a.toList = ([115, 97, 118, 101, 100] : List UInt8) then 2 else if a.toList = ([115, 99, 114, 97, 112, 112, 101, 100] : List UInt8) then 3 else 0
theorem endOf_range (a : ByteArray) : 0 ≤ endOf a ∧ endOf a ≤ 3 := by unfold endOf; split <;> (try split) <;> (try split) <;> omega
theorem spec_end (a : ByteArray) : spec_RecEnd.f a = some (endOf a) := by
  unfold spec_RecEnd.f endOf
  split <;> (try split) <;> (try split) <;> rfl
theorem impl_end (a : ByteArray) (k : Nat) : impl_RecEnd.f (k + 4) a = some (endOf a) := by
  have w0 : wrap64 1 = 1 := wrap_id (by omega) (by omega)
  have w1 : wrap64 2 = 2 := wrap_id (by omega) (by omega)
  have w2 : wrap64 3 = 3 := wrap_id (by omega) (by omega)
  have w3 : wrap64 0 = 0 := wrap_id (by omega) (by omega)
  unfold endOf impl_RecEnd.f slices_Index_string_string.f
  simp only [slices_Index_string_string.l0, rdOf, Option.bind_some, List.drop, List.length_cons, List.length_nil]
  by_cases c1 : a.toList = ([103, 111, 111, 100] : List UInt8)
  · simp [c1, w0]
  · by_cases c2 : a.toList = ([115, 97, 118, 101, 100] : List UInt8)
    · simp [c2, w0, w1]
    · by_cases c3 : a.toList = ([115, 99, 114, 97, 112, 112, 101, 100] : List UInt8)
      · simp [c3, w0, w1, w2]
      · simp [c1, c2, c3, w0, w1, w2, w3]
theorem impl_endE (a : ByteArray) : Evn (fun k => impl_RecEnd.f k a) (endOf a) := ⟨4, fun k hk => by
  obtain ⟨k, rfl⟩ : ∃ m, k = m + 4 := ⟨k - 4, by omega⟩
  exact impl_end a k⟩

/-! ### Between two bounds -/
def inB (a b c : Int) : Bool := decide (b ≤ a) && decide (a ≤ c)
theorem spec_in (a b c : Int) : spec_l1In.f a b c = some (inB a b c) := by
  unfold spec_l1In.f inB
  by_cases h : a ≥ b
  · rw [if_pos h]; simp [h]
  · rw [if_neg h]; simp [show ¬ b ≤ a from h]
theorem impl_in' (a b c : Int) : impl_in.f a b c = some (inB a b c) := by
  unfold impl_in.f inB
  by_cases h : a ≥ b
  · rw [if_pos h]; simp [h]
  · rw [if_neg h]; simp [show ¬ b ≤ a from h]
theorem inB_iff {a b c : Int} : inB a b c = true ↔ b ≤ a ∧ a ≤ c := by simp [inB]

/-! ### Names -/
def byteOk (x : Int) : Bool := (decide (97 ≤ x) && decide (x ≤ 122)) || (decide (48 ≤ x) && decide (x ≤ 57)) || decide (x = 45)
/-- All bytes from place i on are those of a name. -/
def tailOk (s : ByteArray) (i : Nat) : Bool := (List.range (s.size - i)).all fun j => byteOk (bt s ((i + j : Nat) : Int))
def nmOk (s : ByteArray) : Bool := inB (s.size : Int) 1 8 && tailOk s 0
theorem tailOk_end (s : ByteArray) (i : Nat) (h : s.size ≤ i) : tailOk s i = true := by
  unfold tailOk; rw [show s.size - i = 0 from by omega]; rfl
theorem tailOk_step (s : ByteArray) (i : Nat) (h : i < s.size) : tailOk s i = (byteOk (bt s (i : Int)) && tailOk s (i + 1)) := by
  unfold tailOk
  rw [show s.size - i = (s.size - (i + 1)) + 1 from by omega, List.range_succ_eq_map, List.all_cons, List.all_map]
  congr 1
  apply congrArg
  funext j
  simp only [Function.comp_apply, Nat.succ_eq_add_one]
  rw [show i + (j + 1) = i + 1 + j from by omega]

theorem nm_loop (s : ByteArray) (hs : s.size ≤ 8) (d : Nat) : ∀ (i : Nat) (k : Nat), i ≤ s.size → s.size - i = d → d < k →
    spec_l1NameOk.l0 k s (i : Int) = some (tailOk s i) ∧ impl_name.l0 k s (i : Int) = some (tailOk s i) := by
  induction d with
  | zero =>
    intro i k hi hd hk
    obtain ⟨k, rfl⟩ : ∃ m, k = m + 1 := ⟨k - 1, by omega⟩
    rw [tailOk_end s i (by omega)]
    simp only [spec_l1NameOk.l0, impl_name.l0]
    exact ⟨by rw [if_neg (by omega)], by rw [if_neg (by omega)]⟩
  | succ d ih =>
    intro i k hi hd hk
    obtain ⟨k, rfl⟩ : ∃ m, k = m + 1 := ⟨k - 1, by omega⟩
    obtain ⟨h1, h2⟩ := ih (i + 1) k (by omega) (by omega) (by omega)
    rw [tailOk_step s i (by omega)]
    simp only [spec_l1NameOk.l0, impl_name.l0]
    rw [show wrap64 ((i : Int) + 1) = ((i + 1 : Nat) : Int) from by rw [wrap_id (by omega) (by omega)]; omega, h1, h2]
    have key : ∀ (x : Int) (b : Bool), (if x ≥ 97 then (if x ≤ 122 then (some b) else (if x ≥ 48 then (if x ≤ 57 then (some b) else (if (x = 45) then (some b) else (some false))) else (if (x = 45) then (some b) else (some false)))) else (if x ≥ 48 then (if x ≤ 57 then (some b) else (if (x = 45) then (some b) else (some false))) else (if (x = 45) then (some b) else (some false)))) = some (byteOk x && b) := by
      intro x b
      unfold byteOk
      by_cases a1 : 97 ≤ x <;> by_cases a2 : x ≤ 122 <;> by_cases a3 : 48 ≤ x <;> by_cases a4 : x ≤ 57 <;> by_cases a5 : x = 45 <;> simp [a1, a2, a3, a4, a5] <;> omega
    exact ⟨by rw [if_pos (by omega), if_pos (by omega)]; exact key _ _, by rw [if_pos (by omega), if_pos (by omega)]; exact key _ _⟩
theorem spec_nm (s : ByteArray) (k : Nat) : spec_l1NameOk.f (k + 9) s = some (nmOk s) := by
  unfold spec_l1NameOk.f nmOk
  rw [spec_in, Option.bind_some]
  by_cases h : inB (s.size : Int) 1 8 = true
  · rw [if_pos h, h]
    have := inB_iff.1 h
    exact (nm_loop s (by omega) s.size 0 (k + 9) (by omega) (by omega) (by omega)).1
  · rw [if_neg h, Bool.eq_false_iff.2 h]; rfl
theorem impl_nm (s : ByteArray) (k : Nat) : impl_name.f (k + 9) s = some (nmOk s) := by
  unfold impl_name.f nmOk
  rw [impl_in', Option.bind_some]
  by_cases h : inB (s.size : Int) 1 8 = true
  · rw [if_pos h, h]
    have := inB_iff.1 h
    exact (nm_loop s (by omega) s.size 0 (k + 9) (by omega) (by omega) (by omega)).2
  · rw [if_neg h, Bool.eq_false_iff.2 h]; rfl

/-! ### Phases -/
def argsOk (x : S39) : Bool :=
  if x.f1 = 1 then nmOk x.f2 && nmOk x.f3 && inB x.f4 1 1000 else
  if x.f1 = 2 then nmOk x.f2 && nmOk x.f3 && (x.f2.toList != x.f3.toList) && inB x.f4 1 1000 else
  if x.f1 = 3 then nmOk x.f2 && decide (x.f3.toList = []) && inB x.f4 1 x.f5 else
  if x.f1 = 4 ∨ x.f1 = 5 then nmOk x.f2 && decide (x.f3.toList = []) && (x.f4 == 0) else false
def phOk (x : S39) : Bool := nmOk x.f0 && (endOf x.f0 == 0) && inB x.f5 1 1000 && argsOk x && nmOk x.f6 && nmOk x.f7

theorem spec_args (x : S39) (k : Nat) : spec_l1ArgsOk.f (k + 9) x.f0 x.f1 x.f2 x.f3 x.f4 x.f5 x.f6 x.f7 = some (argsOk x) := by
  unfold spec_l1ArgsOk.f argsOk
  simp only [spec_nm, spec_in, Option.bind_some]
  by_cases c1 : x.f1 = 1
  · rw [if_pos c1, if_pos c1]
    cases nmOk x.f2 <;> cases nmOk x.f3 <;> simp
  · rw [if_neg c1, if_neg c1]
    by_cases c2 : x.f1 = 2
    · rw [if_pos c2, if_pos c2]
      cases nmOk x.f2 <;> cases nmOk x.f3 <;> simp
      by_cases e : x.f2.toList = x.f3.toList <;> simp [e]
    · rw [if_neg c2, if_neg c2]
      by_cases c3 : x.f1 = 3
      · rw [if_pos c3, if_pos c3]
        cases nmOk x.f2 <;> simp
        by_cases e : x.f3.toList = [] <;> simp [e]
      · rw [if_neg c3, if_neg c3]
        by_cases c4 : x.f1 = 4
        · rw [if_pos c4, if_pos (Or.inl c4)]
          cases nmOk x.f2 <;> simp
          by_cases e : x.f3.toList = [] <;> simp [e]
        · rw [if_neg c4]
          by_cases c5 : x.f1 = 5
          · rw [if_pos c5, if_pos (Or.inr c5)]
            cases nmOk x.f2 <;> simp
            by_cases e : x.f3.toList = [] <;> simp [e]
          · rw [if_neg c5, if_neg (by omega)]
theorem spec_ph (x : S39) (k : Nat) : spec_RecPhaseOk.f (k + 9) x.f0 x.f1 x.f2 x.f3 x.f4 x.f5 x.f6 x.f7 = some (phOk x) := by
  unfold spec_RecPhaseOk.f phOk spec_l1PlainOk.f
  simp only [spec_nm, spec_in, spec_args, spec_end, Option.bind_some]
  generalize (endOf x.f0 == 0) = b
  cases nmOk x.f0 <;> cases b <;> cases inB x.f5 1 1000 <;> cases argsOk x <;> cases nmOk x.f6 <;> simp
theorem impl_j1 (x : S39) (c : Int) (b : Bool) (k : Nat) (hc : c = x.f1) (hb : b = (decide (x.f1 = 1) || decide (x.f1 = 2))) (hA : nmOk x.f2 = true) :
    impl_RecPhaseOk.j1 (k + 10) c b x.f0 x.f1 x.f2 x.f3 x.f4 x.f5 x.f6 x.f7 = some (argsOk x) := by
  subst hc
  simp only [impl_RecPhaseOk.j1]
  unfold argsOk
  simp only [impl_nm, impl_in', Option.bind_some, hA, Bool.true_and]
  by_cases c1 : x.f1 = 1
  · have : b = true := by rw [hb]; simp [c1]
    subst this
    cases nmOk x.f3 <;> cases inB x.f4 1 1000 <;> simp [c1]
  · by_cases c2 : x.f1 = 2
    · have : b = true := by rw [hb]; simp [c2]
      subst this
      cases nmOk x.f3 <;> cases inB x.f4 1 1000 <;> simp [c2]
    · have : b = false := by rw [hb]; simp [c1, c2]
      subst this
      by_cases c3 : x.f1 = 3
      · by_cases e : x.f3.toList = [] <;> simp [e, c3]
      · by_cases c4 : x.f1 = 4
        · by_cases e : x.f3.toList = [] <;> simp [e, c4]
        · by_cases c5 : x.f1 = 5
          · by_cases e : x.f3.toList = [] <;> simp [e, c5]
          · simp [c1, c2, c3, c4, c5]
theorem impl_j0F (x : S39) (k : Nat) : impl_RecPhaseOk.j0 (k + 1) true x.f0 x.f1 x.f2 x.f3 x.f4 x.f5 x.f6 x.f7 = some false := by
  simp [impl_RecPhaseOk.j0]
theorem impl_j0T (x : S39) (k : Nat) (hA : nmOk x.f2 = true) : impl_RecPhaseOk.j0 (k + 11) false x.f0 x.f1 x.f2 x.f3 x.f4 x.f5 x.f6 x.f7 = some (argsOk x) := by
  simp only [impl_RecPhaseOk.j0]
  rw [if_neg (by decide)]
  by_cases c1 : x.f1 = 1
  · rw [if_pos c1]
    exact impl_j1 x _ _ k rfl (by simp [c1]) hA
  · rw [if_neg c1]
    exact impl_j1 x _ _ k rfl (by rw [show decide (x.f1 = 1) = false from decide_eq_false c1]; rfl) hA
theorem argsOk_A (x : S39) (h : nmOk x.f2 = false) : argsOk x = false := by
  unfold argsOk; simp [h]
theorem impl_ph (x : S39) (k : Nat) : impl_RecPhaseOk.f (k + 11) x.f0 x.f1 x.f2 x.f3 x.f4 x.f5 x.f6 x.f7 = some (phOk x) := by
  unfold impl_RecPhaseOk.f phOk
  have e0 : ∀ s, impl_name.f (k + 11) s = some (nmOk s) := fun s => impl_nm s (k + 2)
  have e1 : impl_RecEnd.f (k + 11) x.f0 = some (endOf x.f0) := impl_end _ (k + 7)
  simp only [e0, e1, impl_in', Option.bind_some, impl_j0F x (k + 10)]
  cases h0 : nmOk x.f0
  · simp
  · rw [if_pos rfl]
    have hr := endOf_range x.f0
    by_cases he : endOf x.f0 > 0
    · rw [if_pos he, show (endOf x.f0 == 0) = false from beq_eq_false_iff_ne.2 (by omega)]; simp
    · rw [if_neg he, show (endOf x.f0 == 0) = true from beq_iff_eq.2 (by omega)]
      cases inB x.f5 1 1000
      · simp
      · rw [if_pos rfl]
        cases h2 : nmOk x.f2
        · rw [argsOk_A x h2]; simp
        · rw [if_pos rfl]
          cases h6 : nmOk x.f6
          · simp
          · rw [if_pos rfl]
            cases h7 : nmOk x.f7
            · simp [impl_j0F x (k + 10)]
            · simp [impl_j0T x k h2]

end Go.Proofs.Ytdkologncoofdaa.P
