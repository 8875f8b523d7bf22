/- Arguments opened: a phase, a state, a say by value; slices of phases, of says. -/
import Derived.Test.YtdkologncoofdaaPx0
import Derived.Test.YtdkologncoofdaaRows
import Derived.WalkKit
import Derived.ProofKit
import Derived.OpenShut
import Derived.ShutString
import Derived.ChangeOld
import Derived.Below
import Derived.SizedLaws
import Derived.Deep.Slices
namespace Go.Proofs.Ytdkologncoofdaa.P
open Go.ChangeShapes Go.WideShapes Go.ChangeAt Go.RowKit Go.Deep Go.Proofs.YtdkologncoofdaaW.PrintWords Go.Proofs.YtdkologncoofdaaW.PrintLast
set_option linter.unusedVariables false
set_option maxRecDepth 100000
section
variable {H : Type} {enc : TypeId × Value → H} {w : World} {base : Nat} {spare : Nat → Bool} {held : Bool} {fuel : Nat} {cs : List Value} {x : DataW H × List MemPlace}
theorem cells48 : Try.prog.cellsOf 48 = 8 := by kernel_rfl
theorem cells65 : Try.prog.cellsOf 65 = 3 := by kernel_rfl
theorem cells66 : Try.prog.cellsOf 66 = 2 := by kernel_rfl
theorem cells9 : Try.prog.cellsOf 9 = 1 := by kernel_rfl
theorem cells3 : Try.prog.cellsOf 3 = 1 := by kernel_rfl
theorem cells4 : Try.prog.cellsOf 4 = 1 := by kernel_rfl

theorem str_of {c : Value} {n : Nat} {y : Option (DataW H × List MemPlace)} (h : DataW.trod enc Try.prog w base spare held n 9 [c] = y) (hy : y.isSome) : ∃ s : ByteArray, c = .string s ∧ s.size ≤ maxLen := by
  obtain ⟨y, rfl⟩ := Option.isSome_iff_exists.1 hy
  obtain ⟨s, e, _, hs⟩ := DataW.trod_string Try.underlying9 h
  exact ⟨s, by simpa using e, hs⟩
theorem int_of {c : Value} {n : Nat} {y : Option (DataW H × List MemPlace)} (h : DataW.trod enc Try.prog w base spare held n 3 [c] = y) (hy : y.isSome) : ∃ s : Int, c = .int .i64 s ∧ (Lit.int .i64 s).wf = true := by
  obtain ⟨y, rfl⟩ := Option.isSome_iff_exists.1 hy
  obtain ⟨s, e, _, hs⟩ := DataW.trod_int Try.underlying3 h
  exact ⟨s, by simpa using e, hs⟩
theorem bool_of {c : Value} {n : Nat} {y : Option (DataW H × List MemPlace)} (h : DataW.trod enc Try.prog w base spare held n 4 [c] = y) (hy : y.isSome) : ∃ s : Bool, c = .bool s := by
  obtain ⟨y, rfl⟩ := Option.isSome_iff_exists.1 hy
  obtain ⟨s, e, _⟩ := DataW.trod_bool Try.underlying4 h
  exact ⟨s, by simpa using e⟩

theorem fld {fs : Array Field} {n : Nat} {xs : List (DataW H × List MemPlace)} (hf : ∀ (i : Nat) (f : Field), fs[i]? = some f → DataW.trod enc Try.prog w base spare held n f.type ((cs.drop f.offset).take (Try.prog.cellsOf f.type)) = xs[i]?)
    (i t : Nat) (c : Value) (hc : Try.prog.cellsOf t = 1) (h : (fs[i]?).map (fun f => (f.type, f.offset)) = some (t, i)) (he : (cs.drop i).take 1 = [c]) : DataW.trod enc Try.prog w base spare held n t [c] = xs[i]? := by
  obtain ⟨f, hfi, hz⟩ := Option.map_eq_some_iff.1 h
  simp only [Prod.mk.injEq] at hz
  obtain ⟨h1, h2⟩ := hz
  have g := hf i f hfi
  rw [h1, h2, hc, he] at g
  exact g
theorem trod48 (h : DataW.trod enc Try.prog w base spare held fuel 48 cs = some x) : ∃ y : S48, cs = [.string y.f0, .int .i64 y.f1, .string y.f2, .string y.f3, .int .i64 y.f4, .int .i64 y.f5, .string y.f6, .string y.f7] := by
  obtain ⟨xs, n, _, _, hcl, hxl, hf⟩ := DataW.trod_struct Try.underlying48 h
  rw [cells48] at hcl
  have hxl' : xs.length = 8 := hxl
  match cs, hcl with
  | [c0, c1, c2, c3, c4, c5, c6, c7], _ =>
    have g0 := fld hf 0 9 c0 cells9 rfl rfl; have g1 := fld hf 1 3 c1 cells3 rfl rfl; have g2 := fld hf 2 9 c2 cells9 rfl rfl; have g3 := fld hf 3 9 c3 cells9 rfl rfl; have g4 := fld hf 4 3 c4 cells3 rfl rfl; have g5 := fld hf 5 3 c5 cells3 rfl rfl; have g6 := fld hf 6 9 c6 cells9 rfl rfl; have g7 := fld hf 7 9 c7 cells9 rfl rfl
    obtain ⟨s0, rfl, _⟩ := str_of g0 (by simp [hxl'])
    obtain ⟨s1, rfl, _⟩ := int_of g1 (by simp [hxl'])
    obtain ⟨s2, rfl, _⟩ := str_of g2 (by simp [hxl'])
    obtain ⟨s3, rfl, _⟩ := str_of g3 (by simp [hxl'])
    obtain ⟨s4, rfl, _⟩ := int_of g4 (by simp [hxl'])
    obtain ⟨s5, rfl, _⟩ := int_of g5 (by simp [hxl'])
    obtain ⟨s6, rfl, _⟩ := str_of g6 (by simp [hxl'])
    obtain ⟨s7, rfl, _⟩ := str_of g7 (by simp [hxl'])
    exact ⟨⟨s0, s1, s2, s3, s4, s5, s6, s7⟩, rfl⟩
theorem trod65 (h : DataW.trod enc Try.prog w base spare held fuel 65 cs = some x) : ∃ (a : ByteArray) (b c : Int), cs = [.string a, .int .i64 b, .int .i64 c] := by
  obtain ⟨xs, n, _, _, hcl, hxl, hf⟩ := DataW.trod_struct Try.underlying65 h
  rw [cells65] at hcl
  have hxl' : xs.length = 3 := hxl
  match cs, hcl with
  | [c0, c1, c2], _ =>
    have g0 := fld hf 0 9 c0 cells9 rfl rfl; have g1 := fld hf 1 3 c1 cells3 rfl rfl; have g2 := fld hf 2 3 c2 cells3 rfl rfl
    obtain ⟨s0, rfl, _⟩ := str_of g0 (by simp [hxl'])
    obtain ⟨s1, rfl, _⟩ := int_of g1 (by simp [hxl'])
    obtain ⟨s2, rfl, _⟩ := int_of g2 (by simp [hxl'])
    exact ⟨s0, s1, s2, rfl⟩
theorem trod66 (h : DataW.trod enc Try.prog w base spare held fuel 66 cs = some x) : ∃ y : S66, cs = [.int .i64 y.f0, .bool y.f1] := by
  obtain ⟨xs, n, _, _, hcl, hxl, hf⟩ := DataW.trod_struct Try.underlying66 h
  rw [cells66] at hcl
  have hxl' : xs.length = 2 := hxl
  match cs, hcl with
  | [c0, c1], _ =>
    have g0 := fld hf 0 3 c0 cells3 rfl rfl; have g1 := fld hf 1 4 c1 cells4 rfl rfl
    obtain ⟨s0, rfl, _⟩ := int_of g0 (by simp [hxl'])
    obtain ⟨s1, rfl⟩ := bool_of g1 (by simp [hxl'])
    exact ⟨⟨s0, s1⟩, rfl⟩

theorem open48 {r : Reach} {b0 : Nat} {v : Value} {d : DataW H} {p : List MemPlace} (hv : Value.okWide Try.prog w r b0 48 v) (h : DataW.Trod enc Try.prog w base spare held 48 v d p) :
    ∃ y : S48, v = .agg #[.string y.f0, .int .i64 y.f1, .string y.f2, .string y.f3, .int .i64 y.f4, .int .i64 y.f5, .string y.f6, .string y.f7] := by
  obtain ⟨cs, rfl, hsz⟩ := okWide_struct Try.underlying48 hv
  obtain ⟨fuel, hf⟩ := h
  obtain ⟨y, hy⟩ := trod48 hf
  obtain ⟨l⟩ := cs
  simp only [Value.cells] at hy
  exact ⟨y, by rw [← hy]⟩
theorem open65 {r : Reach} {b0 : Nat} {v : Value} {d : DataW H} {p : List MemPlace} (hv : Value.okWide Try.prog w r b0 65 v) (h : DataW.Trod enc Try.prog w base spare held 65 v d p) :
    ∃ (a : ByteArray) (b c : Int), v = .agg #[.string a, .int .i64 b, .int .i64 c] := by
  obtain ⟨cs, rfl, hsz⟩ := okWide_struct Try.underlying65 hv
  obtain ⟨fuel, hf⟩ := h
  obtain ⟨a, b, c, hy⟩ := trod65 hf
  obtain ⟨l⟩ := cs
  simp only [Value.cells] at hy
  exact ⟨a, b, c, by rw [← hy]⟩
theorem open66 {r : Reach} {b0 : Nat} {v : Value} {d : DataW H} {p : List MemPlace} (hv : Value.okWide Try.prog w r b0 66 v) (h : DataW.Trod enc Try.prog w base spare held 66 v d p) :
    ∃ y : S66, v = .agg #[.int .i64 y.f0, .bool y.f1] := by
  obtain ⟨cs, rfl, hsz⟩ := okWide_struct Try.underlying66 hv
  obtain ⟨fuel, hf⟩ := h
  obtain ⟨y, hy⟩ := trod66 hf
  obtain ⟨l⟩ := cs
  simp only [Value.cells] at hy
  exact ⟨y, by rw [← hy]⟩

/-- A slice of structs whose cells read one by one. -/
theorem open_row {α : Type} (K : Kd α) {t e : TypeId} {r : Reach} {b0 : Nat} {v : Value} {d : DataW H} {p : List MemPlace} (ht : Try.prog.underlying t = some (.slice e)) (hK : ∀ w' y cs, K.K w y cs → K.K w' y cs)
    (he : Try.prog.cellsOf e = K.sz) (hel : ∀ {n : Nat} {cs : List Value} {x : DataW H × List MemPlace}, DataW.trod enc Try.prog w base spare held n e cs = some x → ∃ y, K.K w y cs)
    (hv : Value.okWide Try.prog w r b0 t v) (h : DataW.Trod enc Try.prog w base spare held t v d p) :
    ∃ (A : Option Addr) (c : Nat) (l : List α), v = .slice A l.length c ∧ l.length ≤ c ∧ Kd.C K w A l.length l := by
  obtain ⟨a0, len, cap, rfl⟩ := okWide_slice ht hv
  obtain ⟨fuel, hf⟩ := h
  rcases open_slice ht hf with ⟨hcs, _⟩ | ⟨a, len', cap', m, n, D, Pl, hcs, hb, hl, hm, hmm, _, hi⟩
  · simp [Value.cells] at hcs
    obtain ⟨rfl, rfl, rfl⟩ := hcs
    exact ⟨none, 0, [], rfl, Nat.le_refl _, rfl, by simp, fun hp => absurd hp (by simp)⟩
  · simp [Value.cells] at hcs
    obtain ⟨rfl, rfl, rfl⟩ := hcs
    have hlm : len ≤ m := by rw [hmm]; split <;> omega
    have hex : ∀ i : Fin len, ∃ (y : α) (cs' : List Value), K.K w y cs' ∧ cs'.length = K.sz ∧ ∀ j, j < K.sz → w.cell? ((a.add (i.val * K.sz)).add j) = cs'[j]? := by
      intro i
      obtain ⟨cs', hc, hr⟩ := hi i.val (by omega)
      rw [he] at hc
      obtain ⟨_, h1, h2⟩ := World.cells?_some hc
      obtain ⟨y, hy⟩ := hel hr
      exact ⟨y, cs', hy, h1, h2⟩
    let f : Fin len → α := fun i => (hex i).choose
    have hlen : (List.ofFn f).length = len := by simp
    refine ⟨some a, cap, List.ofFn f, by rw [hlen], by rw [hlen]; exact hl, rfl, ?_, fun _ => ⟨a, rfl, fun j q hq => ?_⟩⟩
    · rw [hlen]; simp only [maxLen] at hm; omega
    · have hj : j < len := by
        have := (List.getElem?_eq_some_iff.1 hq).1
        rw [hlen] at this
        exact this
      have hq2 : q = f ⟨j, hj⟩ := by
        rw [List.getElem?_eq_getElem (by rw [hlen]; exact hj)] at hq
        have := Option.some.inj hq
        rw [← this]
        simp
      obtain ⟨cs', h1, h2, h3⟩ := (hex ⟨j, hj⟩).choose_spec
      refine ⟨cs', h2, by rw [hq2]; exact h1, fun i u hu => ?_⟩
      have hil : i < K.sz := by
        have := (List.getElem?_eq_some_iff.1 hu).1
        omega
      rw [← hu, ← h3 i hil, Go.Deep.add_add]

theorem open54 {r : Reach} {b0 : Nat} {v : Value} {d : DataW H} {p : List MemPlace} (hv : Value.okWide Try.prog w r b0 54 v) (h : DataW.Trod enc Try.prog w base spare held 54 v d p) :
    ∃ (A : Option Addr) (c : Nat) (l : List S48), v = .slice A l.length c ∧ l.length ≤ c ∧ Kd.C k48 w A l.length l :=
  open_row k48 Try.underlying54 (fun w' y cs h => by rw [k48_open h]; exact k48_mk w' y) cells48 (fun {n cs x} h => by
    obtain ⟨y, rfl⟩ := trod48 h
    exact ⟨y, k48_mk w y⟩) hv h
theorem open73 {r : Reach} {b0 : Nat} {v : Value} {d : DataW H} {p : List MemPlace} (hv : Value.okWide Try.prog w r b0 73 v) (h : DataW.Trod enc Try.prog w base spare held 73 v d p) :
    ∃ (A : Option Addr) (c : Nat) (l : List S66), v = .slice A l.length c ∧ l.length ≤ c ∧ Kd.C k66 w A l.length l :=
  open_row k66 Try.underlying73 (fun w' y cs h => by rw [k66_open h]; exact k66_mk w' y) cells66 (fun {n cs x} h => by
    obtain ⟨y, rfl⟩ := trod66 h
    exact ⟨y, k66_mk w y⟩) hv h
end
end Go.Proofs.Ytdkologncoofdaa.P
