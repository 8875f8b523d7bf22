/- Part 7 of the texts that the law FnExactRecGo reaches: contracts of the functions and plain lemmas. -/
import Derived.Test.YtdkologncoofdaaCFnExactRecGo6
-- PlainFnExactRecGo
namespace Go.Proofs.Ytdkologncoofdaa.P
open Go.RowKit Go.Proofs.YtdkologncoofdaaW.PrintWords Go.Proofs.YtdkologncoofdaaW.PrintLast
set_option linter.unusedVariables false
set_option linter.unusedSimpArgs false

theorem eqState_self6 (a : ByteArray) (b c : Int) : laws_eqRecState.f a b c a b c = some true := by
  unfold laws_eqRecState.f
  simp
theorem pure_FnExactRecGo (l : List S48) (hl : l.length ≤ 9223372036854775807) (a : ByteArray) (now left : Int) (t : Int) (w : Bool) : ∃ k, laws_FnExactRecGo.f k l a now left t w = some true := by
  refine ⟨1048700, ?_⟩
  unfold laws_FnExactRecGo.f
  obtain ⟨r, hr, hs⟩ := szS l hl 1048700 (by omega)
  rw [hr, Option.bind_some]
  by_cases h : r < 0
  · rw [if_pos h]
  · have hs := hs h
    have hm : (l.map to39).length ≤ 1048576 := by rw [List.length_map]; exact hs
    rw [if_neg h]
    obtain ⟨r2, hr2⟩ : ∃ r2, laws_szRecState.f a now left r = some r2 := by
      unfold laws_szRecState.f
      split <;> exact ⟨_, rfl⟩
    rw [hr2, Option.bind_some]
    by_cases h2 : r2 < 0
    · rw [if_pos h2]
    · rw [if_neg h2, toS l hs 1048700 (by omega)]
      simp only [laws_toRecState.f, laws_toRecSay.f, Option.bind_some, spec_go _ hm _ _ _ _ _ 1048700 (by omega), impl_go _ _ _ _ _ _ 1048700 (by omega), eqState_self6]
      simp only [laws_FnExactRecGo.j0, toS l hs 1048699 (by omega), eqS _ hm 1048699 (by omega), Option.bind_some]
      simp

end Go.Proofs.Ytdkologncoofdaa.P
