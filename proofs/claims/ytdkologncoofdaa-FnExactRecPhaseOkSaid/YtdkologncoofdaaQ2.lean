/- The law FnExactRecPhaseOk, plain: both tests of a phase answer alike. -/
import Derived.Test.YtdkologncoofdaaQ1
import Derived.Test.YtdkologncoofdaaPx17
namespace Go.Proofs.Ytdkologncoofdaa.P
open Go.RowKit Go.Proofs.YtdkologncoofdaaW.PrintWords Go.Proofs.YtdkologncoofdaaW.PrintLast
set_option linter.unusedVariables false
set_option linter.unusedSimpArgs false

theorem sz_some (x : S48) (n : Int) : ∃ r, laws_szRecPhase.f x.f0 x.f1 x.f2 x.f3 x.f4 x.f5 x.f6 x.f7 n = some r := by
  unfold laws_szRecPhase.f
  repeat' split
  all_goals exact ⟨_, rfl⟩

theorem pure_FnExactRecPhaseOk (x : S48) : ∃ k, laws_FnExactRecPhaseOk.f k x.f0 x.f1 x.f2 x.f3 x.f4 x.f5 x.f6 x.f7 = some true := by
  refine ⟨11, ?_⟩
  unfold laws_FnExactRecPhaseOk.f
  obtain ⟨r, hr⟩ := sz_some x 1048576
  rw [hr, Option.bind_some]
  by_cases h : r < 0
  · rw [if_pos h]
  · rw [if_neg h]
    unfold laws_toRecPhase.f
    simp only [Option.bind_some]
    have e1 := spec_ph ⟨x.f0, x.f1, x.f2, x.f3, x.f4, x.f5, x.f6, x.f7⟩ 2
    have e2 := impl_ph ⟨x.f0, x.f1, x.f2, x.f3, x.f4, x.f5, x.f6, x.f7⟩ 0
    simp only at e1 e2
    simp only [e1, e2, Option.bind_some]
    simp

end Go.Proofs.Ytdkologncoofdaa.P
