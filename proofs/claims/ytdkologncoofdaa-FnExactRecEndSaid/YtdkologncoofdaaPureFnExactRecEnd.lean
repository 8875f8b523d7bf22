/- The law FnExactRecEnd answers true for every name: the program's RecEnd returns what the reference's returns. No condition. -/
import Derived.Test.YtdkologncoofdaaPFnExactRecEndx1
namespace Go.Proofs.Ytdkologncoofdaa.Pure
open Go.RowKit Go.Proofs.Ytdkologncoofdaa.PFnExactRecEnd Go.Proofs.YtdkologncoofdaaW.PrintWords Go.Proofs.YtdkologncoofdaaW.PrintLast

theorem FnExactRecEnd : laws_FnExactRecEnd.Pure := by
  intro a0 _
  refine ⟨4, ?_⟩
  have w0 : wrap64 1 = 1 := by unfold wrap64; omega
  have w1 : wrap64 2 = 2 := by unfold wrap64; omega
  have w2 : wrap64 3 = 3 := by unfold wrap64; omega
  have w3 : wrap64 0 = 0 := by unfold wrap64; omega
  unfold laws_FnExactRecEnd.f
  by_cases hs : (a0.size : Int) > 1048576
  · rw [if_pos hs]
  · rw [if_neg hs]
    unfold spec_RecEnd.f impl_RecEnd.f slices_Index_string_string.f
    simp only [slices_Index_string_string.l0, rdOf, Option.bind_some, List.drop, List.length_cons, List.length_nil]
    by_cases c1 : a0.toList = ([103, 111, 111, 100] : List UInt8)
    · simp [c1, w0]
    · by_cases c2 : a0.toList = ([115, 97, 118, 101, 100] : List UInt8)
      · simp [c2, w0, w1]
      · by_cases c3 : a0.toList = ([115, 99, 114, 97, 112, 112, 101, 100] : List UInt8)
        · simp [c3, w0, w1, w2]
        · simp [c1, c2, c3, w0, w1, w2, w3]

end Go.Proofs.Ytdkologncoofdaa.Pure
