/-
  No cell of these rows narrows 'for every input' (looked for: loops, veiled, ifaces, maps, wideKeys, modest, calm, conditions, laid).
  DERIVED. THE GIVEN ROWS OF THIS SEAT. 15 by the template 'for every input the law returns true; each argument reads behind the call as it read before'; 0 by the template 'total and deterministic' (their statements: YtdkologncoofdaaTotals.lean).
  GIVEN WITH THE SEED: the statements are not yours to turn. If you find one false, say at which input.
  Laid BY PROGRAM, IN A SANDBOX (cutbox-rows.mjs): the forced cells as the released guide's own fill.sh prints them over the translation 298b5de693fc3b05… (all of the seat's roots in one cut). By AI agents, Wed Nov 11 2026. No macro, syntax, notation, axiom, sorry.
-/
import Derived.Test.YtdkologncoofdaaChecked
import GoSem.Claim
import GoSem.ClaimJoined
import GoSem.ClaimMapViews
import Derived.JoinedTies
import Derived.KernelRfl
namespace Go.Proofs.Ytdkologncoofdaa
/- THE CELL 'sum', in the pinned program and in every row, IS THE sha256 OF THE DUMP (.gsa) THAT YtdkologncoofdaaProg.lean LOADS. Nothing in Lean hashes anything: it is a label: what it is worth is what the hold of that sum in a sandbox is worth. -/
noncomputable def Try.pinned : Pinned := { name := "ytdkologncoofdaa", sum := "298b5de693fc3b051f7054585c7363051484ab2feec699361110364a6507f6ae", checked := Try.checked }
namespace Rows
def none {H : Type} : Left H := { results := [], args := [] }

/-- 'laws.FnExactConstants': WHATEVER THE INPUT: true; the input reads as it did. -/
def fnExactConstantsSpec : ChangeSpec := { name := "fnExactConstants", fn := fun _ => fun
  | [] => { results := [.lit (.bool true)], args := [] }
  | _ => none }
def fnExactConstantsRow : OpenClaim := { program := "ytdkologncoofdaa", sum := "298b5de693fc3b051f7054585c7363051484ab2feec699361110364a6507f6ae", func := "loop.example/maltrec/laws.FnExactConstants", spec := "fnExactConstants", apart := false }
def FnExactConstantsSaid : Prop := fnExactConstantsRow.holds Try.pinned (OpenSpec.ofChange fnExactConstantsSpec)

/-- ITS FALSE NEIGHBOUR: 'it returns false'. Refute it at one input. -/
def fnExactConstantsWrong : ChangeSpec := { name := "fnExactConstants", fn := fun _ => fun
  | [] => { results := [.lit (.bool false)], args := [] }
  | _ => none }
def FnExactConstantsWrongFalsely : Prop := fnExactConstantsRow.holds Try.pinned (OpenSpec.ofChange fnExactConstantsWrong)

/-- 'laws.FnExactRecEnd': WHATEVER THE INPUT: true; the input reads as it did. -/
def fnExactRecEndSpec : ChangeSpec := { name := "fnExactRecEnd", fn := fun _ => fun
  | [d] => { results := [.lit (.bool true)], args := [d] }
  | _ => none }
def fnExactRecEndRow : OpenClaim := { program := "ytdkologncoofdaa", sum := "298b5de693fc3b051f7054585c7363051484ab2feec699361110364a6507f6ae", func := "loop.example/maltrec/laws.FnExactRecEnd", spec := "fnExactRecEnd", apart := false }
def FnExactRecEndSaid : Prop := fnExactRecEndRow.holds Try.pinned (OpenSpec.ofChange fnExactRecEndSpec)

/-- ITS FALSE NEIGHBOUR: 'it returns false'. Refute it at one input. -/
def fnExactRecEndWrong : ChangeSpec := { name := "fnExactRecEnd", fn := fun _ => fun
  | [d] => { results := [.lit (.bool false)], args := [d] }
  | _ => none }
def FnExactRecEndWrongFalsely : Prop := fnExactRecEndRow.holds Try.pinned (OpenSpec.ofChange fnExactRecEndWrong)

/-- 'laws.FnTop': WHATEVER THE INPUT: true; the input reads as it did. -/
def fnTopSpec : ChangeSpec := { name := "fnTop", fn := fun _ => fun
  | [d] => { results := [.lit (.bool true)], args := [d] }
  | _ => none }
def fnTopRow : OpenClaim := { program := "ytdkologncoofdaa", sum := "298b5de693fc3b051f7054585c7363051484ab2feec699361110364a6507f6ae", func := "loop.example/maltrec/laws.FnTop", spec := "fnTop", unfollowed := true, recurses := true, apart := false }
def FnTopSaid : Prop := fnTopRow.holds Try.pinned (OpenSpec.ofChange fnTopSpec)

/-- ITS FALSE NEIGHBOUR: 'it returns false'. Refute it at one input. -/
def fnTopWrong : ChangeSpec := { name := "fnTop", fn := fun _ => fun
  | [d] => { results := [.lit (.bool false)], args := [d] }
  | _ => none }
def FnTopWrongFalsely : Prop := fnTopRow.holds Try.pinned (OpenSpec.ofChange fnTopWrong)

/-- 'laws.FnExactRecPhaseOk': WHATEVER THE INPUT: true; the input reads as it did. -/
def fnExactRecPhaseOkSpec : ChangeSpec := { name := "fnExactRecPhaseOk", fn := fun _ => fun
  | [d] => { results := [.lit (.bool true)], args := [d] }
  | _ => none }
def fnExactRecPhaseOkRow : OpenClaim := { program := "ytdkologncoofdaa", sum := "298b5de693fc3b051f7054585c7363051484ab2feec699361110364a6507f6ae", func := "loop.example/maltrec/laws.FnExactRecPhaseOk", spec := "fnExactRecPhaseOk", apart := false }
def FnExactRecPhaseOkSaid : Prop := fnExactRecPhaseOkRow.holds Try.pinned (OpenSpec.ofChange fnExactRecPhaseOkSpec)

/-- ITS FALSE NEIGHBOUR: 'it returns false'. Refute it at one input. -/
def fnExactRecPhaseOkWrong : ChangeSpec := { name := "fnExactRecPhaseOk", fn := fun _ => fun
  | [d] => { results := [.lit (.bool false)], args := [d] }
  | _ => none }
def FnExactRecPhaseOkWrongFalsely : Prop := fnExactRecPhaseOkRow.holds Try.pinned (OpenSpec.ofChange fnExactRecPhaseOkWrong)

/-- 'laws.FnPhase': WHATEVER THE INPUT: true; the input reads as it did. -/
def fnPhaseSpec : ChangeSpec := { name := "fnPhase", fn := fun _ => fun
  | [d] => { results := [.lit (.bool true)], args := [d] }
  | _ => none }
def fnPhaseRow : OpenClaim := { program := "ytdkologncoofdaa", sum := "298b5de693fc3b051f7054585c7363051484ab2feec699361110364a6507f6ae", func := "loop.example/maltrec/laws.FnPhase", spec := "fnPhase", unfollowed := true, recurses := true, apart := false }
def FnPhaseSaid : Prop := fnPhaseRow.holds Try.pinned (OpenSpec.ofChange fnPhaseSpec)

/-- ITS FALSE NEIGHBOUR: 'it returns false'. Refute it at one input. -/
def fnPhaseWrong : ChangeSpec := { name := "fnPhase", fn := fun _ => fun
  | [d] => { results := [.lit (.bool false)], args := [d] }
  | _ => none }
def FnPhaseWrongFalsely : Prop := fnPhaseRow.holds Try.pinned (OpenSpec.ofChange fnPhaseWrong)

/-- 'laws.FnExactRecOk': WHATEVER THE INPUT: true; the input reads as it did. -/
def fnExactRecOkSpec : ChangeSpec := { name := "fnExactRecOk", fn := fun _ => fun
  | [d] => { results := [.lit (.bool true)], args := [d] }
  | _ => none }
def fnExactRecOkRow : OpenClaim := { program := "ytdkologncoofdaa", sum := "298b5de693fc3b051f7054585c7363051484ab2feec699361110364a6507f6ae", func := "loop.example/maltrec/laws.FnExactRecOk", spec := "fnExactRecOk", unfollowed := true, recurses := true, apart := false }
def FnExactRecOkSaid : Prop := fnExactRecOkRow.holds Try.pinned (OpenSpec.ofChange fnExactRecOkSpec)

/-- ITS FALSE NEIGHBOUR: 'it returns false'. Refute it at one input. -/
def fnExactRecOkWrong : ChangeSpec := { name := "fnExactRecOk", fn := fun _ => fun
  | [d] => { results := [.lit (.bool false)], args := [d] }
  | _ => none }
def FnExactRecOkWrongFalsely : Prop := fnExactRecOkRow.holds Try.pinned (OpenSpec.ofChange fnExactRecOkWrong)

/-- 'laws.FnExactRecBound': WHATEVER THE INPUT: true; the input reads as it did. -/
def fnExactRecBoundSpec : ChangeSpec := { name := "fnExactRecBound", fn := fun _ => fun
  | [d1, d2] => { results := [.lit (.bool true)], args := [d1, d2] }
  | _ => none }
def fnExactRecBoundRow : OpenClaim := { program := "ytdkologncoofdaa", sum := "298b5de693fc3b051f7054585c7363051484ab2feec699361110364a6507f6ae", func := "loop.example/maltrec/laws.FnExactRecBound", spec := "fnExactRecBound", unfollowed := true, recurses := true, apart := false }
def FnExactRecBoundSaid : Prop := fnExactRecBoundRow.holds Try.pinned (OpenSpec.ofChange fnExactRecBoundSpec)

/-- ITS FALSE NEIGHBOUR: 'it returns false'. Refute it at one input. -/
def fnExactRecBoundWrong : ChangeSpec := { name := "fnExactRecBound", fn := fun _ => fun
  | [d1, d2] => { results := [.lit (.bool false)], args := [d1, d2] }
  | _ => none }
def FnExactRecBoundWrongFalsely : Prop := fnExactRecBoundRow.holds Try.pinned (OpenSpec.ofChange fnExactRecBoundWrong)

/-- 'laws.FnExactRecCan': WHATEVER THE INPUT: true; the input reads as it did. -/
def fnExactRecCanSpec : ChangeSpec := { name := "fnExactRecCan", fn := fun _ => fun
  | [d1, d2, d3] => { results := [.lit (.bool true)], args := [d1, d2, d3] }
  | _ => none }
def fnExactRecCanRow : OpenClaim := { program := "ytdkologncoofdaa", sum := "298b5de693fc3b051f7054585c7363051484ab2feec699361110364a6507f6ae", func := "loop.example/maltrec/laws.FnExactRecCan", spec := "fnExactRecCan", unfollowed := true, recurses := true, apart := false }
def FnExactRecCanSaid : Prop := fnExactRecCanRow.holds Try.pinned (OpenSpec.ofChange fnExactRecCanSpec)

/-- ITS FALSE NEIGHBOUR: 'it returns false'. Refute it at one input. -/
def fnExactRecCanWrong : ChangeSpec := { name := "fnExactRecCan", fn := fun _ => fun
  | [d1, d2, d3] => { results := [.lit (.bool false)], args := [d1, d2, d3] }
  | _ => none }
def FnExactRecCanWrongFalsely : Prop := fnExactRecCanRow.holds Try.pinned (OpenSpec.ofChange fnExactRecCanWrong)

/-- 'laws.FnExactRecBegin': WHATEVER THE INPUT: true; the input reads as it did. -/
def fnExactRecBeginSpec : ChangeSpec := { name := "fnExactRecBegin", fn := fun _ => fun
  | [d] => { results := [.lit (.bool true)], args := [d] }
  | _ => none }
def fnExactRecBeginRow : OpenClaim := { program := "ytdkologncoofdaa", sum := "298b5de693fc3b051f7054585c7363051484ab2feec699361110364a6507f6ae", func := "loop.example/maltrec/laws.FnExactRecBegin", spec := "fnExactRecBegin", unfollowed := true, recurses := true, apart := false }
def FnExactRecBeginSaid : Prop := fnExactRecBeginRow.holds Try.pinned (OpenSpec.ofChange fnExactRecBeginSpec)

/-- ITS FALSE NEIGHBOUR: 'it returns false'. Refute it at one input. -/
def fnExactRecBeginWrong : ChangeSpec := { name := "fnExactRecBegin", fn := fun _ => fun
  | [d] => { results := [.lit (.bool false)], args := [d] }
  | _ => none }
def FnExactRecBeginWrongFalsely : Prop := fnExactRecBeginRow.holds Try.pinned (OpenSpec.ofChange fnExactRecBeginWrong)

/-- 'laws.FnCan': WHATEVER THE INPUT: true; the input reads as it did. -/
def fnCanSpec : ChangeSpec := { name := "fnCan", fn := fun _ => fun
  | [d] => { results := [.lit (.bool true)], args := [d] }
  | _ => none }
def fnCanRow : OpenClaim := { program := "ytdkologncoofdaa", sum := "298b5de693fc3b051f7054585c7363051484ab2feec699361110364a6507f6ae", func := "loop.example/maltrec/laws.FnCan", spec := "fnCan", unfollowed := true, recurses := true, apart := false }
def FnCanSaid : Prop := fnCanRow.holds Try.pinned (OpenSpec.ofChange fnCanSpec)

/-- ITS FALSE NEIGHBOUR: 'it returns false'. Refute it at one input. -/
def fnCanWrong : ChangeSpec := { name := "fnCan", fn := fun _ => fun
  | [d] => { results := [.lit (.bool false)], args := [d] }
  | _ => none }
def FnCanWrongFalsely : Prop := fnCanRow.holds Try.pinned (OpenSpec.ofChange fnCanWrong)

/-- 'laws.FnExactRecGo': WHATEVER THE INPUT: true; the input reads as it did. -/
def fnExactRecGoSpec : ChangeSpec := { name := "fnExactRecGo", fn := fun _ => fun
  | [d1, d2, d3] => { results := [.lit (.bool true)], args := [d1, d2, d3] }
  | _ => none }
def fnExactRecGoRow : OpenClaim := { program := "ytdkologncoofdaa", sum := "298b5de693fc3b051f7054585c7363051484ab2feec699361110364a6507f6ae", func := "loop.example/maltrec/laws.FnExactRecGo", spec := "fnExactRecGo", unfollowed := true, recurses := true, apart := false }
def FnExactRecGoSaid : Prop := fnExactRecGoRow.holds Try.pinned (OpenSpec.ofChange fnExactRecGoSpec)

/-- ITS FALSE NEIGHBOUR: 'it returns false'. Refute it at one input. -/
def fnExactRecGoWrong : ChangeSpec := { name := "fnExactRecGo", fn := fun _ => fun
  | [d1, d2, d3] => { results := [.lit (.bool false)], args := [d1, d2, d3] }
  | _ => none }
def FnExactRecGoWrongFalsely : Prop := fnExactRecGoRow.holds Try.pinned (OpenSpec.ofChange fnExactRecGoWrong)

/-- 'laws.FnGo': WHATEVER THE INPUT: true; the input reads as it did. -/
def fnGoSpec : ChangeSpec := { name := "fnGo", fn := fun _ => fun
  | [d] => { results := [.lit (.bool true)], args := [d] }
  | _ => none }
def fnGoRow : OpenClaim := { program := "ytdkologncoofdaa", sum := "298b5de693fc3b051f7054585c7363051484ab2feec699361110364a6507f6ae", func := "loop.example/maltrec/laws.FnGo", spec := "fnGo", unfollowed := true, recurses := true, apart := false }
def FnGoSaid : Prop := fnGoRow.holds Try.pinned (OpenSpec.ofChange fnGoSpec)

/-- ITS FALSE NEIGHBOUR: 'it returns false'. Refute it at one input. -/
def fnGoWrong : ChangeSpec := { name := "fnGo", fn := fun _ => fun
  | [d] => { results := [.lit (.bool false)], args := [d] }
  | _ => none }
def FnGoWrongFalsely : Prop := fnGoRow.holds Try.pinned (OpenSpec.ofChange fnGoWrong)

/-- 'laws.FnExactRecRun': WHATEVER THE INPUT: true; the input reads as it did. -/
def fnExactRecRunSpec : ChangeSpec := { name := "fnExactRecRun", fn := fun _ => fun
  | [d1, d2] => { results := [.lit (.bool true)], args := [d1, d2] }
  | _ => none }
def fnExactRecRunRow : OpenClaim := { program := "ytdkologncoofdaa", sum := "298b5de693fc3b051f7054585c7363051484ab2feec699361110364a6507f6ae", func := "loop.example/maltrec/laws.FnExactRecRun", spec := "fnExactRecRun", unfollowed := true, recurses := true, apart := false }
def FnExactRecRunSaid : Prop := fnExactRecRunRow.holds Try.pinned (OpenSpec.ofChange fnExactRecRunSpec)

/-- ITS FALSE NEIGHBOUR: 'it returns false'. Refute it at one input. -/
def fnExactRecRunWrong : ChangeSpec := { name := "fnExactRecRun", fn := fun _ => fun
  | [d1, d2] => { results := [.lit (.bool false)], args := [d1, d2] }
  | _ => none }
def FnExactRecRunWrongFalsely : Prop := fnExactRecRunRow.holds Try.pinned (OpenSpec.ofChange fnExactRecRunWrong)

/-- 'laws.FnExactRecSlots': WHATEVER THE INPUT: true; the input reads as it did. -/
def fnExactRecSlotsSpec : ChangeSpec := { name := "fnExactRecSlots", fn := fun _ => fun
  | [d1, d2] => { results := [.lit (.bool true)], args := [d1, d2] }
  | _ => none }
def fnExactRecSlotsRow : OpenClaim := { program := "ytdkologncoofdaa", sum := "298b5de693fc3b051f7054585c7363051484ab2feec699361110364a6507f6ae", func := "loop.example/maltrec/laws.FnExactRecSlots", spec := "fnExactRecSlots", unfollowed := true, recurses := true, apart := false }
def FnExactRecSlotsSaid : Prop := fnExactRecSlotsRow.holds Try.pinned (OpenSpec.ofChange fnExactRecSlotsSpec)

/-- ITS FALSE NEIGHBOUR: 'it returns false'. Refute it at one input. -/
def fnExactRecSlotsWrong : ChangeSpec := { name := "fnExactRecSlots", fn := fun _ => fun
  | [d1, d2] => { results := [.lit (.bool false)], args := [d1, d2] }
  | _ => none }
def FnExactRecSlotsWrongFalsely : Prop := fnExactRecSlotsRow.holds Try.pinned (OpenSpec.ofChange fnExactRecSlotsWrong)

/-- 'laws.FnBound': WHATEVER THE INPUT: true; the input reads as it did. -/
def fnBoundSpec : ChangeSpec := { name := "fnBound", fn := fun _ => fun
  | [d] => { results := [.lit (.bool true)], args := [d] }
  | _ => none }
def fnBoundRow : OpenClaim := { program := "ytdkologncoofdaa", sum := "298b5de693fc3b051f7054585c7363051484ab2feec699361110364a6507f6ae", func := "loop.example/maltrec/laws.FnBound", spec := "fnBound", unfollowed := true, recurses := true, apart := false }
def FnBoundSaid : Prop := fnBoundRow.holds Try.pinned (OpenSpec.ofChange fnBoundSpec)

/-- ITS FALSE NEIGHBOUR: 'it returns false'. Refute it at one input. -/
def fnBoundWrong : ChangeSpec := { name := "fnBound", fn := fun _ => fun
  | [d] => { results := [.lit (.bool false)], args := [d] }
  | _ => none }
def FnBoundWrongFalsely : Prop := fnBoundRow.holds Try.pinned (OpenSpec.ofChange fnBoundWrong)

/- THE SECOND FORM. 'bulk': how many values and letters a reading holds, each counted each time it is reached (what is shared counts as often as it is met; a slice's spare places count too). A statement '..UptoSaid' is the law's where the arguments, and the package variables that the reading takes, are together of bulk at most 1048576: NARROWER than '..Said'. Prove '..Said' where nothing that the law and all that it calls make is longer than what came in: it says more and counts as full. Else prove '..UptoSaid'. A law counts once. -/
mutual
def uptoBulk {H : Type} : DataW H → Nat
  | .lit (.string bytes) => bytes.length + 1
  | .lit _ => 1
  | .nil => 1
  | .ptr d => uptoBulk d + 1
  | .slice elems spare => uptoBulkAll elems + uptoBulkAll spare + 1
  | .agg parts => uptoBulkAll parts + 1
  | .iface _ d => uptoBulk d + 1
  | .map entries => uptoBulkEntries entries + 1
  | .held _ => 1
def uptoBulkAll {H : Type} : List (DataW H) → Nat
  | [] => 0
  | d :: r => uptoBulk d + uptoBulkAll r
def uptoBulkEntries {H : Type} : List (Lit × DataW H) → Nat
  | [] => 0
  | x :: r => uptoBulkEntry x + uptoBulkEntries r
def uptoBulkEntry {H : Type} : Lit × DataW H → Nat
  | (.string bytes, d) => bytes.length + uptoBulk d + 1
  | (_, d) => uptoBulk d + 1
 end
def uptoSmall : (H : Type) → List (DataW H) → Bool := fun _ ds => decide (uptoBulkAll ds ≤ 1048576)
def OpenSpec.upto (s : _root_.Go.ChangeSpec) : _root_.Go.OpenSpec := { _root_.Go.OpenSpec.ofChange s with cond := some uptoSmall }

/-- 'laws.FnExactConstants', WHERE WHAT IT READS IS OF BULK AT MOST 1048576: true; the input reads as it did. -/
def fnExactConstantsUptoRow : OpenClaim := { program := "ytdkologncoofdaa", sum := "298b5de693fc3b051f7054585c7363051484ab2feec699361110364a6507f6ae", func := "loop.example/maltrec/laws.FnExactConstants", spec := "fnExactConstants", apart := false, narrowed := true }
def FnExactConstantsUptoSaid : Prop := fnExactConstantsUptoRow.holds Try.pinned (OpenSpec.upto fnExactConstantsSpec)

/-- 'laws.FnExactRecEnd', WHERE WHAT IT READS IS OF BULK AT MOST 1048576: true; the input reads as it did. -/
def fnExactRecEndUptoRow : OpenClaim := { program := "ytdkologncoofdaa", sum := "298b5de693fc3b051f7054585c7363051484ab2feec699361110364a6507f6ae", func := "loop.example/maltrec/laws.FnExactRecEnd", spec := "fnExactRecEnd", apart := false, narrowed := true }
def FnExactRecEndUptoSaid : Prop := fnExactRecEndUptoRow.holds Try.pinned (OpenSpec.upto fnExactRecEndSpec)

/-- 'laws.FnTop', WHERE WHAT IT READS IS OF BULK AT MOST 1048576: true; the input reads as it did. -/
def fnTopUptoRow : OpenClaim := { program := "ytdkologncoofdaa", sum := "298b5de693fc3b051f7054585c7363051484ab2feec699361110364a6507f6ae", func := "loop.example/maltrec/laws.FnTop", spec := "fnTop", unfollowed := true, recurses := true, apart := false, narrowed := true }
def FnTopUptoSaid : Prop := fnTopUptoRow.holds Try.pinned (OpenSpec.upto fnTopSpec)

/-- 'laws.FnExactRecPhaseOk', WHERE WHAT IT READS IS OF BULK AT MOST 1048576: true; the input reads as it did. -/
def fnExactRecPhaseOkUptoRow : OpenClaim := { program := "ytdkologncoofdaa", sum := "298b5de693fc3b051f7054585c7363051484ab2feec699361110364a6507f6ae", func := "loop.example/maltrec/laws.FnExactRecPhaseOk", spec := "fnExactRecPhaseOk", apart := false, narrowed := true }
def FnExactRecPhaseOkUptoSaid : Prop := fnExactRecPhaseOkUptoRow.holds Try.pinned (OpenSpec.upto fnExactRecPhaseOkSpec)

/-- 'laws.FnPhase', WHERE WHAT IT READS IS OF BULK AT MOST 1048576: true; the input reads as it did. -/
def fnPhaseUptoRow : OpenClaim := { program := "ytdkologncoofdaa", sum := "298b5de693fc3b051f7054585c7363051484ab2feec699361110364a6507f6ae", func := "loop.example/maltrec/laws.FnPhase", spec := "fnPhase", unfollowed := true, recurses := true, apart := false, narrowed := true }
def FnPhaseUptoSaid : Prop := fnPhaseUptoRow.holds Try.pinned (OpenSpec.upto fnPhaseSpec)

/-- 'laws.FnExactRecOk', WHERE WHAT IT READS IS OF BULK AT MOST 1048576: true; the input reads as it did. -/
def fnExactRecOkUptoRow : OpenClaim := { program := "ytdkologncoofdaa", sum := "298b5de693fc3b051f7054585c7363051484ab2feec699361110364a6507f6ae", func := "loop.example/maltrec/laws.FnExactRecOk", spec := "fnExactRecOk", unfollowed := true, recurses := true, apart := false, narrowed := true }
def FnExactRecOkUptoSaid : Prop := fnExactRecOkUptoRow.holds Try.pinned (OpenSpec.upto fnExactRecOkSpec)

/-- 'laws.FnExactRecBound', WHERE WHAT IT READS IS OF BULK AT MOST 1048576: true; the input reads as it did. -/
def fnExactRecBoundUptoRow : OpenClaim := { program := "ytdkologncoofdaa", sum := "298b5de693fc3b051f7054585c7363051484ab2feec699361110364a6507f6ae", func := "loop.example/maltrec/laws.FnExactRecBound", spec := "fnExactRecBound", unfollowed := true, recurses := true, apart := false, narrowed := true }
def FnExactRecBoundUptoSaid : Prop := fnExactRecBoundUptoRow.holds Try.pinned (OpenSpec.upto fnExactRecBoundSpec)

/-- 'laws.FnExactRecCan', WHERE WHAT IT READS IS OF BULK AT MOST 1048576: true; the input reads as it did. -/
def fnExactRecCanUptoRow : OpenClaim := { program := "ytdkologncoofdaa", sum := "298b5de693fc3b051f7054585c7363051484ab2feec699361110364a6507f6ae", func := "loop.example/maltrec/laws.FnExactRecCan", spec := "fnExactRecCan", unfollowed := true, recurses := true, apart := false, narrowed := true }
def FnExactRecCanUptoSaid : Prop := fnExactRecCanUptoRow.holds Try.pinned (OpenSpec.upto fnExactRecCanSpec)

/-- 'laws.FnExactRecBegin', WHERE WHAT IT READS IS OF BULK AT MOST 1048576: true; the input reads as it did. -/
def fnExactRecBeginUptoRow : OpenClaim := { program := "ytdkologncoofdaa", sum := "298b5de693fc3b051f7054585c7363051484ab2feec699361110364a6507f6ae", func := "loop.example/maltrec/laws.FnExactRecBegin", spec := "fnExactRecBegin", unfollowed := true, recurses := true, apart := false, narrowed := true }
def FnExactRecBeginUptoSaid : Prop := fnExactRecBeginUptoRow.holds Try.pinned (OpenSpec.upto fnExactRecBeginSpec)

/-- 'laws.FnCan', WHERE WHAT IT READS IS OF BULK AT MOST 1048576: true; the input reads as it did. -/
def fnCanUptoRow : OpenClaim := { program := "ytdkologncoofdaa", sum := "298b5de693fc3b051f7054585c7363051484ab2feec699361110364a6507f6ae", func := "loop.example/maltrec/laws.FnCan", spec := "fnCan", unfollowed := true, recurses := true, apart := false, narrowed := true }
def FnCanUptoSaid : Prop := fnCanUptoRow.holds Try.pinned (OpenSpec.upto fnCanSpec)

/-- 'laws.FnExactRecGo', WHERE WHAT IT READS IS OF BULK AT MOST 1048576: true; the input reads as it did. -/
def fnExactRecGoUptoRow : OpenClaim := { program := "ytdkologncoofdaa", sum := "298b5de693fc3b051f7054585c7363051484ab2feec699361110364a6507f6ae", func := "loop.example/maltrec/laws.FnExactRecGo", spec := "fnExactRecGo", unfollowed := true, recurses := true, apart := false, narrowed := true }
def FnExactRecGoUptoSaid : Prop := fnExactRecGoUptoRow.holds Try.pinned (OpenSpec.upto fnExactRecGoSpec)

/-- 'laws.FnGo', WHERE WHAT IT READS IS OF BULK AT MOST 1048576: true; the input reads as it did. -/
def fnGoUptoRow : OpenClaim := { program := "ytdkologncoofdaa", sum := "298b5de693fc3b051f7054585c7363051484ab2feec699361110364a6507f6ae", func := "loop.example/maltrec/laws.FnGo", spec := "fnGo", unfollowed := true, recurses := true, apart := false, narrowed := true }
def FnGoUptoSaid : Prop := fnGoUptoRow.holds Try.pinned (OpenSpec.upto fnGoSpec)

/-- 'laws.FnExactRecRun', WHERE WHAT IT READS IS OF BULK AT MOST 1048576: true; the input reads as it did. -/
def fnExactRecRunUptoRow : OpenClaim := { program := "ytdkologncoofdaa", sum := "298b5de693fc3b051f7054585c7363051484ab2feec699361110364a6507f6ae", func := "loop.example/maltrec/laws.FnExactRecRun", spec := "fnExactRecRun", unfollowed := true, recurses := true, apart := false, narrowed := true }
def FnExactRecRunUptoSaid : Prop := fnExactRecRunUptoRow.holds Try.pinned (OpenSpec.upto fnExactRecRunSpec)

/-- 'laws.FnExactRecSlots', WHERE WHAT IT READS IS OF BULK AT MOST 1048576: true; the input reads as it did. -/
def fnExactRecSlotsUptoRow : OpenClaim := { program := "ytdkologncoofdaa", sum := "298b5de693fc3b051f7054585c7363051484ab2feec699361110364a6507f6ae", func := "loop.example/maltrec/laws.FnExactRecSlots", spec := "fnExactRecSlots", unfollowed := true, recurses := true, apart := false, narrowed := true }
def FnExactRecSlotsUptoSaid : Prop := fnExactRecSlotsUptoRow.holds Try.pinned (OpenSpec.upto fnExactRecSlotsSpec)

/-- 'laws.FnBound', WHERE WHAT IT READS IS OF BULK AT MOST 1048576: true; the input reads as it did. -/
def fnBoundUptoRow : OpenClaim := { program := "ytdkologncoofdaa", sum := "298b5de693fc3b051f7054585c7363051484ab2feec699361110364a6507f6ae", func := "loop.example/maltrec/laws.FnBound", spec := "fnBound", unfollowed := true, recurses := true, apart := false, narrowed := true }
def FnBoundUptoSaid : Prop := fnBoundUptoRow.holds Try.pinned (OpenSpec.upto fnBoundSpec)

end Rows
end Go.Proofs.Ytdkologncoofdaa
