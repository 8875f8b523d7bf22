/- Part 2 of the texts that the law FnExactRecRun reaches: contracts of the functions and plain lemmas. -/
import Derived.Test.YtdkologncoofdaaCFnExactRecRun1
import Derived.Test.YtdkologncoofdaaProg
import Derived.Below
import Derived.Deep.Draws
import Derived.Deep.AppendLies
import Derived.Maps.AppendAt
import Derived.OwnWalk
import Derived.Laws.BytesArg
import Derived.Laws.MakeOwn
import Derived.Laws.OwnMore
import Derived.Deep.OwnRows
import Derived.Tactics
import Derived.Lib.ConvBytes
import Derived.Laws.Slices
import Derived.WalkKit
import Derived.KernelRfl
import Derived.RowKit3
import Derived.Deep.LoopGhost
import Derived.Deep.QuietTactic
import Derived.BigQuiet
import Derived.WideLaws
import Derived.Deep.DeepCutAuto
import Derived.Deep.CutBlock
import Derived.Deep.RegionHeld3
import Derived.Laws.Rows
import Derived.Lib.AppendStr
import Derived.ArgAppend
import Derived.Laws.IdiomCopy
import Derived.OrdersHeld
import Derived.Laws.BitsLemmas
import Derived.RowKit
import Derived.Test.YtdkologncoofdaaRows
import Derived.ProofKit
import Derived.OpenShut
import Derived.ShutString
import Derived.ChangeOld
import Derived.SizedLaws
import Derived.Deep.Slices
-- Px0
namespace Go.Proofs.Ytdkologncoofdaa.P
open Go.RowKit Go.Proofs.YtdkologncoofdaaW.PrintWords Go.Proofs.YtdkologncoofdaaW.PrintLast Go.Proofs.YtdkologncoofdaaW.PrintMore
attribute [local go_sem] max2_int min2_int max_two min_two max_three min_three max_four min_four   -- for this text's walks alone
set_option linter.unusedVariables false
set_option linter.unusedSimpArgs false



def errW : Option Int → Value
  | none => .nilIface
  | some c => .iface 0 (.int .i64 c)
theorem errW_none : errW none = .nilIface := rfl
theorem errW_some (c : Int) : errW (some c) = .iface 0 (.int .i64 c) := rfl

theorem info3 : (Try.prog.info? 3).map (fun i => (i.zero, i.size, i.bytes)) = some (some (.int .i64 0), 1, 8) := by kernel_rfl
theorem info5 : (Try.prog.info? 5).map (fun i => (i.zero, i.size, i.bytes)) = some (some (.int .u8 0), 1, 1) := by kernel_rfl
theorem info9 : (Try.prog.info? 9).map (fun i => (i.zero, i.size, i.bytes)) = some (some (.string ⟨#[]⟩), 1, 16) := by kernel_rfl
theorem info39 : (Try.prog.info? 39).map (fun i => (i.zero, i.size, i.bytes)) = some (some (.agg #[(.string ⟨#[]⟩), (.int .i64 0), (.string ⟨#[]⟩), (.string ⟨#[]⟩), (.int .i64 0), (.int .i64 0), (.string ⟨#[]⟩), (.string ⟨#[]⟩)]), 8, 104) := by kernel_rfl
theorem info43 : (Try.prog.info? 43).map (fun i => (i.zero, i.size, i.bytes)) = some (some (.agg #[(.int .i64 0), (.bool false)]), 2, 16) := by kernel_rfl
-- the values' own types
/-! #### struct type 39 -/
structure S39 where
  f0 : ByteArray
  f1 : Int
  f2 : ByteArray
  f3 : ByteArray
  f4 : Int
  f5 : Int
  f6 : ByteArray
  f7 : ByteArray
def z39 : S39 := ⟨(⟨#[]⟩ : ByteArray), (0 : Int), (⟨#[]⟩ : ByteArray), (⟨#[]⟩ : ByteArray), (0 : Int), (0 : Int), (⟨#[]⟩ : ByteArray), (⟨#[]⟩ : ByteArray)⟩
def k39 : Kd S39 := Kd.iso (Kd.pair Kd.string (Kd.pair (Kd.int .i64) (Kd.pair Kd.string (Kd.pair Kd.string (Kd.pair (Kd.int .i64) (Kd.pair (Kd.int .i64) (Kd.pair Kd.string Kd.string))))))) (fun x : S39 => (x.f0, x.f1, x.f2, x.f3, x.f4, x.f5, x.f6, x.f7))
theorem k39_open {w : World} {x : S39} {cs : List Value} (h : k39.K w x cs) : cs = [.string x.f0, .int .i64 x.f1, .string x.f2, .string x.f3, .int .i64 x.f4, .int .i64 x.f5, .string x.f6, .string x.f7] := by
  obtain ⟨_, _, rfl, rfl, ⟨_, _, rfl, rfl, ⟨_, _, rfl, rfl, ⟨_, _, rfl, rfl, ⟨_, _, rfl, rfl, ⟨_, _, rfl, rfl, ⟨_, _, rfl, rfl, rfl⟩⟩⟩⟩⟩⟩⟩ := h
  exact rfl
theorem k39_openM {w : World} {base : Nat} {ok : Nat → Prop} {x : S39} {cs : List Value} (h : k39.M w base ok x cs) : cs = [.string x.f0, .int .i64 x.f1, .string x.f2, .string x.f3, .int .i64 x.f4, .int .i64 x.f5, .string x.f6, .string x.f7] := by
  obtain ⟨_, _, rfl, rfl, ⟨_, _, rfl, rfl, ⟨_, _, rfl, rfl, ⟨_, _, rfl, rfl, ⟨_, _, rfl, rfl, ⟨_, _, rfl, rfl, ⟨_, _, rfl, rfl, rfl⟩⟩⟩⟩⟩⟩⟩ := h
  exact rfl
theorem k39_mk (w : World) (x : S39)  : k39.K w x [.string x.f0, .int .i64 x.f1, .string x.f2, .string x.f3, .int .i64 x.f4, .int .i64 x.f5, .string x.f6, .string x.f7] := ⟨[.string x.f0], [.int .i64 x.f1, .string x.f2, .string x.f3, .int .i64 x.f4, .int .i64 x.f5, .string x.f6, .string x.f7], rfl, rfl, ⟨[.int .i64 x.f1], [.string x.f2, .string x.f3, .int .i64 x.f4, .int .i64 x.f5, .string x.f6, .string x.f7], rfl, rfl, ⟨[.string x.f2], [.string x.f3, .int .i64 x.f4, .int .i64 x.f5, .string x.f6, .string x.f7], rfl, rfl, ⟨[.string x.f3], [.int .i64 x.f4, .int .i64 x.f5, .string x.f6, .string x.f7], rfl, rfl, ⟨[.int .i64 x.f4], [.int .i64 x.f5, .string x.f6, .string x.f7], rfl, rfl, ⟨[.int .i64 x.f5], [.string x.f6, .string x.f7], rfl, rfl, ⟨[.string x.f6], [.string x.f7], rfl, rfl, rfl⟩⟩⟩⟩⟩⟩⟩
theorem k39_mkM (w : World) (base : Nat) (ok : Nat → Prop) (x : S39)  : k39.M w base ok x [.string x.f0, .int .i64 x.f1, .string x.f2, .string x.f3, .int .i64 x.f4, .int .i64 x.f5, .string x.f6, .string x.f7] := ⟨[.string x.f0], [.int .i64 x.f1, .string x.f2, .string x.f3, .int .i64 x.f4, .int .i64 x.f5, .string x.f6, .string x.f7], rfl, rfl, ⟨[.int .i64 x.f1], [.string x.f2, .string x.f3, .int .i64 x.f4, .int .i64 x.f5, .string x.f6, .string x.f7], rfl, rfl, ⟨[.string x.f2], [.string x.f3, .int .i64 x.f4, .int .i64 x.f5, .string x.f6, .string x.f7], rfl, rfl, ⟨[.string x.f3], [.int .i64 x.f4, .int .i64 x.f5, .string x.f6, .string x.f7], rfl, rfl, ⟨[.int .i64 x.f4], [.int .i64 x.f5, .string x.f6, .string x.f7], rfl, rfl, ⟨[.int .i64 x.f5], [.string x.f6, .string x.f7], rfl, rfl, ⟨[.string x.f6], [.string x.f7], rfl, rfl, rfl⟩⟩⟩⟩⟩⟩⟩
theorem k39_mkF (W : World) (ok : Nat → Prop) (x : S39) : Kd.FK k39 W ok x [.string x.f0, .int .i64 x.f1, .string x.f2, .string x.f3, .int .i64 x.f4, .int .i64 x.f5, .string x.f6, .string x.f7] := fun W2 _ => k39_mk W2 x
def rd_T39 (xs : List S39) (i : Int) : S39 := xs.getD i.toNat z39
theorem at_T39 {w : World} {A : Option Addr} {n : Nat} {xs : List S39} (h : Kd.C k39 w A n xs) (i : Int) (h0 : 0 ≤ i) (h1 : i < n) : ∃ ad , A = some ad ∧ w.cell? (ad.add (i.toNat * 8)) = some (.string (rd_T39 xs i).f0) ∧ w.cell? ⟨(ad.add (i.toNat * 8)).block, (ad.add (i.toNat * 8)).off + 1, none⟩ = some (.int .i64 (rd_T39 xs i).f1) ∧ w.cell? ⟨(ad.add (i.toNat * 8)).block, (ad.add (i.toNat * 8)).off + 2, none⟩ = some (.string (rd_T39 xs i).f2) ∧ w.cell? ⟨(ad.add (i.toNat * 8)).block, (ad.add (i.toNat * 8)).off + 3, none⟩ = some (.string (rd_T39 xs i).f3) ∧ w.cell? ⟨(ad.add (i.toNat * 8)).block, (ad.add (i.toNat * 8)).off + 4, none⟩ = some (.int .i64 (rd_T39 xs i).f4) ∧ w.cell? ⟨(ad.add (i.toNat * 8)).block, (ad.add (i.toNat * 8)).off + 5, none⟩ = some (.int .i64 (rd_T39 xs i).f5) ∧ w.cell? ⟨(ad.add (i.toNat * 8)).block, (ad.add (i.toNat * 8)).off + 6, none⟩ = some (.string (rd_T39 xs i).f6) ∧ w.cell? ⟨(ad.add (i.toNat * 8)).block, (ad.add (i.toNat * 8)).off + 7, none⟩ = some (.string (rd_T39 xs i).f7) := by
  obtain ⟨ad, c, e, _, hK, hc0⟩ := Kd.C_get h z39 i h0 h1
  have hc : ∀ j u, c[j]? = some u → w.cell? (ad.add (i.toNat * 8 + j)) = some u := hc0
  obtain rfl := k39_open hK
  exact ⟨ad, e, hc 0 _ rfl, by rw [← add_field _ _ 1 (by omega)]; exact hc 1 _ rfl, by rw [← add_field _ _ 2 (by omega)]; exact hc 2 _ rfl, by rw [← add_field _ _ 3 (by omega)]; exact hc 3 _ rfl, by rw [← add_field _ _ 4 (by omega)]; exact hc 4 _ rfl, by rw [← add_field _ _ 5 (by omega)]; exact hc 5 _ rfl, by rw [← add_field _ _ 6 (by omega)]; exact hc 6 _ rfl, by rw [← add_field _ _ 7 (by omega)]; exact hc 7 _ rfl⟩

def rd_L4 (xs : List (List S39)) (i : Int) : (List S39) := xs.getD i.toNat ([] : List S39)
theorem at_L4 {w : World} {A : Option Addr} {n : Nat} {xs : List (List S39)} (h : Kd.C (Kd.slice 39 k39) w A n xs) (i : Int) (h0 : 0 ≤ i) (h1 : i < n) : ∃ ad A0 c0, A = some ad ∧ w.cell? (ad.add i.toNat) = some (.slice A0 (rd_L4 xs i).length c0) ∧ (rd_L4 xs i).length ≤ c0 ∧ k39.C w A0 (rd_L4 xs i).length (rd_L4 xs i) := by
  obtain ⟨ad, c, e, _, hK, hc0⟩ := Kd.C_get h ([] : List S39) i h0 h1
  have hc : ∀ j u, c[j]? = some u → w.cell? (ad.add (i.toNat * 1 + j)) = some u := hc0
  obtain ⟨A0, c0, rfl, l0, g0⟩ := hK
  exact ⟨ad, A0, c0, e, by have hq := hc 0 _ rfl; rwa [Nat.mul_one, Nat.add_zero] at hq, l0, g0⟩

/-! #### struct type 48 -/
structure S48 where
  f0 : ByteArray
  f1 : Int
  f2 : ByteArray
  f3 : ByteArray
  f4 : Int
  f5 : Int
  f6 : ByteArray
  f7 : ByteArray
def z48 : S48 := ⟨(⟨#[]⟩ : ByteArray), (0 : Int), (⟨#[]⟩ : ByteArray), (⟨#[]⟩ : ByteArray), (0 : Int), (0 : Int), (⟨#[]⟩ : ByteArray), (⟨#[]⟩ : ByteArray)⟩
def k48 : Kd S48 := Kd.iso (Kd.pair Kd.string (Kd.pair (Kd.int .i64) (Kd.pair Kd.string (Kd.pair Kd.string (Kd.pair (Kd.int .i64) (Kd.pair (Kd.int .i64) (Kd.pair Kd.string Kd.string))))))) (fun x : S48 => (x.f0, x.f1, x.f2, x.f3, x.f4, x.f5, x.f6, x.f7))
theorem k48_open {w : World} {x : S48} {cs : List Value} (h : k48.K w x cs) : cs = [.string x.f0, .int .i64 x.f1, .string x.f2, .string x.f3, .int .i64 x.f4, .int .i64 x.f5, .string x.f6, .string x.f7] := by
  obtain ⟨_, _, rfl, rfl, ⟨_, _, rfl, rfl, ⟨_, _, rfl, rfl, ⟨_, _, rfl, rfl, ⟨_, _, rfl, rfl, ⟨_, _, rfl, rfl, ⟨_, _, rfl, rfl, rfl⟩⟩⟩⟩⟩⟩⟩ := h
  exact rfl
theorem k48_openM {w : World} {base : Nat} {ok : Nat → Prop} {x : S48} {cs : List Value} (h : k48.M w base ok x cs) : cs = [.string x.f0, .int .i64 x.f1, .string x.f2, .string x.f3, .int .i64 x.f4, .int .i64 x.f5, .string x.f6, .string x.f7] := by
  obtain ⟨_, _, rfl, rfl, ⟨_, _, rfl, rfl, ⟨_, _, rfl, rfl, ⟨_, _, rfl, rfl, ⟨_, _, rfl, rfl, ⟨_, _, rfl, rfl, ⟨_, _, rfl, rfl, rfl⟩⟩⟩⟩⟩⟩⟩ := h
  exact rfl
theorem k48_mk (w : World) (x : S48)  : k48.K w x [.string x.f0, .int .i64 x.f1, .string x.f2, .string x.f3, .int .i64 x.f4, .int .i64 x.f5, .string x.f6, .string x.f7] := ⟨[.string x.f0], [.int .i64 x.f1, .string x.f2, .string x.f3, .int .i64 x.f4, .int .i64 x.f5, .string x.f6, .string x.f7], rfl, rfl, ⟨[.int .i64 x.f1], [.string x.f2, .string x.f3, .int .i64 x.f4, .int .i64 x.f5, .string x.f6, .string x.f7], rfl, rfl, ⟨[.string x.f2], [.string x.f3, .int .i64 x.f4, .int .i64 x.f5, .string x.f6, .string x.f7], rfl, rfl, ⟨[.string x.f3], [.int .i64 x.f4, .int .i64 x.f5, .string x.f6, .string x.f7], rfl, rfl, ⟨[.int .i64 x.f4], [.int .i64 x.f5, .string x.f6, .string x.f7], rfl, rfl, ⟨[.int .i64 x.f5], [.string x.f6, .string x.f7], rfl, rfl, ⟨[.string x.f6], [.string x.f7], rfl, rfl, rfl⟩⟩⟩⟩⟩⟩⟩
theorem k48_mkM (w : World) (base : Nat) (ok : Nat → Prop) (x : S48)  : k48.M w base ok x [.string x.f0, .int .i64 x.f1, .string x.f2, .string x.f3, .int .i64 x.f4, .int .i64 x.f5, .string x.f6, .string x.f7] := ⟨[.string x.f0], [.int .i64 x.f1, .string x.f2, .string x.f3, .int .i64 x.f4, .int .i64 x.f5, .string x.f6, .string x.f7], rfl, rfl, ⟨[.int .i64 x.f1], [.string x.f2, .string x.f3, .int .i64 x.f4, .int .i64 x.f5, .string x.f6, .string x.f7], rfl, rfl, ⟨[.string x.f2], [.string x.f3, .int .i64 x.f4, .int .i64 x.f5, .string x.f6, .string x.f7], rfl, rfl, ⟨[.string x.f3], [.int .i64 x.f4, .int .i64 x.f5, .string x.f6, .string x.f7], rfl, rfl, ⟨[.int .i64 x.f4], [.int .i64 x.f5, .string x.f6, .string x.f7], rfl, rfl, ⟨[.int .i64 x.f5], [.string x.f6, .string x.f7], rfl, rfl, ⟨[.string x.f6], [.string x.f7], rfl, rfl, rfl⟩⟩⟩⟩⟩⟩⟩
theorem k48_mkF (W : World) (ok : Nat → Prop) (x : S48) : Kd.FK k48 W ok x [.string x.f0, .int .i64 x.f1, .string x.f2, .string x.f3, .int .i64 x.f4, .int .i64 x.f5, .string x.f6, .string x.f7] := fun W2 _ => k48_mk W2 x
def rd_T48 (xs : List S48) (i : Int) : S48 := xs.getD i.toNat z48
theorem at_T48 {w : World} {A : Option Addr} {n : Nat} {xs : List S48} (h : Kd.C k48 w A n xs) (i : Int) (h0 : 0 ≤ i) (h1 : i < n) : ∃ ad , A = some ad ∧ w.cell? (ad.add (i.toNat * 8)) = some (.string (rd_T48 xs i).f0) ∧ w.cell? ⟨(ad.add (i.toNat * 8)).block, (ad.add (i.toNat * 8)).off + 1, none⟩ = some (.int .i64 (rd_T48 xs i).f1) ∧ w.cell? ⟨(ad.add (i.toNat * 8)).block, (ad.add (i.toNat * 8)).off + 2, none⟩ = some (.string (rd_T48 xs i).f2) ∧ w.cell? ⟨(ad.add (i.toNat * 8)).block, (ad.add (i.toNat * 8)).off + 3, none⟩ = some (.string (rd_T48 xs i).f3) ∧ w.cell? ⟨(ad.add (i.toNat * 8)).block, (ad.add (i.toNat * 8)).off + 4, none⟩ = some (.int .i64 (rd_T48 xs i).f4) ∧ w.cell? ⟨(ad.add (i.toNat * 8)).block, (ad.add (i.toNat * 8)).off + 5, none⟩ = some (.int .i64 (rd_T48 xs i).f5) ∧ w.cell? ⟨(ad.add (i.toNat * 8)).block, (ad.add (i.toNat * 8)).off + 6, none⟩ = some (.string (rd_T48 xs i).f6) ∧ w.cell? ⟨(ad.add (i.toNat * 8)).block, (ad.add (i.toNat * 8)).off + 7, none⟩ = some (.string (rd_T48 xs i).f7) := by
  obtain ⟨ad, c, e, _, hK, hc0⟩ := Kd.C_get h z48 i h0 h1
  have hc : ∀ j u, c[j]? = some u → w.cell? (ad.add (i.toNat * 8 + j)) = some u := hc0
  obtain rfl := k48_open hK
  exact ⟨ad, e, hc 0 _ rfl, by rw [← add_field _ _ 1 (by omega)]; exact hc 1 _ rfl, by rw [← add_field _ _ 2 (by omega)]; exact hc 2 _ rfl, by rw [← add_field _ _ 3 (by omega)]; exact hc 3 _ rfl, by rw [← add_field _ _ 4 (by omega)]; exact hc 4 _ rfl, by rw [← add_field _ _ 5 (by omega)]; exact hc 5 _ rfl, by rw [← add_field _ _ 6 (by omega)]; exact hc 6 _ rfl, by rw [← add_field _ _ 7 (by omega)]; exact hc 7 _ rfl⟩

/-! #### struct type 43 -/
structure S43 where
  f0 : Int
  f1 : Bool
def z43 : S43 := ⟨(0 : Int), false⟩
def k43 : Kd S43 := Kd.iso (Kd.pair (Kd.int .i64) Kd.bool) (fun x : S43 => (x.f0, x.f1))
theorem k43_open {w : World} {x : S43} {cs : List Value} (h : k43.K w x cs) : cs = [.int .i64 x.f0, .bool x.f1] := by
  obtain ⟨_, _, rfl, rfl, rfl⟩ := h
  exact rfl
theorem k43_openM {w : World} {base : Nat} {ok : Nat → Prop} {x : S43} {cs : List Value} (h : k43.M w base ok x cs) : cs = [.int .i64 x.f0, .bool x.f1] := by
  obtain ⟨_, _, rfl, rfl, rfl⟩ := h
  exact rfl
theorem k43_mk (w : World) (x : S43)  : k43.K w x [.int .i64 x.f0, .bool x.f1] := ⟨[.int .i64 x.f0], [.bool x.f1], rfl, rfl, rfl⟩
theorem k43_mkM (w : World) (base : Nat) (ok : Nat → Prop) (x : S43)  : k43.M w base ok x [.int .i64 x.f0, .bool x.f1] := ⟨[.int .i64 x.f0], [.bool x.f1], rfl, rfl, rfl⟩
theorem k43_mkF (W : World) (ok : Nat → Prop) (x : S43) : Kd.FK k43 W ok x [.int .i64 x.f0, .bool x.f1] := fun W2 _ => k43_mk W2 x
def rd_T43 (xs : List S43) (i : Int) : S43 := xs.getD i.toNat z43
theorem at_T43 {w : World} {A : Option Addr} {n : Nat} {xs : List S43} (h : Kd.C k43 w A n xs) (i : Int) (h0 : 0 ≤ i) (h1 : i < n) : ∃ ad , A = some ad ∧ w.cell? (ad.add (i.toNat * 2)) = some (.int .i64 (rd_T43 xs i).f0) ∧ w.cell? ⟨(ad.add (i.toNat * 2)).block, (ad.add (i.toNat * 2)).off + 1, none⟩ = some (.bool (rd_T43 xs i).f1) := by
  obtain ⟨ad, c, e, _, hK, hc0⟩ := Kd.C_get h z43 i h0 h1
  have hc : ∀ j u, c[j]? = some u → w.cell? (ad.add (i.toNat * 2 + j)) = some u := hc0
  obtain rfl := k43_open hK
  exact ⟨ad, e, hc 0 _ rfl, by rw [← add_field _ _ 1 (by omega)]; exact hc 1 _ rfl⟩

/-! #### struct type 66 -/
structure S66 where
  f0 : Int
  f1 : Bool
def z66 : S66 := ⟨(0 : Int), false⟩
def k66 : Kd S66 := Kd.iso (Kd.pair (Kd.int .i64) Kd.bool) (fun x : S66 => (x.f0, x.f1))
theorem k66_open {w : World} {x : S66} {cs : List Value} (h : k66.K w x cs) : cs = [.int .i64 x.f0, .bool x.f1] := by
  obtain ⟨_, _, rfl, rfl, rfl⟩ := h
  exact rfl
theorem k66_openM {w : World} {base : Nat} {ok : Nat → Prop} {x : S66} {cs : List Value} (h : k66.M w base ok x cs) : cs = [.int .i64 x.f0, .bool x.f1] := by
  obtain ⟨_, _, rfl, rfl, rfl⟩ := h
  exact rfl
theorem k66_mk (w : World) (x : S66)  : k66.K w x [.int .i64 x.f0, .bool x.f1] := ⟨[.int .i64 x.f0], [.bool x.f1], rfl, rfl, rfl⟩
theorem k66_mkM (w : World) (base : Nat) (ok : Nat → Prop) (x : S66)  : k66.M w base ok x [.int .i64 x.f0, .bool x.f1] := ⟨[.int .i64 x.f0], [.bool x.f1], rfl, rfl, rfl⟩
theorem k66_mkF (W : World) (ok : Nat → Prop) (x : S66) : Kd.FK k66 W ok x [.int .i64 x.f0, .bool x.f1] := fun W2 _ => k66_mk W2 x
def rd_T66 (xs : List S66) (i : Int) : S66 := xs.getD i.toNat z66
theorem at_T66 {w : World} {A : Option Addr} {n : Nat} {xs : List S66} (h : Kd.C k66 w A n xs) (i : Int) (h0 : 0 ≤ i) (h1 : i < n) : ∃ ad , A = some ad ∧ w.cell? (ad.add (i.toNat * 2)) = some (.int .i64 (rd_T66 xs i).f0) ∧ w.cell? ⟨(ad.add (i.toNat * 2)).block, (ad.add (i.toNat * 2)).off + 1, none⟩ = some (.bool (rd_T66 xs i).f1) := by
  obtain ⟨ad, c, e, _, hK, hc0⟩ := Kd.C_get h z66 i h0 h1
  have hc : ∀ j u, c[j]? = some u → w.cell? (ad.add (i.toNat * 2 + j)) = some u := hc0
  obtain rfl := k66_open hK
  exact ⟨ad, e, hc 0 _ rfl, by rw [← add_field _ _ 1 (by omega)]; exact hc 1 _ rfl⟩

def rd_L9 (xs : List (List ByteArray)) (i : Int) : (List ByteArray) := xs.getD i.toNat ([] : List ByteArray)
theorem at_L9 {w : World} {A : Option Addr} {n : Nat} {xs : List (List ByteArray)} (h : Kd.C (Kd.slice 9 Kd.string) w A n xs) (i : Int) (h0 : 0 ≤ i) (h1 : i < n) : ∃ ad A0 c0, A = some ad ∧ w.cell? (ad.add i.toNat) = some (.slice A0 (rd_L9 xs i).length c0) ∧ (rd_L9 xs i).length ≤ c0 ∧ Kd.string.C w A0 (rd_L9 xs i).length (rd_L9 xs i) := by
  obtain ⟨ad, c, e, _, hK, hc0⟩ := Kd.C_get h ([] : List ByteArray) i h0 h1
  have hc : ∀ j u, c[j]? = some u → w.cell? (ad.add (i.toNat * 1 + j)) = some u := hc0
  obtain ⟨A0, c0, rfl, l0, g0⟩ := hK
  exact ⟨ad, A0, c0, e, by have hq := hc 0 _ rfl; rwa [Nat.mul_one, Nat.add_zero] at hq, l0, g0⟩

end Go.Proofs.Ytdkologncoofdaa.P
-- Short
namespace Go.Proofs.Ytdkologncoofdaa.P
open Go.RowKit Go.Proofs.YtdkologncoofdaaW.PrintWords Go.Proofs.YtdkologncoofdaaW.PrintLast Go.Proofs.YtdkologncoofdaaW.PrintMore
/-! Short words for the phrases that printed walks repeat. -/
theorem bx {P Q : Prop} (h : Q) (f : Q → P := by intro h; (with_reducible repeat (first | refine blk_drewN ?_ _ | refine blk_drew ?_ | refine blk_alloc ?_ _)); exact h) : P := f h
theorem rx {P Q : Prop} (h : Q) (f : Q → P := by intro h; (with_reducible repeat (first | apply Kd.R_alloc | apply Kd.R_drewN | apply Kd.R_drew)); exact h) : P := f h
theorem cx {P Q : Prop} (h : Q) (f : Q → P := by intro h; repeat (first | exact h | (with_reducible refine Kd.C_alloc ?_ _) | (with_reducible refine Kd.C_drewN ?_ _) | (with_reducible refine Kd.C_drew ?_))) : P := f h
theorem bw {P Q : Prop} (h : Q) (f : Q → P := by intro h; repeat (first | (with_reducible first | exact h | apply below_alloc | apply pw_below_drewN | apply below_drew1 | refine below_set ?_ (Aside0.out (by assumption))) | exact h)) : P := f h
theorem hbw {P Q : Prop} (h : Aside0 Q) (f : Q → P := by intro h; repeat (first | (with_reducible first | exact h | apply below_alloc | apply pw_below_drewN | apply below_drew1 | refine below_set ?_ (Aside0.out (by assumption))) | exact h)) : Aside0 P := ⟨f h.out⟩
theorem up {w w' w1 : World} {g : Nat} {o : Obj} (h : Aside0 (w.heap[g]? = some o)) (hb : Below w'.heap.size w' w1) (f : w.heap[g]? = some o → w'.heap[g]? = some o := by intro h; (with_reducible repeat (first | refine blk_drewN ?_ _ | refine blk_drew ?_ | refine blk_alloc ?_ _)); exact h) : Aside0 (w1.heap[g]? = some o) := ⟨blk_below (f h.out) hb⟩
theorem bk {w w' : World} {g : Nat} {o : Obj} (h : Aside0 (w.heap[g]? = some o)) (f : w.heap[g]? = some o → w'.heap[g]? = some o := by intro h; (with_reducible repeat (first | refine blk_drewN ?_ _ | refine blk_drew ?_ | refine blk_alloc ?_ _)); exact h) : Aside0 (w'.heap[g]? = some o) := ⟨f h.out⟩
theorem bs {w W W' w2 : World} (h : Aside0 (Below w.heap.size w W)) (hb : Below W'.heap.size W' w2) (f : Below w.heap.size w W → Below w.heap.size w W' := by intro h; repeat (first | (with_reducible first | exact h | apply below_alloc | apply pw_below_drewN | apply below_drew1 | refine below_set ?_ (Aside0.out (by assumption))) | exact h)) : Aside0 (Below w.heap.size w w2) := ⟨below_step (f h.out) hb⟩
theorem mxp {P : Prop} (h : P := by (try simp only [List.map_toArray, List.map_cons, List.map_nil]); first | done | rfl | (simp only [List.length_drop, List.length_take]; rfl)) : P := h
theorem exq {P : Prop} (h : P := by first | rfl | (simp [errW_none, errW_some] <;> rfl) | (simp [*, errW_none, errW_some] <;> rfl)) : P := h
theorem bcl {n : Nat} {w w' : World} {p : Addr} {v : Value} (h : Aside0 (Below n w w')) (hx : w.cell? p = some v) (hn : n = w.heap.size := by rfl) : w'.cell? p = some v := by subst hn; exact (h.out.cell (World.block_lt_of_cell? w _ hx)).trans hx
theorem fz {w : World} {g : Nat} {t : TypeId} {cs : Array Value} (h : Aside0 (w.heap[g]? = some (.cells cs t (0, 0)))) (i : Nat) : w.frozen? ⟨g, i, none⟩ = false := blk_frozen h.out i
variable {w : World} {g : Nat} {t : TypeId} {x0 x1 x2 x3 x4 x5 x6 x7 : Value} {l : List Value}
theorem b0 (h : Aside0 (w.heap[g]? = some (.cells (List.toArray (x0 :: l)) t (0, 0)))) : w.cell? ⟨g, 0, none⟩ = some x0 := (blk_cell h.out 0).trans rfl
theorem b1 (h : Aside0 (w.heap[g]? = some (.cells (List.toArray (x0 :: x1 :: l)) t (0, 0)))) : w.cell? ⟨g, 1, none⟩ = some x1 := (blk_cell h.out 1).trans rfl
theorem b2 (h : Aside0 (w.heap[g]? = some (.cells (List.toArray (x0 :: x1 :: x2 :: l)) t (0, 0)))) : w.cell? ⟨g, 2, none⟩ = some x2 := (blk_cell h.out 2).trans rfl
theorem b3 (h : Aside0 (w.heap[g]? = some (.cells (List.toArray (x0 :: x1 :: x2 :: x3 :: l)) t (0, 0)))) : w.cell? ⟨g, 3, none⟩ = some x3 := (blk_cell h.out 3).trans rfl
theorem b4 (h : Aside0 (w.heap[g]? = some (.cells (List.toArray (x0 :: x1 :: x2 :: x3 :: x4 :: l)) t (0, 0)))) : w.cell? ⟨g, 4, none⟩ = some x4 := (blk_cell h.out 4).trans rfl
theorem b5 (h : Aside0 (w.heap[g]? = some (.cells (List.toArray (x0 :: x1 :: x2 :: x3 :: x4 :: x5 :: l)) t (0, 0)))) : w.cell? ⟨g, 5, none⟩ = some x5 := (blk_cell h.out 5).trans rfl
theorem b6 (h : Aside0 (w.heap[g]? = some (.cells (List.toArray (x0 :: x1 :: x2 :: x3 :: x4 :: x5 :: x6 :: l)) t (0, 0)))) : w.cell? ⟨g, 6, none⟩ = some x6 := (blk_cell h.out 6).trans rfl
theorem b7 (h : Aside0 (w.heap[g]? = some (.cells (List.toArray (x0 :: x1 :: x2 :: x3 :: x4 :: x5 :: x6 :: x7 :: l)) t (0, 0)))) : w.cell? ⟨g, 7, none⟩ = some x7 := (blk_cell h.out 7).trans rfl
end Go.Proofs.Ytdkologncoofdaa.P
-- Open
namespace Go.Proofs.Ytdkologncoofdaa.P
open Go.ChangeShapes Go.WideShapes Go.ChangeAt Go.RowKit Go.Deep Go.Proofs.YtdkologncoofdaaW.PrintWords Go.Proofs.YtdkologncoofdaaW.PrintLast
set_option linter.unusedVariables false
set_option maxRecDepth 100000
section
variable {H : Type} {enc : TypeId × Value → H} {w : World} {base : Nat} {spare : Nat → Bool} {held : Bool} {fuel : Nat} {cs : List Value} {x : DataW H × List MemPlace}
theorem cells48 : Try.prog.cellsOf 48 = 8 := by kernel_rfl
theorem cells65 : Try.prog.cellsOf 65 = 3 := by kernel_rfl
theorem cells66 : Try.prog.cellsOf 66 = 2 := by kernel_rfl
theorem cells9 : Try.prog.cellsOf 9 = 1 := by kernel_rfl
theorem cells3 : Try.prog.cellsOf 3 = 1 := by kernel_rfl
theorem cells4 : Try.prog.cellsOf 4 = 1 := by kernel_rfl

theorem str_of {c : Value} {n : Nat} {y : Option (DataW H × List MemPlace)} (h : DataW.trod enc Try.prog w base spare held n 9 [c] = y) (hy : y.isSome) : ∃ s : ByteArray, c = .string s ∧ s.size ≤ maxLen := by
  obtain ⟨y, rfl⟩ := Option.isSome_iff_exists.1 hy
  obtain ⟨s, e, _, hs⟩ := DataW.trod_string Try.underlying9 h
  exact ⟨s, by simpa using e, hs⟩
theorem int_of {c : Value} {n : Nat} {y : Option (DataW H × List MemPlace)} (h : DataW.trod enc Try.prog w base spare held n 3 [c] = y) (hy : y.isSome) : ∃ s : Int, c = .int .i64 s ∧ (Lit.int .i64 s).wf = true := by
  obtain ⟨y, rfl⟩ := Option.isSome_iff_exists.1 hy
  obtain ⟨s, e, _, hs⟩ := DataW.trod_int Try.underlying3 h
  exact ⟨s, by simpa using e, hs⟩
theorem bool_of {c : Value} {n : Nat} {y : Option (DataW H × List MemPlace)} (h : DataW.trod enc Try.prog w base spare held n 4 [c] = y) (hy : y.isSome) : ∃ s : Bool, c = .bool s := by
  obtain ⟨y, rfl⟩ := Option.isSome_iff_exists.1 hy
  obtain ⟨s, e, _⟩ := DataW.trod_bool Try.underlying4 h
  exact ⟨s, by simpa using e⟩

theorem fld {fs : Array Field} {n : Nat} {xs : List (DataW H × List MemPlace)} (hf : ∀ (i : Nat) (f : Field), fs[i]? = some f → DataW.trod enc Try.prog w base spare held n f.type ((cs.drop f.offset).take (Try.prog.cellsOf f.type)) = xs[i]?)
    (i t : Nat) (c : Value) (hc : Try.prog.cellsOf t = 1) (h : (fs[i]?).map (fun f => (f.type, f.offset)) = some (t, i)) (he : (cs.drop i).take 1 = [c]) : DataW.trod enc Try.prog w base spare held n t [c] = xs[i]? := by
  obtain ⟨f, hfi, hz⟩ := Option.map_eq_some_iff.1 h
  simp only [Prod.mk.injEq] at hz
  obtain ⟨h1, h2⟩ := hz
  have g := hf i f hfi
  rw [h1, h2, hc, he] at g
  exact g
theorem trod48 (h : DataW.trod enc Try.prog w base spare held fuel 48 cs = some x) : ∃ y : S48, cs = [.string y.f0, .int .i64 y.f1, .string y.f2, .string y.f3, .int .i64 y.f4, .int .i64 y.f5, .string y.f6, .string y.f7] := by
  obtain ⟨xs, n, _, _, hcl, hxl, hf⟩ := DataW.trod_struct Try.underlying48 h
  rw [cells48] at hcl
  have hxl' : xs.length = 8 := hxl
  match cs, hcl with
  | [c0, c1, c2, c3, c4, c5, c6, c7], _ =>
    have g0 := fld hf 0 9 c0 cells9 rfl rfl; have g1 := fld hf 1 3 c1 cells3 rfl rfl; have g2 := fld hf 2 9 c2 cells9 rfl rfl; have g3 := fld hf 3 9 c3 cells9 rfl rfl; have g4 := fld hf 4 3 c4 cells3 rfl rfl; have g5 := fld hf 5 3 c5 cells3 rfl rfl; have g6 := fld hf 6 9 c6 cells9 rfl rfl; have g7 := fld hf 7 9 c7 cells9 rfl rfl
    obtain ⟨s0, rfl, _⟩ := str_of g0 (by simp [hxl'])
    obtain ⟨s1, rfl, _⟩ := int_of g1 (by simp [hxl'])
    obtain ⟨s2, rfl, _⟩ := str_of g2 (by simp [hxl'])
    obtain ⟨s3, rfl, _⟩ := str_of g3 (by simp [hxl'])
    obtain ⟨s4, rfl, _⟩ := int_of g4 (by simp [hxl'])
    obtain ⟨s5, rfl, _⟩ := int_of g5 (by simp [hxl'])
    obtain ⟨s6, rfl, _⟩ := str_of g6 (by simp [hxl'])
    obtain ⟨s7, rfl, _⟩ := str_of g7 (by simp [hxl'])
    exact ⟨⟨s0, s1, s2, s3, s4, s5, s6, s7⟩, rfl⟩
theorem trod65 (h : DataW.trod enc Try.prog w base spare held fuel 65 cs = some x) : ∃ (a : ByteArray) (b c : Int), cs = [.string a, .int .i64 b, .int .i64 c] := by
  obtain ⟨xs, n, _, _, hcl, hxl, hf⟩ := DataW.trod_struct Try.underlying65 h
  rw [cells65] at hcl
  have hxl' : xs.length = 3 := hxl
  match cs, hcl with
  | [c0, c1, c2], _ =>
    have g0 := fld hf 0 9 c0 cells9 rfl rfl; have g1 := fld hf 1 3 c1 cells3 rfl rfl; have g2 := fld hf 2 3 c2 cells3 rfl rfl
    obtain ⟨s0, rfl, _⟩ := str_of g0 (by simp [hxl'])
    obtain ⟨s1, rfl, _⟩ := int_of g1 (by simp [hxl'])
    obtain ⟨s2, rfl, _⟩ := int_of g2 (by simp [hxl'])
    exact ⟨s0, s1, s2, rfl⟩
theorem trod66 (h : DataW.trod enc Try.prog w base spare held fuel 66 cs = some x) : ∃ y : S66, cs = [.int .i64 y.f0, .bool y.f1] := by
  obtain ⟨xs, n, _, _, hcl, hxl, hf⟩ := DataW.trod_struct Try.underlying66 h
  rw [cells66] at hcl
  have hxl' : xs.length = 2 := hxl
  match cs, hcl with
  | [c0, c1], _ =>
    have g0 := fld hf 0 3 c0 cells3 rfl rfl; have g1 := fld hf 1 4 c1 cells4 rfl rfl
    obtain ⟨s0, rfl, _⟩ := int_of g0 (by simp [hxl'])
    obtain ⟨s1, rfl⟩ := bool_of g1 (by simp [hxl'])
    exact ⟨⟨s0, s1⟩, rfl⟩

theorem open48 {r : Reach} {b0 : Nat} {v : Value} {d : DataW H} {p : List MemPlace} (hv : Value.okWide Try.prog w r b0 48 v) (h : DataW.Trod enc Try.prog w base spare held 48 v d p) :
    ∃ y : S48, v = .agg #[.string y.f0, .int .i64 y.f1, .string y.f2, .string y.f3, .int .i64 y.f4, .int .i64 y.f5, .string y.f6, .string y.f7] := by
  obtain ⟨cs, rfl, hsz⟩ := okWide_struct Try.underlying48 hv
  obtain ⟨fuel, hf⟩ := h
  obtain ⟨y, hy⟩ := trod48 hf
  obtain ⟨l⟩ := cs
  simp only [Value.cells] at hy
  exact ⟨y, by rw [← hy]⟩
theorem open65 {r : Reach} {b0 : Nat} {v : Value} {d : DataW H} {p : List MemPlace} (hv : Value.okWide Try.prog w r b0 65 v) (h : DataW.Trod enc Try.prog w base spare held 65 v d p) :
    ∃ (a : ByteArray) (b c : Int), v = .agg #[.string a, .int .i64 b, .int .i64 c] := by
  obtain ⟨cs, rfl, hsz⟩ := okWide_struct Try.underlying65 hv
  obtain ⟨fuel, hf⟩ := h
  obtain ⟨a, b, c, hy⟩ := trod65 hf
  obtain ⟨l⟩ := cs
  simp only [Value.cells] at hy
  exact ⟨a, b, c, by rw [← hy]⟩
theorem open66 {r : Reach} {b0 : Nat} {v : Value} {d : DataW H} {p : List MemPlace} (hv : Value.okWide Try.prog w r b0 66 v) (h : DataW.Trod enc Try.prog w base spare held 66 v d p) :
    ∃ y : S66, v = .agg #[.int .i64 y.f0, .bool y.f1] := by
  obtain ⟨cs, rfl, hsz⟩ := okWide_struct Try.underlying66 hv
  obtain ⟨fuel, hf⟩ := h
  obtain ⟨y, hy⟩ := trod66 hf
  obtain ⟨l⟩ := cs
  simp only [Value.cells] at hy
  exact ⟨y, by rw [← hy]⟩

/-- A slice of structs whose cells read one by one. -/
theorem open_row {α : Type} (K : Kd α) {t e : TypeId} {r : Reach} {b0 : Nat} {v : Value} {d : DataW H} {p : List MemPlace} (ht : Try.prog.underlying t = some (.slice e)) (hK : ∀ w' y cs, K.K w y cs → K.K w' y cs)
    (he : Try.prog.cellsOf e = K.sz) (hel : ∀ {n : Nat} {cs : List Value} {x : DataW H × List MemPlace}, DataW.trod enc Try.prog w base spare held n e cs = some x → ∃ y, K.K w y cs)
    (hv : Value.okWide Try.prog w r b0 t v) (h : DataW.Trod enc Try.prog w base spare held t v d p) :
    ∃ (A : Option Addr) (c : Nat) (l : List α), v = .slice A l.length c ∧ l.length ≤ c ∧ Kd.C K w A l.length l := by
  obtain ⟨a0, len, cap, rfl⟩ := okWide_slice ht hv
  obtain ⟨fuel, hf⟩ := h
  rcases open_slice ht hf with ⟨hcs, _⟩ | ⟨a, len', cap', m, n, D, Pl, hcs, hb, hl, hm, hmm, _, hi⟩
  · simp [Value.cells] at hcs
    obtain ⟨rfl, rfl, rfl⟩ := hcs
    exact ⟨none, 0, [], rfl, Nat.le_refl _, rfl, by simp, fun hp => absurd hp (by simp)⟩
  · simp [Value.cells] at hcs
    obtain ⟨rfl, rfl, rfl⟩ := hcs
    have hlm : len ≤ m := by rw [hmm]; split <;> omega
    have hex : ∀ i : Fin len, ∃ (y : α) (cs' : List Value), K.K w y cs' ∧ cs'.length = K.sz ∧ ∀ j, j < K.sz → w.cell? ((a.add (i.val * K.sz)).add j) = cs'[j]? := by
      intro i
      obtain ⟨cs', hc, hr⟩ := hi i.val (by omega)
      rw [he] at hc
      obtain ⟨_, h1, h2⟩ := World.cells?_some hc
      obtain ⟨y, hy⟩ := hel hr
      exact ⟨y, cs', hy, h1, h2⟩
    let f : Fin len → α := fun i => (hex i).choose
    have hlen : (List.ofFn f).length = len := by simp
    refine ⟨some a, cap, List.ofFn f, by rw [hlen], by rw [hlen]; exact hl, rfl, ?_, fun _ => ⟨a, rfl, fun j q hq => ?_⟩⟩
    · rw [hlen]; simp only [maxLen] at hm; omega
    · have hj : j < len := by
        have := (List.getElem?_eq_some_iff.1 hq).1
        rw [hlen] at this
        exact this
      have hq2 : q = f ⟨j, hj⟩ := by
        rw [List.getElem?_eq_getElem (by rw [hlen]; exact hj)] at hq
        have := Option.some.inj hq
        rw [← this]
        simp
      obtain ⟨cs', h1, h2, h3⟩ := (hex ⟨j, hj⟩).choose_spec
      refine ⟨cs', h2, by rw [hq2]; exact h1, fun i u hu => ?_⟩
      have hil : i < K.sz := by
        have := (List.getElem?_eq_some_iff.1 hu).1
        omega
      rw [← hu, ← h3 i hil, Go.Deep.add_add]

theorem open54 {r : Reach} {b0 : Nat} {v : Value} {d : DataW H} {p : List MemPlace} (hv : Value.okWide Try.prog w r b0 54 v) (h : DataW.Trod enc Try.prog w base spare held 54 v d p) :
    ∃ (A : Option Addr) (c : Nat) (l : List S48), v = .slice A l.length c ∧ l.length ≤ c ∧ Kd.C k48 w A l.length l :=
  open_row k48 Try.underlying54 (fun w' y cs h => by rw [k48_open h]; exact k48_mk w' y) cells48 (fun {n cs x} h => by
    obtain ⟨y, rfl⟩ := trod48 h
    exact ⟨y, k48_mk w y⟩) hv h
theorem open73 {r : Reach} {b0 : Nat} {v : Value} {d : DataW H} {p : List MemPlace} (hv : Value.okWide Try.prog w r b0 73 v) (h : DataW.Trod enc Try.prog w base spare held 73 v d p) :
    ∃ (A : Option Addr) (c : Nat) (l : List S66), v = .slice A l.length c ∧ l.length ≤ c ∧ Kd.C k66 w A l.length l :=
  open_row k66 Try.underlying73 (fun w' y cs h => by rw [k66_open h]; exact k66_mk w' y) cells66 (fun {n cs x} h => by
    obtain ⟨y, rfl⟩ := trod66 h
    exact ⟨y, k66_mk w y⟩) hv h
end
end Go.Proofs.Ytdkologncoofdaa.P
-- Open2
namespace Go.Proofs.Ytdkologncoofdaa.P
open Go.ChangeShapes Go.WideShapes Go.ChangeAt Go.RowKit Go.Deep Go.Proofs.YtdkologncoofdaaW.PrintWords Go.Proofs.YtdkologncoofdaaW.PrintLast
set_option linter.unusedVariables false
set_option maxRecDepth 100000
/-- No text of the phase is longer than a text can be. -/
def SzOk (y : S48) : Prop := y.f0.size ≤ maxLen ∧ y.f2.size ≤ maxLen ∧ y.f3.size ≤ maxLen ∧ y.f6.size ≤ maxLen ∧ y.f7.size ≤ maxLen
section
variable {H : Type} {enc : TypeId × Value → H} {w : World} {base : Nat} {spare : Nat → Bool} {held : Bool} {fuel : Nat} {cs : List Value} {x : DataW H × List MemPlace}
theorem trod48s (h : DataW.trod enc Try.prog w base spare held fuel 48 cs = some x) : ∃ y : S48, k48.K w y cs ∧ SzOk y := by
  obtain ⟨xs, n, _, _, hcl, hxl, hf⟩ := DataW.trod_struct Try.underlying48 h
  rw [cells48] at hcl
  have hxl' : xs.length = 8 := hxl
  match cs, hcl with
  | [c0, c1, c2, c3, c4, c5, c6, c7], _ =>
    have g0 := fld hf 0 9 c0 cells9 rfl rfl; have g1 := fld hf 1 3 c1 cells3 rfl rfl; have g2 := fld hf 2 9 c2 cells9 rfl rfl; have g3 := fld hf 3 9 c3 cells9 rfl rfl; have g4 := fld hf 4 3 c4 cells3 rfl rfl; have g5 := fld hf 5 3 c5 cells3 rfl rfl; have g6 := fld hf 6 9 c6 cells9 rfl rfl; have g7 := fld hf 7 9 c7 cells9 rfl rfl
    obtain ⟨s0, rfl, z0⟩ := str_of g0 (by simp [hxl'])
    obtain ⟨s1, rfl, _⟩ := int_of g1 (by simp [hxl'])
    obtain ⟨s2, rfl, z2⟩ := str_of g2 (by simp [hxl'])
    obtain ⟨s3, rfl, z3⟩ := str_of g3 (by simp [hxl'])
    obtain ⟨s4, rfl, _⟩ := int_of g4 (by simp [hxl'])
    obtain ⟨s5, rfl, _⟩ := int_of g5 (by simp [hxl'])
    obtain ⟨s6, rfl, z6⟩ := str_of g6 (by simp [hxl'])
    obtain ⟨s7, rfl, z7⟩ := str_of g7 (by simp [hxl'])
    exact ⟨⟨s0, s1, s2, s3, s4, s5, s6, s7⟩, k48_mk w _, z0, z2, z3, z6, z7⟩
theorem open54s {r : Reach} {b0 : Nat} {v : Value} {d : DataW H} {p : List MemPlace} (hv : Value.okWide Try.prog w r b0 54 v) (h : DataW.Trod enc Try.prog w base spare held 54 v d p) :
    ∃ (A : Option Addr) (c : Nat) (l : List S48), v = .slice A l.length c ∧ l.length ≤ c ∧ Kd.C k48 w A l.length l ∧ ∀ y ∈ l, SzOk y := by
  have h' := h
  obtain ⟨A, c, l, rfl, hc, hr⟩ := open54 hv h
  refine ⟨A, c, l, rfl, hc, hr, fun y hy => ?_⟩
  obtain ⟨j, hj, rfl⟩ := List.getElem_of_mem hy
  obtain ⟨fuel, hf⟩ := h'
  obtain ⟨ad, rfl, hcell⟩ := hr.2.2 (by omega)
  obtain ⟨c1, hsz, hK, hcl⟩ := hcell j l[j] (List.getElem?_eq_getElem hj)
  rcases open_slice Try.underlying54 hf with ⟨hcs, _⟩ | ⟨a, len', cap', m, n, D, Pl, hcs, hb, hl, hm, hmm, _, hi⟩
  · simp [Value.cells] at hcs
  · simp [Value.cells] at hcs
    obtain ⟨rfl, rfl, rfl⟩ := hcs
    obtain ⟨cs', hc', hr'⟩ := hi j (by rw [hmm]; split <;> omega)
    rw [cells48] at hc'
    obtain ⟨_, h1, h2⟩ := World.cells?_some hc'
    obtain ⟨y, hy, hz⟩ := trod48s hr'
    have e1 := k48_open hK
    have e2 := k48_open hy
    have eq : ∀ (i : Nat) (u : Value), c1[i]? = some u → cs'[i]? = some u := by
      intro i u hu
      have hi8 : i < 8 := by
        have := (List.getElem?_eq_some_iff.1 hu).1
        have hz8 : c1.length = 8 := hsz
        omega
      rw [← h2 i hi8, Go.Deep.add_add]
      exact hcl i u hu
    have q : ∀ i : Nat, i = 0 ∨ i = 2 ∨ i = 3 ∨ i = 6 ∨ i = 7 → cs'[i]? = c1[i]? := by
      intro i hi
      have hlt : i < c1.length := by rw [show c1.length = 8 from hsz]; omega
      rw [List.getElem?_eq_getElem hlt]
      exact eq i _ (List.getElem?_eq_getElem hlt)
    rw [e1, e2] at q
    have q0 := q 0 (by omega); have q2 := q 2 (by omega); have q3 := q 3 (by omega); have q6 := q 6 (by omega); have q7 := q 7 (by omega)
    simp at q0 q2 q3 q6 q7
    unfold SzOk at hz ⊢
    rw [← q0, ← q2, ← q3, ← q6, ← q7]
    exact hz
end
end Go.Proofs.Ytdkologncoofdaa.P
-- Px7
namespace Go.Proofs.Ytdkologncoofdaa.P
open Go.RowKit Go.Proofs.YtdkologncoofdaaW.PrintWords Go.Proofs.YtdkologncoofdaaW.PrintLast Go.Proofs.YtdkologncoofdaaW.PrintMore
attribute [local go_sem] max2_int min2_int max_two min_two max_three min_three max_four min_four   -- for this text's walks alone
set_option linter.unusedVariables false
set_option linter.unusedSimpArgs false

/-! ### laws_szRecPhase: function 31 -/
def laws_szRecPhase.f (a0_0 : ByteArray) (a0_1 : Int) (a0_2 : ByteArray) (a0_3 : ByteArray) (a0_4 : Int) (a0_5 : Int) (a0_6 : ByteArray) (a0_7 : ByteArray) (a1 : Int) : Option (Int) := if (wrap64 (a1 - (a0_0.size : Int))) < 0 then (some (-1)) else (if (wrap64 ((wrap64 (a1 - (a0_0.size : Int))) - (a0_2.size : Int))) < 0 then (some (-1)) else (if (wrap64 ((wrap64 ((wrap64 (a1 - (a0_0.size : Int))) - (a0_2.size : Int))) - (a0_3.size : Int))) < 0 then (some (-1)) else (if (wrap64 ((wrap64 ((wrap64 ((wrap64 (a1 - (a0_0.size : Int))) - (a0_2.size : Int))) - (a0_3.size : Int))) - (a0_6.size : Int))) < 0 then (some (-1)) else (if (wrap64 ((wrap64 ((wrap64 ((wrap64 ((wrap64 (a1 - (a0_0.size : Int))) - (a0_2.size : Int))) - (a0_3.size : Int))) - (a0_6.size : Int))) - (a0_7.size : Int))) < 0 then (some (-1)) else (some (wrap64 ((wrap64 ((wrap64 ((wrap64 ((wrap64 (a1 - (a0_0.size : Int))) - (a0_2.size : Int))) - (a0_3.size : Int))) - (a0_6.size : Int))) - (a0_7.size : Int))))))))
set_option maxHeartbeats 8000000 in
set_option maxRecDepth 100000 in
theorem laws_szRecPhase.calls (a0_0 : ByteArray) (a0_1 : Int) (a0_2 : ByteArray) (a0_3 : ByteArray) (a0_4 : Int) (a0_5 : Int) (a0_6 : ByteArray) (a0_7 : ByteArray) (a1 : Int) (r : Int) (w : World) (h : laws_szRecPhase.f a0_0 a0_1 a0_2 a0_3 a0_4 a0_5 a0_6 a0_7 a1 = some r) :
    Calls Try.prog 31 #[.agg #[.string a0_0, .int .i64 a0_1, .string a0_2, .string a0_3, .int .i64 a0_4, .int .i64 a0_5, .string a0_6, .string a0_7], .int .i64 a1] w fun e w' => e = .returned (.int .i64 r) ∧ Below w.heap.size w w' := by
  have H := Aside0.mk h
  clear h
  go_enter Try.func31, Try.ntmps31
  go_wp2
  all_goals
    go_ret
    refine ⟨?_, by repeat (first | exact Below.refl _ _ | apply below_alloc | apply pw_below_drewN | apply below_drew1)⟩
    have h := H.out
    simp_all [laws_szRecPhase.f, ← Int.not_le]

end Go.Proofs.Ytdkologncoofdaa.P
-- Px31
namespace Go.Proofs.Ytdkologncoofdaa.P
open Go.RowKit Go.Proofs.YtdkologncoofdaaW.PrintWords Go.Proofs.YtdkologncoofdaaW.PrintLast Go.Proofs.YtdkologncoofdaaW.PrintMore
attribute [local go_sem] max2_int min2_int max_two min_two max_three min_three max_four min_four   -- for this text's walks alone
set_option linter.unusedVariables false
set_option linter.unusedSimpArgs false

/-! ### laws_szRecPhaseS: function 37 -/
def laws_szRecPhaseS.l0 : Nat → List (S48) → Int → Int → Option (Int)
  | 0, _, _, _ => none
  | k + 1, x0, x1, x5 => if x5 < (x0.length : Int) then (if 0 ≤ x5 then ((laws_szRecPhase.f ((rd_T48 x0 x5).f0) ((rd_T48 x0 x5).f1) ((rd_T48 x0 x5).f2) ((rd_T48 x0 x5).f3) ((rd_T48 x0 x5).f4) ((rd_T48 x0 x5).f5) ((rd_T48 x0 x5).f6) ((rd_T48 x0 x5).f7) x1).bind fun t349 => (if t349 < 0 then (some (-1)) else (laws_szRecPhaseS.l0 k x0 t349 (wrap64 (x5 + 1))))) else (none)) else (some x1)
def laws_szRecPhaseS.f (k : Nat) (l0 : List (S48)) (a1 : Int) : Option (Int) := if (wrap64 (a1 - (l0.length : Int))) < 0 then (some (-1)) else (laws_szRecPhaseS.l0 k l0 (wrap64 (a1 - (l0.length : Int))) 0)
theorem laws_szRecPhaseS.mono_l : ∀ k, (∀ y0 y1 y2, LeO (laws_szRecPhaseS.l0 k y0 y1 y2) (laws_szRecPhaseS.l0 (k + 1) y0 y1 y2))
  | 0 => fun _ _ _ r h => by simp [laws_szRecPhaseS.l0] at h
  | k + 1 => by
    have ih0 := laws_szRecPhaseS.mono_l k
    · intro y0 y1 y2
      unfold laws_szRecPhaseS.l0
      repeat' first
      | (with_reducible exact ih0 _ _ _)
      | (with_reducible exact LeO.refl _)
      | (with_reducible exact LeO.none _)
      | (with_reducible refine LeO.ite ?_ ?_)
      | (with_reducible refine LeO.bind ?_ (fun _ => ?_))
      | exact ih0 _ _ _
      | exact LeO.none _
      | refine LeO.ite ?_ ?_
      | refine LeO.bind ?_ (fun _ => ?_)
theorem laws_szRecPhaseS.mono : ∀ a0 a1 k, LeO (laws_szRecPhaseS.f k a0 a1) (laws_szRecPhaseS.f (k + 1) a0 a1) := by
  intro a0 a1 k
  have ih0 := laws_szRecPhaseS.mono_l k
  unfold laws_szRecPhaseS.f
  repeat' first
      | (with_reducible exact ih0 _ _ _)
      | (with_reducible exact LeO.refl _)
      | (with_reducible exact LeO.none _)
      | (with_reducible refine LeO.ite ?_ ?_)
      | (with_reducible refine LeO.bind ?_ (fun _ => ?_))
      | exact ih0 _ _ _
      | exact LeO.none _
      | refine LeO.ite ?_ ?_
      | refine LeO.bind ?_ (fun _ => ?_)
set_option maxHeartbeats 8000000 in
set_option maxRecDepth 100000 in
theorem laws_szRecPhaseS.calls (k : Nat) (A0 : Option Addr) (c0 : Nat) (l0 : List (S48)) (a1 : Int) (r : Int) (w : World) (hr0 : Kd.C k48 w A0 l0.length l0) (hc0 : l0.length ≤ c0) (h : laws_szRecPhaseS.f k l0 a1 = some r) :
    Calls Try.prog 37 #[.slice A0 l0.length c0, .int .i64 a1] w fun e w' => e = .returned (.int .i64 r) ∧ Below w.heap.size w w' := by
  have hu48 := Try.underlying48
  have HR0 := Aside0.mk hr0
  have HC0 := Aside0.mk hc0
  clear hr0 hc0
  have HB := Aside0.mk (Below.refl w.heap.size w)
  have H : (if (wrap64 (a1 - (l0.length : Int))) < 0 then (some (-1)) else (laws_szRecPhaseS.l0 k l0 (wrap64 (a1 - (l0.length : Int))) 0)) = some r := h
  clear h
  by_cases c3 : (wrap64 (a1 - (l0.length : Int))) < 0
  · rw [if_pos c3] at H
    have c3b0 : decide ((wrap64 (a1 - (l0.length : Int))) < 0) = true := decide_eq_true c3
    clear c3
    obtain rfl := Option.some.inj H
    go_enter Try.func37, Try.ntmps37
    go_wp2
    go_ret
    exact ⟨exq, bw HB.out⟩
  · rw [if_neg c3] at H
    have c3b0 : decide ((wrap64 (a1 - (l0.length : Int))) < 0) = false := decide_eq_false c3
    clear c3
    have H' := Aside0.mk H
    clear H
    go_enter Try.func37, Try.ntmps37
    go_wp2
    go_loopg [1, 5] k (fun kq v1 v5 w' => ∃ (x1_1 : Int) (x5_1 : Int), v1 = .int .i64 x1_1 ∧ v5 = .int .i64 x5_1 ∧ Aside0 (laws_szRecPhaseS.l0 kq l0 x1_1 x5_1 = some r) ∧ Aside0 (kq ≤ k) ∧ Aside0 (Below w.heap.size w w'))
    case atStart => exact ⟨(wrap64 (a1 - (l0.length : Int))), (0), (by first | rfl | (simp; done) | (simp [*]; done)), (by first | rfl | (simp; done) | (simp [*]; done)), H', ⟨Nat.le_refl _⟩, (hbw HB)⟩
    case round =>
      clear H'
      try clear p2
      try clear c3
      try clear c3b0
      obtain ⟨x1_1, x5_1, rfl, rfl, HA, HK1, HB⟩ := hrel
      cases gk with
      | zero => exact absurd HA.out (by simp [laws_szRecPhaseS.l0])
      | succ k1 =>
        have H := HA.out
        clear HA
        simp only [laws_szRecPhaseS.l0] at H
        by_cases c4 : x5_1 < (l0.length : Int)
        · rw [if_pos c4] at H
          have c4b0 : decide (x5_1 < (l0.length : Int)) = true := decide_eq_true c4
          clear c4
          by_cases c5 : 0 ≤ x5_1
          · rw [if_pos c5] at H
            have c5b0 : decide (0 ≤ x5_1) = true := decide_eq_true c5
            clear c5
            replace H := Option.bind_eq_some_iff.mp H
            obtain ⟨t349, A60, H⟩ := H
            replace H : (if t349 < 0 then (some (-1)) else (laws_szRecPhaseS.l0 k1 l0 t349 (wrap64 (x5_1 + 1)))) = some r := H
            have A6 := Aside0.mk A60
            clear A60
            by_cases c7 : t349 < 0
            · rw [if_pos c7] at H
              have c7b0 : decide (t349 < 0) = true := decide_eq_true c7
              clear c7
              obtain rfl := Option.some.inj H
              have p348 : 0 ≤ (x5_1 : Int) := of_decide_eq_true (by first | (with_reducible assumption) | assumption)
              have q348 : x5_1 < (l0.length : Int) := of_decide_eq_true (by first | (with_reducible assumption) | assumption)
              obtain ⟨ad348, e348, hx348_0, hx348_1, hx348_2, hx348_3, hx348_4, hx348_5, hx348_6, hx348_7⟩ := at_T48 HR0.out x5_1 p348 q348
              cases e348
              replace hx348_0 := bcl HB hx348_0
              replace hx348_1 := bcl HB hx348_1
              replace hx348_2 := bcl HB hx348_2
              replace hx348_3 := bcl HB hx348_3
              replace hx348_4 := bcl HB hx348_4
              replace hx348_5 := bcl HB hx348_5
              replace hx348_6 := bcl HB hx348_6
              replace hx348_7 := bcl HB hx348_7
              replace p348 := eq_true p348
              replace q348 := eq_true q348
              go_wp2_with (first | ((with_reducible refine gate_callee (f := 31) rfl ?_); refine goesL_ (some 23) rfl rfl Try.func31 (by kernel_rfl) rfl #[.agg #[.string ((rd_T48 l0 x5_1).f0), .int .i64 ((rd_T48 l0 x5_1).f1), .string ((rd_T48 l0 x5_1).f2), .string ((rd_T48 l0 x5_1).f3), .int .i64 ((rd_T48 l0 x5_1).f4), .int .i64 ((rd_T48 l0 x5_1).f5), .string ((rd_T48 l0 x5_1).f6), .string ((rd_T48 l0 x5_1).f7)], .int .i64 x1_1] rfl mxp ?_; (with_reducible refine (laws_szRecPhase.calls ((rd_T48 l0 x5_1).f0) ((rd_T48 l0 x5_1).f1) ((rd_T48 l0 x5_1).f2) ((rd_T48 l0 x5_1).f3) ((rd_T48 l0 x5_1).f4) ((rd_T48 l0 x5_1).f5) ((rd_T48 l0 x5_1).f6) ((rd_T48 l0 x5_1).f7) x1_1 t349 _ A6.out).mono ?_); rintro e w8 ⟨rfl, hb⟩; refine ⟨_, rfl, ?_⟩; replace HB := bs HB hb; (try clear hb); (try clear hb2); (try clear hk); (try clear hi)))
              go_ret
              exact ⟨exq, bw HB.out⟩
            · rw [if_neg c7] at H
              have c7b0 : decide (t349 < 0) = false := decide_eq_false c7
              clear c7
              have H' := Aside0.mk H
              clear H
              have p348 : 0 ≤ (x5_1 : Int) := of_decide_eq_true (by first | (with_reducible assumption) | assumption)
              have q348 : x5_1 < (l0.length : Int) := of_decide_eq_true (by first | (with_reducible assumption) | assumption)
              obtain ⟨ad348, e348, hx348_0, hx348_1, hx348_2, hx348_3, hx348_4, hx348_5, hx348_6, hx348_7⟩ := at_T48 HR0.out x5_1 p348 q348
              cases e348
              replace hx348_0 := bcl HB hx348_0
              replace hx348_1 := bcl HB hx348_1
              replace hx348_2 := bcl HB hx348_2
              replace hx348_3 := bcl HB hx348_3
              replace hx348_4 := bcl HB hx348_4
              replace hx348_5 := bcl HB hx348_5
              replace hx348_6 := bcl HB hx348_6
              replace hx348_7 := bcl HB hx348_7
              replace p348 := eq_true p348
              replace q348 := eq_true q348
              go_wp2_with (first | ((with_reducible refine gate_callee (f := 31) rfl ?_); refine goesL_ (some 23) rfl rfl Try.func31 (by kernel_rfl) rfl #[.agg #[.string ((rd_T48 l0 x5_1).f0), .int .i64 ((rd_T48 l0 x5_1).f1), .string ((rd_T48 l0 x5_1).f2), .string ((rd_T48 l0 x5_1).f3), .int .i64 ((rd_T48 l0 x5_1).f4), .int .i64 ((rd_T48 l0 x5_1).f5), .string ((rd_T48 l0 x5_1).f6), .string ((rd_T48 l0 x5_1).f7)], .int .i64 x1_1] rfl mxp ?_; (with_reducible refine (laws_szRecPhase.calls ((rd_T48 l0 x5_1).f0) ((rd_T48 l0 x5_1).f1) ((rd_T48 l0 x5_1).f2) ((rd_T48 l0 x5_1).f3) ((rd_T48 l0 x5_1).f4) ((rd_T48 l0 x5_1).f5) ((rd_T48 l0 x5_1).f6) ((rd_T48 l0 x5_1).f7) x1_1 t349 _ A6.out).mono ?_); rintro e w9 ⟨rfl, hb⟩; refine ⟨_, rfl, ?_⟩; replace HB := bs HB hb; (try clear hb); (try clear hb2); (try clear hk); (try clear hi)))
              go_roundg k1
              case measure => have := HK1.out; omega
              case rel => exact ⟨(t349), (wrap64 (x5_1 + 1)), (by first | rfl | (simp; done) | (simp [*]; done)), (by first | rfl | (simp; done) | (simp [*]; done)), H', ⟨by have := HK1.out; omega⟩, (hbw HB)⟩
          · rw [if_neg c5] at H
            exact absurd H (by simp)
        · rw [if_neg c4] at H
          have c4b0 : decide (x5_1 < (l0.length : Int)) = false := decide_eq_false c4
          clear c4
          obtain rfl := Option.some.inj H
          go_wp2
          go_ret
          exact ⟨exq, bw HB.out⟩

end Go.Proofs.Ytdkologncoofdaa.P
-- Px13
namespace Go.Proofs.Ytdkologncoofdaa.P
open Go.RowKit Go.Proofs.YtdkologncoofdaaW.PrintWords Go.Proofs.YtdkologncoofdaaW.PrintLast Go.Proofs.YtdkologncoofdaaW.PrintMore
attribute [local go_sem] max2_int min2_int max_two min_two max_three min_three max_four min_four   -- for this text's walks alone
set_option linter.unusedVariables false
set_option linter.unusedSimpArgs false

/-! ### laws_toRecPhase: function 33 -/
def laws_toRecPhase.f (a0_0 : ByteArray) (a0_1 : Int) (a0_2 : ByteArray) (a0_3 : ByteArray) (a0_4 : Int) (a0_5 : Int) (a0_6 : ByteArray) (a0_7 : ByteArray) : Option (ByteArray × Int × ByteArray × ByteArray × Int × Int × ByteArray × ByteArray) := some (a0_0, a0_1, a0_2, a0_3, a0_4, a0_5, a0_6, a0_7)
set_option maxHeartbeats 8000000 in
set_option maxRecDepth 100000 in
theorem laws_toRecPhase.calls (a0_0 : ByteArray) (a0_1 : Int) (a0_2 : ByteArray) (a0_3 : ByteArray) (a0_4 : Int) (a0_5 : Int) (a0_6 : ByteArray) (a0_7 : ByteArray) (r1 : ByteArray) (r2 : Int) (r3 : ByteArray) (r4 : ByteArray) (r5 : Int) (r6 : Int) (r7 : ByteArray) (r8 : ByteArray) (w : World) (h : laws_toRecPhase.f a0_0 a0_1 a0_2 a0_3 a0_4 a0_5 a0_6 a0_7 = some (r1, r2, r3, r4, r5, r6, r7, r8)) :
    Calls Try.prog 33 #[.agg #[.string a0_0, .int .i64 a0_1, .string a0_2, .string a0_3, .int .i64 a0_4, .int .i64 a0_5, .string a0_6, .string a0_7]] w fun e w' => e = .returned (.agg #[.string r1, .int .i64 r2, .string r3, .string r4, .int .i64 r5, .int .i64 r6, .string r7, .string r8]) ∧ Below w.heap.size w w' := by
  have hu48 := Try.underlying48
  have hu39 := Try.underlying39
  have HB := Aside0.mk (Below.refl w.heap.size w)
  have H : (some (a0_0, a0_1, a0_2, a0_3, a0_4, a0_5, a0_6, a0_7)) = some (r1, r2, r3, r4, r5, r6, r7, r8) := h
  clear h
  simp only [Option.some.injEq, Prod.mk.injEq] at H
  obtain ⟨rfl, rfl, rfl, rfl, rfl, rfl, rfl, rfl⟩ := H
  go_enter Try.func33, Try.ntmps33
  go_wp2_with (first | ((with_reducible refine gate_dst (N := 1) rfl ?_); refine box_event ?hg (N := 1) ?hd (cs := #[.string a0_0, .int .i64 a0_1, .string a0_2, .string a0_3, .int .i64 a0_4, .int .i64 a0_5, .string a0_6, .string a0_7]) (t := 48) ?hr ?_; (case hd => rfl); (case hg => rfl); (case hr => first | (go_simp; done) | (go_simp; rfl)); intro gb133 hg w2 hbox hb; have n0_ := bs HB hb; have n1_ := Aside0.mk (hbox); have n2_ := Aside0.mk ((by rw [hg]; exact (below_size (bw HB.out)) : w.heap.size ≤ gb133)); have n3_ := Aside0.mk ((by rw [hg]; exact (below_size (bw HB.out)) : w.heap.size ≤ gb133)); clear HB; have HB := n0_; have BK133 := n1_; have GW133 := n2_; have GE133 := n3_; clear n0_ n1_ n2_ n3_; clear hb hbox hg) | ((with_reducible refine gate_dst (N := 2) rfl ?_); refine box_event ?hg (N := 2) ?hd (cs := #[.string (⟨#[]⟩ : ByteArray), .int .i64 0, .string (⟨#[]⟩ : ByteArray), .string (⟨#[]⟩ : ByteArray), .int .i64 0, .int .i64 0, .string (⟨#[]⟩ : ByteArray), .string (⟨#[]⟩ : ByteArray)]) (t := 39) ?hr ?_; (case hd => rfl); (case hg => rfl); (case hr => first | (go_simp; done) | (go_simp; rfl)); intro gb134 hg w3 hbox hb; have n0_ := up BK133 hb; have n1_ := bs HB hb; have n2_ := Aside0.mk (hbox); have n3_ := Aside0.mk ((by rw [hg]; exact (below_size (bw HB.out)) : w.heap.size ≤ gb134)); have n4_ := Aside0.mk ((by rw [hg]; exact (below_size (bw HB.out)) : w.heap.size ≤ gb134)); have n5_ := Aside0.mk ((by rw [hg]; exact Nat.ne_of_lt (blk_lt (g := gb133) (o := .cells #[.string a0_0, .int .i64 a0_1, .string a0_2, .string a0_3, .int .i64 a0_4, .int .i64 a0_5, .string a0_6, .string a0_7] 48 (0, 0)) (bx BK133.out)) : gb133 ≠ gb134)); have n6_ := Aside0.mk ((by rw [hg]; exact Nat.ne_of_gt (blk_lt (g := gb133) (o := .cells #[.string a0_0, .int .i64 a0_1, .string a0_2, .string a0_3, .int .i64 a0_4, .int .i64 a0_5, .string a0_6, .string a0_7] 48 (0, 0)) (bx BK133.out)) : gb134 ≠ gb133)); clear BK133; clear HB; have BK133 := n0_; have HB := n1_; have BK134 := n2_; have GW134 := n3_; have GE134 := n4_; have NB133_134 := n5_; have NB134_133 := n6_; clear n0_ n1_ n2_ n3_ n4_ n5_ n6_; clear hb hbox hg) | ((with_reducible refine gate_dst (N := 3) rfl ?_); refine box_event ?hg (N := 3) ?hd (cs := #[.string (⟨#[]⟩ : ByteArray), .int .i64 0, .string (⟨#[]⟩ : ByteArray), .string (⟨#[]⟩ : ByteArray), .int .i64 0, .int .i64 0, .string (⟨#[]⟩ : ByteArray), .string (⟨#[]⟩ : ByteArray)]) (t := 39) ?hr ?_; (case hd => rfl); (case hg => rfl); (case hr => first | (go_simp; done) | (go_simp; rfl)); intro gb135 hg w4 hbox hb; have n0_ := up BK133 hb; have n1_ := up BK134 hb; have n2_ := bs HB hb; have n3_ := Aside0.mk (hbox); have n4_ := Aside0.mk ((by rw [hg]; exact (below_size (bw HB.out)) : w.heap.size ≤ gb135)); have n5_ := Aside0.mk ((by rw [hg]; exact (below_size (bw HB.out)) : w.heap.size ≤ gb135)); have n6_ := Aside0.mk ((by rw [hg]; exact Nat.ne_of_lt (blk_lt (g := gb133) (o := .cells #[.string a0_0, .int .i64 a0_1, .string a0_2, .string a0_3, .int .i64 a0_4, .int .i64 a0_5, .string a0_6, .string a0_7] 48 (0, 0)) (bx BK133.out)) : gb133 ≠ gb135)); have n7_ := Aside0.mk ((by rw [hg]; exact Nat.ne_of_gt (blk_lt (g := gb133) (o := .cells #[.string a0_0, .int .i64 a0_1, .string a0_2, .string a0_3, .int .i64 a0_4, .int .i64 a0_5, .string a0_6, .string a0_7] 48 (0, 0)) (bx BK133.out)) : gb135 ≠ gb133)); have n8_ := Aside0.mk ((by rw [hg]; exact Nat.ne_of_lt (blk_lt (g := gb134) (o := .cells #[.string (⟨#[]⟩ : ByteArray), .int .i64 0, .string (⟨#[]⟩ : ByteArray), .string (⟨#[]⟩ : ByteArray), .int .i64 0, .int .i64 0, .string (⟨#[]⟩ : ByteArray), .string (⟨#[]⟩ : ByteArray)] 39 (0, 0)) (bx BK134.out)) : gb134 ≠ gb135)); have n9_ := Aside0.mk ((by rw [hg]; exact Nat.ne_of_gt (blk_lt (g := gb134) (o := .cells #[.string (⟨#[]⟩ : ByteArray), .int .i64 0, .string (⟨#[]⟩ : ByteArray), .string (⟨#[]⟩ : ByteArray), .int .i64 0, .int .i64 0, .string (⟨#[]⟩ : ByteArray), .string (⟨#[]⟩ : ByteArray)] 39 (0, 0)) (bx BK134.out)) : gb135 ≠ gb134)); clear BK133; clear BK134; clear HB; have BK133 := n0_; have BK134 := n1_; have HB := n2_; have BK135 := n3_; have GW135 := n4_; have GE135 := n5_; have NB133_135 := n6_; have NB135_133 := n7_; have NB134_135 := n8_; have NB135_134 := n9_; clear n0_ n1_ n2_ n3_ n4_ n5_ n6_ n7_ n8_ n9_; clear hb hbox hg; have hnb5 := NB133_134.out; have hnc5 := NB134_133.out; have hnb6 := NB133_135.out; have hnc6 := NB135_133.out; have hcz7_0 := b0 BK133; have hcz7_1 := b1 BK133; have hcz7_2 := b2 BK133; have hcz7_3 := b3 BK133; have hcz7_4 := b4 BK133; have hcz7_5 := b5 BK133; have hcz7_6 := b6 BK133; have hcz7_7 := b7 BK133; have hfz7_0 := fz BK133 0; have hfz7_1 := fz BK133 1; have hfz7_2 := fz BK133 2; have hfz7_3 := fz BK133 3; have hfz7_4 := fz BK133 4; have hfz7_5 := fz BK133 5; have hfz7_6 := fz BK133 6; have hfz7_7 := fz BK133 7; have hnb8 := NB135_134.out; have hnc8 := NB134_135.out; have hcz9_0 := b0 BK135; have hcz9_1 := b1 BK135; have hcz9_2 := b2 BK135; have hcz9_3 := b3 BK135; have hcz9_4 := b4 BK135; have hcz9_5 := b5 BK135; have hcz9_6 := b6 BK135; have hcz9_7 := b7 BK135; have hfz9_0 := fz BK135 0; have hfz9_1 := fz BK135 1; have hfz9_2 := fz BK135 2; have hfz9_3 := fz BK135 3; have hfz9_4 := fz BK135 4; have hfz9_5 := fz BK135 5; have hfz9_6 := fz BK135 6; have hfz9_7 := fz BK135 7; have hcz10_0 := b0 BK134; have hcz10_1 := b1 BK134; have hcz10_2 := b2 BK134; have hcz10_3 := b3 BK134; have hcz10_4 := b4 BK134; have hcz10_5 := b5 BK134; have hcz10_6 := b6 BK134; have hcz10_7 := b7 BK134; have hfz10_0 := fz BK134 0; have hfz10_1 := fz BK134 1; have hfz10_2 := fz BK134 2; have hfz10_3 := fz BK134 3; have hfz10_4 := fz BK134 4; have hfz10_5 := fz BK134 5; have hfz10_6 := fz BK134 6; have hfz10_7 := fz BK134 7))
  refine bodyPost_ret (results_cell_row rfl _ _ gb134 39 #[.string a0_0, .int .i64 a0_1, .string a0_2, .string a0_3, .int .i64 a0_4, .int .i64 a0_5, .string a0_6, .string a0_7] (0, 0) _ rfl (by refine bx ?_; refine blk_put (cs := #[.string a0_0, .int .i64 a0_1, .string a0_2, .string a0_3, .int .i64 a0_4, .int .i64 a0_5, .string a0_6, .string (⟨#[]⟩ : ByteArray)]) ?_ 7 _ rfl; refine bx ?_; refine blk_put (cs := #[.string a0_0, .int .i64 a0_1, .string a0_2, .string a0_3, .int .i64 a0_4, .int .i64 a0_5, .string (⟨#[]⟩ : ByteArray), .string (⟨#[]⟩ : ByteArray)]) ?_ 6 _ rfl; refine bx ?_; refine blk_put (cs := #[.string a0_0, .int .i64 a0_1, .string a0_2, .string a0_3, .int .i64 a0_4, .int .i64 0, .string (⟨#[]⟩ : ByteArray), .string (⟨#[]⟩ : ByteArray)]) ?_ 5 _ rfl; refine bx ?_; refine blk_put (cs := #[.string a0_0, .int .i64 a0_1, .string a0_2, .string a0_3, .int .i64 0, .int .i64 0, .string (⟨#[]⟩ : ByteArray), .string (⟨#[]⟩ : ByteArray)]) ?_ 4 _ rfl; refine bx ?_; refine blk_put (cs := #[.string a0_0, .int .i64 a0_1, .string a0_2, .string (⟨#[]⟩ : ByteArray), .int .i64 0, .int .i64 0, .string (⟨#[]⟩ : ByteArray), .string (⟨#[]⟩ : ByteArray)]) ?_ 3 _ rfl; refine bx ?_; refine blk_put (cs := #[.string a0_0, .int .i64 a0_1, .string (⟨#[]⟩ : ByteArray), .string (⟨#[]⟩ : ByteArray), .int .i64 0, .int .i64 0, .string (⟨#[]⟩ : ByteArray), .string (⟨#[]⟩ : ByteArray)]) ?_ 2 _ rfl; refine bx ?_; refine blk_put (cs := #[.string a0_0, .int .i64 0, .string (⟨#[]⟩ : ByteArray), .string (⟨#[]⟩ : ByteArray), .int .i64 0, .int .i64 0, .string (⟨#[]⟩ : ByteArray), .string (⟨#[]⟩ : ByteArray)]) ?_ 1 _ rfl; refine bx ?_; refine blk_put (cs := #[.string (⟨#[]⟩ : ByteArray), .int .i64 0, .string (⟨#[]⟩ : ByteArray), .string (⟨#[]⟩ : ByteArray), .int .i64 0, .int .i64 0, .string (⟨#[]⟩ : ByteArray), .string (⟨#[]⟩ : ByteArray)]) ?_ 0 _ rfl; refine bx ?_; refine blk_far ?_ NB134_135.out _; refine bx ?_; refine blk_far ?_ NB134_135.out _; refine bx ?_; refine blk_far ?_ NB134_135.out _; refine bx ?_; refine blk_far ?_ NB134_135.out _; refine bx ?_; refine blk_far ?_ NB134_135.out _; refine bx ?_; refine blk_far ?_ NB134_135.out _; refine bx ?_; refine blk_far ?_ NB134_135.out _; refine bx ?_; refine blk_far ?_ NB134_135.out _; refine bx ?_; exact BK134.out) Try.underlying39 rfl (by kernel_rfl)) rfl ?_
  exact ⟨exq, bw HB.out⟩

end Go.Proofs.Ytdkologncoofdaa.P
-- Px32
namespace Go.Proofs.Ytdkologncoofdaa.P
open Go.RowKit Go.Proofs.YtdkologncoofdaaW.PrintWords Go.Proofs.YtdkologncoofdaaW.PrintLast Go.Proofs.YtdkologncoofdaaW.PrintMore
attribute [local go_sem] max2_int min2_int max_two min_two max_three min_three max_four min_four   -- for this text's walks alone
set_option linter.unusedVariables false
set_option linter.unusedSimpArgs false

/-! ### laws_toRecPhaseS: function 38 -/
def laws_toRecPhaseS.l0 : Nat → List (S48) → List (S39) → Int → Option ((List (S39)))
  | 0, _, _, _ => none
  | k + 1, x0, x3, x4 => if x4 < (x0.length : Int) then (if 0 ≤ x4 then ((laws_toRecPhase.f ((rd_T48 x0 x4).f0) ((rd_T48 x0 x4).f1) ((rd_T48 x0 x4).f2) ((rd_T48 x0 x4).f3) ((rd_T48 x0 x4).f4) ((rd_T48 x0 x4).f5) ((rd_T48 x0 x4).f6) ((rd_T48 x0 x4).f7)).bind fun bt354 => (if x4 < (x3.length : Int) then (laws_toRecPhaseS.l0 k x0 (x3.set (x4 : Int).toNat (⟨bt354.1, bt354.2.1, bt354.2.2.1, bt354.2.2.2.1, bt354.2.2.2.2.1, bt354.2.2.2.2.2.1, bt354.2.2.2.2.2.2.1, bt354.2.2.2.2.2.2.2⟩ : S39)) (wrap64 (x4 + 1))) else (none))) else (none)) else (some x3)
def laws_toRecPhaseS.f (k : Nat) (l0 : List (S48)) : Option ((List (S39))) := if 0 ≤ (l0.length : Int) then (if ((l0.length : Int) : Int).toNat ≤ 2706490160679 then (laws_toRecPhaseS.l0 k l0 (List.replicate ((l0.length : Int) : Int).toNat z39) 0) else (none)) else (none)
theorem laws_toRecPhaseS.mono_l : ∀ k, (∀ y0 y1 y2, LeO (laws_toRecPhaseS.l0 k y0 y1 y2) (laws_toRecPhaseS.l0 (k + 1) y0 y1 y2))
  | 0 => fun _ _ _ r h => by simp [laws_toRecPhaseS.l0] at h
  | k + 1 => by
    have ih0 := laws_toRecPhaseS.mono_l k
    · intro y0 y1 y2
      unfold laws_toRecPhaseS.l0
      repeat' first
      | (with_reducible exact ih0 _ _ _)
      | (with_reducible exact LeO.refl _)
      | (with_reducible exact LeO.none _)
      | (with_reducible refine LeO.ite ?_ ?_)
      | (with_reducible refine LeO.bind ?_ (fun _ => ?_))
      | exact ih0 _ _ _
      | exact LeO.none _
      | refine LeO.ite ?_ ?_
      | refine LeO.bind ?_ (fun _ => ?_)
theorem laws_toRecPhaseS.mono : ∀ a0 k, LeO (laws_toRecPhaseS.f k a0) (laws_toRecPhaseS.f (k + 1) a0) := by
  intro a0 k
  have ih0 := laws_toRecPhaseS.mono_l k
  unfold laws_toRecPhaseS.f
  repeat' first
      | (with_reducible exact ih0 _ _ _)
      | (with_reducible exact LeO.refl _)
      | (with_reducible exact LeO.none _)
      | (with_reducible refine LeO.ite ?_ ?_)
      | (with_reducible refine LeO.bind ?_ (fun _ => ?_))
      | exact ih0 _ _ _
      | exact LeO.none _
      | refine LeO.ite ?_ ?_
      | refine LeO.bind ?_ (fun _ => ?_)
set_option maxHeartbeats 8000000 in
set_option maxRecDepth 100000 in
theorem laws_toRecPhaseS.calls (k : Nat) (A0 : Option Addr) (c0 : Nat) (l0 : List (S48)) (r : List (S39)) (w : World) (hr0 : Kd.C k48 w A0 l0.length l0) (hc0 : l0.length ≤ c0) (h : laws_toRecPhaseS.f k l0 = some r) :
    Calls Try.prog 38 #[.slice A0 l0.length c0] w fun e w' => ∃ v0_ : Value, e = .returned (v0_) ∧ Kd.R k39 39 w' w.heap.size (fun _ => True) v0_ r ∧ Below w.heap.size w w' := by
  have hu48 := Try.underlying48
  have hu39 := Try.underlying39
  have HR0 := Aside0.mk hr0
  have HC0 := Aside0.mk hc0
  clear hr0 hc0
  have HB := Aside0.mk (Below.refl w.heap.size w)
  have H : (if 0 ≤ (l0.length : Int) then (if ((l0.length : Int) : Int).toNat ≤ 2706490160679 then (laws_toRecPhaseS.l0 k l0 (List.replicate ((l0.length : Int) : Int).toNat z39) 0) else (none)) else (none)) = some r := h
  clear h
  by_cases c2 : 0 ≤ (l0.length : Int)
  · rw [if_pos c2] at H
    have c2b0 := eq_true c2
    have c2b1 : decide (0 ≤ (l0.length : Int)) = true := decide_eq_true c2
    clear c2
    by_cases c3 : ((l0.length : Int) : Int).toNat ≤ 2706490160679
    · rw [if_pos c3] at H
      have c3b0 := eq_true c3
      have c3b1 : decide (((l0.length : Int) : Int).toNat ≤ 2706490160679) = true := decide_eq_true c3
      clear c3
      obtain ⟨y350, hy350⟩ : ∃ y_ : List (S39), y_ = (List.replicate ((l0.length : Int) : Int).toNat z39) := ⟨_, rfl⟩
      replace H : (laws_toRecPhaseS.l0 k l0 y350 0) = some r := by first | (rw [hy350]; with_reducible exact H) | (have H2_ := (Option.bind_some _ _).symm.trans H; rw [hy350]; with_reducible exact H2_) | (have H2_ := (Option.bind_some _ _).symm.trans H; with_reducible exact H2_) | with_reducible exact H | (rw [hy350]; exact H) | exact H
      have Ny350 := Aside0.mk hy350
      clear hy350
      have H' := Aside0.mk H
      clear H
      go_enter Try.func38, Try.ntmps38
      go_wp2_with (first | ((with_reducible refine gate_dst (N := 7) rfl ?_); refine Kd.R_make k39 _ 39 rfl (N := 7) rfl 26 _ _ rfl (l0.length : Int) rfl rfl Try.underlying26 (.agg #[(.string ⟨#[]⟩), (.int .i64 0), (.string ⟨#[]⟩), (.string ⟨#[]⟩), (.int .i64 0), (.int .i64 0), (.string ⟨#[]⟩), (.string ⟨#[]⟩)]) 104 info39 rfl (by decide) (by omega) z39 (ok := fun _ => True) (okp := fun _ => True) (k39_mkM _ _ _ z39 ) (fun _ hk => hk) trivial (of_decide_eq_true (by first | (with_reducible assumption) | assumption)) (Nat.le_trans (Nat.mul_le_mul_right _ (of_decide_eq_true (by first | (with_reducible assumption) | assumption) : (l0.length : Int).toNat ≤ 2706490160679)) (by omega)) (Below.refl _ _) (Nat.le_refl _) ?_; intro v351 w4 ho5 hb hg_ hnew_; clear hg_ hnew_; (first | rw [← Ny350.out] at ho5 | (simp only [Int.reduceToNat] at ho5; rw [← Ny350.out] at ho5)); have n0_ := Aside0.mk (Kd.R_lower ho5 (below_size (bw HB.out))); have n1_ := bs HB hb; clear HB; have HO352 := n0_; have HB := n1_; clear n0_ n1_; clear hb ho5))
      go_loopg [4] k (fun kq v4 w' => ∃ (x3_1 : List (S39)) (x4_1 : Int), v4 = .int .i64 x4_1 ∧ Aside0 (laws_toRecPhaseS.l0 kq l0 x3_1 x4_1 = some r) ∧ Aside0 (kq ≤ k) ∧ Aside0 (Kd.R k39 39 w' w.heap.size (fun _ => True) v351 x3_1) ∧ Aside0 (Below w.heap.size w w'))
      case atStart => exact ⟨(y350), (0), (by first | rfl | (simp; done) | (simp [*]; done)), H', ⟨Nat.le_refl _⟩, ⟨by refine rx ?_; exact HO352.out⟩, (hbw HB)⟩
      case round =>
        clear H'
        try clear c2
        try clear c2b0
        try clear c2b1
        try clear p2
        try clear c3
        try clear c3b0
        try clear c3b1
        obtain ⟨x3_1, x4_1, rfl, HA, HK1, HO_3, HB⟩ := hrel
        cases gk with
        | zero => exact absurd HA.out (by simp [laws_toRecPhaseS.l0])
        | succ k1 =>
          have H := HA.out
          clear HA
          simp only [laws_toRecPhaseS.l0] at H
          by_cases c6 : x4_1 < (l0.length : Int)
          · rw [if_pos c6] at H
            have c6b0 : decide (x4_1 < (l0.length : Int)) = true := decide_eq_true c6
            clear c6
            by_cases c7 : 0 ≤ x4_1
            · rw [if_pos c7] at H
              have c7b0 : decide (0 ≤ x4_1) = true := decide_eq_true c7
              clear c7
              replace H := Option.bind_eq_some_iff.mp H
              obtain ⟨⟨t354, t355, t356, t357, t358, t359, t360, t361⟩, A80, H⟩ := H
              replace H : (if x4_1 < (x3_1.length : Int) then (laws_toRecPhaseS.l0 k1 l0 (x3_1.set (x4_1 : Int).toNat (⟨t354, t355, t356, t357, t358, t359, t360, t361⟩ : S39)) (wrap64 (x4_1 + 1))) else (none)) = some r := H
              have A8 := Aside0.mk A80
              clear A80
              by_cases c9 : x4_1 < (x3_1.length : Int)
              · rw [if_pos c9] at H
                have c9b0 : decide (x4_1 < (x3_1.length : Int)) = true := decide_eq_true c9
                clear c9
                obtain ⟨y362, hy362⟩ : ∃ y_ : List (S39), y_ = (x3_1.set (x4_1 : Int).toNat (⟨t354, t355, t356, t357, t358, t359, t360, t361⟩ : S39)) := ⟨_, rfl⟩
                replace H : (laws_toRecPhaseS.l0 k1 l0 y362 (wrap64 (x4_1 + 1))) = some r := by first | (rw [hy362]; with_reducible exact H) | (have H2_ := (Option.bind_some _ _).symm.trans H; rw [hy362]; with_reducible exact H2_) | (have H2_ := (Option.bind_some _ _).symm.trans H; with_reducible exact H2_) | with_reducible exact H | (rw [hy362]; exact H) | exact H
                have Ny362 := Aside0.mk hy362
                clear hy362
                have H' := Aside0.mk H
                clear H
                have p353 : 0 ≤ (x4_1 : Int) := of_decide_eq_true (by first | (with_reducible assumption) | assumption)
                have q353 : x4_1 < (l0.length : Int) := of_decide_eq_true (by first | (with_reducible assumption) | assumption)
                obtain ⟨ad353, e353, hx353_0, hx353_1, hx353_2, hx353_3, hx353_4, hx353_5, hx353_6, hx353_7⟩ := at_T48 HR0.out x4_1 p353 q353
                cases e353
                replace hx353_0 := bcl HB hx353_0
                replace hx353_1 := bcl HB hx353_1
                replace hx353_2 := bcl HB hx353_2
                replace hx353_3 := bcl HB hx353_3
                replace hx353_4 := bcl HB hx353_4
                replace hx353_5 := bcl HB hx353_5
                replace hx353_6 := bcl HB hx353_6
                replace hx353_7 := bcl HB hx353_7
                replace p353 := eq_true p353
                replace q353 := eq_true q353
                go_wp2_with (first | ((with_reducible refine gate_callee (f := 33) rfl ?_); refine goesL_ (some 20) rfl rfl Try.func33 (by kernel_rfl) rfl #[.agg #[.string ((rd_T48 l0 x4_1).f0), .int .i64 ((rd_T48 l0 x4_1).f1), .string ((rd_T48 l0 x4_1).f2), .string ((rd_T48 l0 x4_1).f3), .int .i64 ((rd_T48 l0 x4_1).f4), .int .i64 ((rd_T48 l0 x4_1).f5), .string ((rd_T48 l0 x4_1).f6), .string ((rd_T48 l0 x4_1).f7)]] rfl mxp ?_; (with_reducible refine (laws_toRecPhase.calls ((rd_T48 l0 x4_1).f0) ((rd_T48 l0 x4_1).f1) ((rd_T48 l0 x4_1).f2) ((rd_T48 l0 x4_1).f3) ((rd_T48 l0 x4_1).f4) ((rd_T48 l0 x4_1).f5) ((rd_T48 l0 x4_1).f6) ((rd_T48 l0 x4_1).f7) t354 t355 t356 t357 t358 t359 t360 t361 _ A8.out).mono ?_); rintro e w11 ⟨rfl, hb⟩; refine ⟨_, rfl, ?_⟩; have n0_ := Aside0.mk (Kd.R_below (rx HO_3.out) hb); have n1_ := bs HB hb; clear HO_3; clear HB; have HO_3 := n0_; have HB := n1_; clear n0_ n1_; (try clear hb); (try clear hb2); (try clear hk); (try clear hi); have p10 : 0 ≤ (x4_1 : Int) := of_decide_eq_true (by first | (with_reducible assumption) | assumption); have q10 : (x4_1 : Int) < ((x3_1.length : Int) : Int) := of_decide_eq_true (by first | (with_reducible assumption) | assumption); obtain ⟨go10, co10, eo10, gb10, gl10, cl10, HG10⟩ := Kd.R_form HO_3.out (by omega); (first | cases eo10 | (injection eo10 with ea_ en_ ec_; (first | subst ea_ | (injection ea_ with ea_; subst ea_)); subst ec_; clear en_)); have GB10 := Aside0.mk gb10; have GG10 := Aside0.mk HG10; clear gb10 gl10 HG10; obtain ⟨ce10, hcl10, hM10, hcc10, hfr10⟩ := Kd.R_elem HO_3.out z39 (x4_1 : Int) p10 q10; obtain rfl := k39_openM hM10; have hx10_0 : w11.cell? ⟨go10, (x4_1 : Int).toNat * 8, none⟩ = some (.string ((rd_T39 x3_1 x4_1).f0)) := hcc10 0 _ rfl; have hx10_1 : w11.cell? ⟨go10, (x4_1 : Int).toNat * 8 + 1, none⟩ = some (.int .i64 ((rd_T39 x3_1 x4_1).f1)) := hcc10 1 _ rfl; have hx10_2 : w11.cell? ⟨go10, (x4_1 : Int).toNat * 8 + 2, none⟩ = some (.string ((rd_T39 x3_1 x4_1).f2)) := hcc10 2 _ rfl; have hx10_3 : w11.cell? ⟨go10, (x4_1 : Int).toNat * 8 + 3, none⟩ = some (.string ((rd_T39 x3_1 x4_1).f3)) := hcc10 3 _ rfl; have hx10_4 : w11.cell? ⟨go10, (x4_1 : Int).toNat * 8 + 4, none⟩ = some (.int .i64 ((rd_T39 x3_1 x4_1).f4)) := hcc10 4 _ rfl; have hx10_5 : w11.cell? ⟨go10, (x4_1 : Int).toNat * 8 + 5, none⟩ = some (.int .i64 ((rd_T39 x3_1 x4_1).f5)) := hcc10 5 _ rfl; have hx10_6 : w11.cell? ⟨go10, (x4_1 : Int).toNat * 8 + 6, none⟩ = some (.string ((rd_T39 x3_1 x4_1).f6)) := hcc10 6 _ rfl; have hx10_7 : w11.cell? ⟨go10, (x4_1 : Int).toNat * 8 + 7, none⟩ = some (.string ((rd_T39 x3_1 x4_1).f7)) := hcc10 7 _ rfl; have hf10_0 : w11.frozen? ⟨go10, (x4_1 : Int).toNat * 8, none⟩ = false := hfr10 0; have hf10_1 : w11.frozen? ⟨go10, (x4_1 : Int).toNat * 8 + 1, none⟩ = false := hfr10 1; have hf10_2 : w11.frozen? ⟨go10, (x4_1 : Int).toNat * 8 + 2, none⟩ = false := hfr10 2; have hf10_3 : w11.frozen? ⟨go10, (x4_1 : Int).toNat * 8 + 3, none⟩ = false := hfr10 3; have hf10_4 : w11.frozen? ⟨go10, (x4_1 : Int).toNat * 8 + 4, none⟩ = false := hfr10 4; have hf10_5 : w11.frozen? ⟨go10, (x4_1 : Int).toNat * 8 + 5, none⟩ = false := hfr10 5; have hf10_6 : w11.frozen? ⟨go10, (x4_1 : Int).toNat * 8 + 6, none⟩ = false := hfr10 6; have hf10_7 : w11.frozen? ⟨go10, (x4_1 : Int).toNat * 8 + 7, none⟩ = false := hfr10 7; clear hcl10 hcc10 hfr10 hM10; replace p10 := eq_true p10; replace q10 := eq_true q10; have HX12 := Aside0.mk (show Kd.R k39 39 w11 w.heap.size (fun _ => True) (.slice (some ⟨go10, 0, none⟩) x3_1.length co10) x3_1 from (rx HO_3.out)); obtain ⟨ce12, hcl12, hM12, hcc12, hfr12⟩ := Kd.R_elem HX12.out z39 (x4_1 : Int) (of_decide_eq_true (by first | (with_reducible assumption) | assumption)) (by have h_ : (x4_1 : Int) < ((x3_1.length : Int) : Int) := of_decide_eq_true (by first | (with_reducible assumption) | assumption); first | exact h_ | (have e_ := (Kd.R_reads' HO_3.out).1; omega) | simpa using h_); obtain rfl := k39_openM hM12; have HP12 := Kd.R_seg HX12.out (x4_1 : Int) (of_decide_eq_true (by first | (with_reducible assumption) | assumption)) (by have h_ : (x4_1 : Int) < ((x3_1.length : Int) : Int) := of_decide_eq_true (by first | (with_reducible assumption) | assumption); first | exact h_ | (have e_ := (Kd.R_reads' HO_3.out).1; omega) | simpa using h_) (seg := [.string t354, .int .i64 t355, .string t356, .string t357, .int .i64 t358, .int .i64 t359, .string t360, .string t361]) (j := 0) hcl12 hcc12 (show 8 ≤ 8 from by decide) (x' := (⟨t354, t355, t356, t357, t358, t359, t360, t361⟩ : S39)) (k39_mkM _ _ _ (⟨t354, t355, t356, t357, t358, t359, t360, t361⟩ : S39) ) (fun _ hk => hk); have hx12_0 := hcc12 0 _ rfl; (try simp only [show (k39).sz = 8 from rfl, Nat.mul_one, Nat.add_zero] at hx12_0); have hf12_0 := hfr12 0; (try simp only [show (k39).sz = 8 from rfl, Nat.mul_one, Nat.add_zero] at hf12_0); have hx12_1 := hcc12 1 _ rfl; (try simp only [show (k39).sz = 8 from rfl, Nat.mul_one, Nat.add_zero] at hx12_1); have hf12_1 := hfr12 1; (try simp only [show (k39).sz = 8 from rfl, Nat.mul_one, Nat.add_zero] at hf12_1); have hx12_2 := hcc12 2 _ rfl; (try simp only [show (k39).sz = 8 from rfl, Nat.mul_one, Nat.add_zero] at hx12_2); have hf12_2 := hfr12 2; (try simp only [show (k39).sz = 8 from rfl, Nat.mul_one, Nat.add_zero] at hf12_2); have hx12_3 := hcc12 3 _ rfl; (try simp only [show (k39).sz = 8 from rfl, Nat.mul_one, Nat.add_zero] at hx12_3); have hf12_3 := hfr12 3; (try simp only [show (k39).sz = 8 from rfl, Nat.mul_one, Nat.add_zero] at hf12_3); have hx12_4 := hcc12 4 _ rfl; (try simp only [show (k39).sz = 8 from rfl, Nat.mul_one, Nat.add_zero] at hx12_4); have hf12_4 := hfr12 4; (try simp only [show (k39).sz = 8 from rfl, Nat.mul_one, Nat.add_zero] at hf12_4); have hx12_5 := hcc12 5 _ rfl; (try simp only [show (k39).sz = 8 from rfl, Nat.mul_one, Nat.add_zero] at hx12_5); have hf12_5 := hfr12 5; (try simp only [show (k39).sz = 8 from rfl, Nat.mul_one, Nat.add_zero] at hf12_5); have hx12_6 := hcc12 6 _ rfl; (try simp only [show (k39).sz = 8 from rfl, Nat.mul_one, Nat.add_zero] at hx12_6); have hf12_6 := hfr12 6; (try simp only [show (k39).sz = 8 from rfl, Nat.mul_one, Nat.add_zero] at hf12_6); have hx12_7 := hcc12 7 _ rfl; (try simp only [show (k39).sz = 8 from rfl, Nat.mul_one, Nat.add_zero] at hx12_7); have hf12_7 := hfr12 7; (try simp only [show (k39).sz = 8 from rfl, Nat.mul_one, Nat.add_zero] at hf12_7); clear hcl12 hcc12 hfr12 hM12) | ((with_reducible refine gate_store (t := 39) (p := 21) rfl ?_); refine store_event (t := 39) (p := 21) (v := ?vo_w13) (w1 := ((((((((w11.setCell ⟨go10, (x4_1 : Int).toNat * 8, none⟩ (.string t354)).setCell ⟨go10, (x4_1 : Int).toNat * 8 + 1, none⟩ (.int .i64 t355)).setCell ⟨go10, (x4_1 : Int).toNat * 8 + 2, none⟩ (.string t356)).setCell ⟨go10, (x4_1 : Int).toNat * 8 + 3, none⟩ (.string t357)).setCell ⟨go10, (x4_1 : Int).toNat * 8 + 4, none⟩ (.int .i64 t358)).setCell ⟨go10, (x4_1 : Int).toNat * 8 + 5, none⟩ (.int .i64 t359)).setCell ⟨go10, (x4_1 : Int).toNat * 8 + 6, none⟩ (.string t360)).setCell ⟨go10, (x4_1 : Int).toNat * 8 + 7, none⟩ (.string t361))) ?hg ?ho ?hn ?hr ?_; (case ho => rfl); (case hg => rfl); (case hn => rfl); (case hr => first | (go_simp; done) | (go_simp; rfl)); intro w13 hw; have hg : w11.grownBy w13 (some go10) := (by rw [hw]; exact HP12.2); have hp_ : Kd.R k39 39 w13 w.heap.size (fun _ => True) (.slice (some ⟨go10, 0, none⟩) x3_1.length co10) y362 := (by rw [hw, Ny362.out]; exact HP12.1); clear HP12; have n0_ := Aside0.mk (hp_); have n1_ := Aside0.mk ((by rw [hw]; exact below_set (below_set (below_set (below_set (below_set (below_set (below_set (below_set (HB.out) GB10.out) GB10.out) GB10.out) GB10.out) GB10.out) GB10.out) GB10.out) GB10.out : Below w.heap.size w w13)); clear HO_3; clear HB; have HO_3 := n0_; have HB := n1_; clear n0_ n1_; clear hg hw hp_))
                go_roundg k1
                case measure => have := HK1.out; omega
                case rel => exact ⟨(y362), (wrap64 (x4_1 + 1)), (by first | rfl | (simp; done) | (simp [*]; done)), H', ⟨by have := HK1.out; omega⟩, ⟨by refine rx ?_; exact HO_3.out⟩, (hbw HB)⟩
              · rw [if_neg c9] at H
                exact absurd H (by simp)
            · rw [if_neg c7] at H
              exact absurd H (by simp)
          · rw [if_neg c6] at H
            have c6b0 : decide (x4_1 < (l0.length : Int)) = false := decide_eq_false c6
            clear c6
            obtain rfl := Option.some.inj H
            go_wp2
            go_ret
            exact ⟨_, exq, by refine rx ?_; exact HO_3.out, bw HB.out⟩
    · rw [if_neg c3] at H
      exact absurd H (by simp)
  · rw [if_neg c2] at H
    exact absurd H (by simp)

end Go.Proofs.Ytdkologncoofdaa.P
-- Px33
namespace Go.Proofs.Ytdkologncoofdaa.P
open Go.RowKit Go.Proofs.YtdkologncoofdaaW.PrintWords Go.Proofs.YtdkologncoofdaaW.PrintLast Go.Proofs.YtdkologncoofdaaW.PrintMore
attribute [local go_sem] max2_int min2_int max_two min_two max_three min_three max_four min_four
set_option linter.unusedVariables false
def laws_eqRecPhase.f (a0_0 : ByteArray) (a0_1 : Int) (a0_2 : ByteArray) (a0_3 : ByteArray) (a0_4 : Int) (a0_5 : Int) (a0_6 : ByteArray) (a0_7 : ByteArray) (a1_0 : ByteArray) (a1_1 : Int) (a1_2 : ByteArray) (a1_3 : ByteArray) (a1_4 : Int) (a1_5 : Int) (a1_6 : ByteArray) (a1_7 : ByteArray) : Option (Bool) := if a0_0.toList = a1_0.toList then (if a0_1 = a1_1 then (if a0_2.toList = a1_2.toList then (if a0_3.toList = a1_3.toList then (if a0_4 = a1_4 then (if a0_5 = a1_5 then (if a0_6.toList = a1_6.toList then (if a0_7.toList = a1_7.toList then (some true) else (some false)) else (some false)) else (some false)) else (some false)) else (some false)) else (some false)) else (some false)) else (some false)
set_option maxHeartbeats 8000000 in
set_option maxRecDepth 100000 in
theorem laws_eqRecPhase.calls (a0_0 : ByteArray) (a0_1 : Int) (a0_2 : ByteArray) (a0_3 : ByteArray) (a0_4 : Int) (a0_5 : Int) (a0_6 : ByteArray) (a0_7 : ByteArray) (a1_0 : ByteArray) (a1_1 : Int) (a1_2 : ByteArray) (a1_3 : ByteArray) (a1_4 : Int) (a1_5 : Int) (a1_6 : ByteArray) (a1_7 : ByteArray) (r : Bool) (w : World) (h : laws_eqRecPhase.f a0_0 a0_1 a0_2 a0_3 a0_4 a0_5 a0_6 a0_7 a1_0 a1_1 a1_2 a1_3 a1_4 a1_5 a1_6 a1_7 = some r) :
    Calls Try.prog 83 #[.agg #[.string a0_0, .int .i64 a0_1, .string a0_2, .string a0_3, .int .i64 a0_4, .int .i64 a0_5, .string a0_6, .string a0_7], .agg #[.string a1_0, .int .i64 a1_1, .string a1_2, .string a1_3, .int .i64 a1_4, .int .i64 a1_5, .string a1_6, .string a1_7]] w fun e w' => e = .returned (.bool r) ∧ Below w.heap.size w w' := by
  have H := Aside0.mk h
  clear h
  go_enter Try.func83, Try.ntmps83
  go_wp2
  all_goals
    go_ret
    refine ⟨?_, by repeat (first | exact Below.refl _ _ | apply below_alloc | apply pw_below_drewN | apply below_drew1)⟩
    have h := H.out
    simp_all [laws_eqRecPhase.f]
end Go.Proofs.Ytdkologncoofdaa.P
-- Px34
namespace Go.Proofs.Ytdkologncoofdaa.P
open Go.RowKit Go.Proofs.YtdkologncoofdaaW.PrintWords Go.Proofs.YtdkologncoofdaaW.PrintLast Go.Proofs.YtdkologncoofdaaW.PrintMore
attribute [local go_sem] max2_int min2_int max_two min_two max_three min_three max_four min_four   -- for this text's walks alone
set_option linter.unusedVariables false
set_option linter.unusedSimpArgs false

/-! ### laws_eqRecPhaseS: function 39 -/
def laws_eqRecPhaseS.l0 : Nat → List (S39) → List (S39) → Int → Option (Bool)
  | 0, _, _, _ => none
  | k + 1, x0, x1, x5 => if x5 < (x0.length : Int) then (if 0 ≤ x5 then (if x5 < (x1.length : Int) then ((laws_eqRecPhase.f ((rd_T39 x0 x5).f0) ((rd_T39 x0 x5).f1) ((rd_T39 x0 x5).f2) ((rd_T39 x0 x5).f3) ((rd_T39 x0 x5).f4) ((rd_T39 x0 x5).f5) ((rd_T39 x0 x5).f6) ((rd_T39 x0 x5).f7) ((rd_T39 x1 x5).f0) ((rd_T39 x1 x5).f1) ((rd_T39 x1 x5).f2) ((rd_T39 x1 x5).f3) ((rd_T39 x1 x5).f4) ((rd_T39 x1 x5).f5) ((rd_T39 x1 x5).f6) ((rd_T39 x1 x5).f7)).bind fun t367 => (if t367 = true then (laws_eqRecPhaseS.l0 k x0 x1 (wrap64 (x5 + 1))) else (some false))) else (none)) else (none)) else (some true)
def laws_eqRecPhaseS.f (k : Nat) (l0 : List (S39)) (l1 : List (S39)) : Option (Bool) := if (l0.length : Int) = (l1.length : Int) then (laws_eqRecPhaseS.l0 k l0 l1 0) else (some false)
theorem laws_eqRecPhaseS.mono_l : ∀ k, (∀ y0 y1 y2, LeO (laws_eqRecPhaseS.l0 k y0 y1 y2) (laws_eqRecPhaseS.l0 (k + 1) y0 y1 y2))
  | 0 => fun _ _ _ r h => by simp [laws_eqRecPhaseS.l0] at h
  | k + 1 => by
    have ih0 := laws_eqRecPhaseS.mono_l k
    · intro y0 y1 y2
      unfold laws_eqRecPhaseS.l0
      repeat' first
      | (with_reducible exact ih0 _ _ _)
      | (with_reducible exact LeO.refl _)
      | (with_reducible exact LeO.none _)
      | (with_reducible refine LeO.ite ?_ ?_)
      | (with_reducible refine LeO.bind ?_ (fun _ => ?_))
      | exact ih0 _ _ _
      | exact LeO.none _
      | refine LeO.ite ?_ ?_
      | refine LeO.bind ?_ (fun _ => ?_)
theorem laws_eqRecPhaseS.mono : ∀ a0 a1 k, LeO (laws_eqRecPhaseS.f k a0 a1) (laws_eqRecPhaseS.f (k + 1) a0 a1) := by
  intro a0 a1 k
  have ih0 := laws_eqRecPhaseS.mono_l k
  unfold laws_eqRecPhaseS.f
  repeat' first
      | (with_reducible exact ih0 _ _ _)
      | (with_reducible exact LeO.refl _)
      | (with_reducible exact LeO.none _)
      | (with_reducible refine LeO.ite ?_ ?_)
      | (with_reducible refine LeO.bind ?_ (fun _ => ?_))
      | exact ih0 _ _ _
      | exact LeO.none _
      | refine LeO.ite ?_ ?_
      | refine LeO.bind ?_ (fun _ => ?_)
def laws_eqRecPhaseS.T6 : Bool × List (List Nat × List Nat) := (true, [([], []), ([], []), ([0, 1], [0, 1]), ([2], [2]), ([], []), ([], []), ([4, 5], [4, 5]), ([6], [6]), ([3, 7], [3, 7]), ([8], [8])])
def laws_eqRecPhaseS.B6 : List Nat := [0, 0, 3, 7, 0, 0, 48, 112, 255, 511]
theorem laws_eqRecPhaseS.tab6 : rtab .any (opsOf Try.f39 6) = laws_eqRecPhaseS.T6 := by kernel_rfl
theorem laws_eqRecPhaseS.bits6 : waitsOk laws_eqRecPhaseS.T6.2 laws_eqRecPhaseS.B6 = true := by kernel_rfl
set_option maxHeartbeats 8000000 in
set_option maxRecDepth 100000 in
theorem laws_eqRecPhaseS.calls (k : Nat) (A0 : Option Addr) (c0 : Nat) (l0 : List (S39)) (A1 : Option Addr) (c1 : Nat) (l1 : List (S39)) (r : Bool) (w : World) (hr0 : Kd.C k39 w A0 l0.length l0) (hc0 : l0.length ≤ c0) (hr1 : Kd.C k39 w A1 l1.length l1) (hc1 : l1.length ≤ c1) (h : laws_eqRecPhaseS.f k l0 l1 = some r) :
    Calls Try.prog 39 #[.slice A0 l0.length c0, .slice A1 l1.length c1] w fun e w' => e = .returned (.bool r) ∧ Below w.heap.size w w' := by
  have hu39 := Try.underlying39
  have HR0 := Aside0.mk hr0
  have HC0 := Aside0.mk hc0
  clear hr0 hc0
  have HR1 := Aside0.mk hr1
  have HC1 := Aside0.mk hc1
  clear hr1 hc1
  have HB := Aside0.mk (Below.refl w.heap.size w)
  have H : (if (l0.length : Int) = (l1.length : Int) then (laws_eqRecPhaseS.l0 k l0 l1 0) else (some false)) = some r := h
  clear h
  by_cases c3 : (l0.length : Int) = (l1.length : Int)
  · rw [if_pos c3] at H
    have c3b0 : ((l0.length : Int) == (l1.length : Int)) = true := beq_iff_eq.mpr c3
    have c3b1 : ((l0.length : Int) != (l1.length : Int)) = false := bne_eq_false_iff_eq.mpr c3
    have c3b2 : (l0.length == l1.length) = true := by first | simpa using c3 | (simp at c3 ⊢; omega)
    clear c3
    have H' := Aside0.mk H
    clear H
    go_enter Try.func39, Try.ntmps39
    go_wp2
    go_loopg [5] k (fun kq v5 w' => ∃ (x5_1 : Int), v5 = .int .i64 x5_1 ∧ Aside0 (laws_eqRecPhaseS.l0 kq l0 l1 x5_1 = some r) ∧ Aside0 (kq ≤ k) ∧ Aside0 (Below w.heap.size w w'))
    case atStart => exact ⟨(0), (by first | rfl | (simp; done) | (simp [*]; done)), H', ⟨Nat.le_refl _⟩, (hbw HB)⟩
    case round =>
      clear H'
      try clear c1
      try clear p2
      try clear c3
      try clear c3b0
      try clear c3b1
      try clear c3b2
      obtain ⟨x5_1, rfl, HA, HK1, HB⟩ := hrel
      cases gk with
      | zero => exact absurd HA.out (by simp [laws_eqRecPhaseS.l0])
      | succ k1 =>
        have H := HA.out
        clear HA
        simp only [laws_eqRecPhaseS.l0] at H
        by_cases c4 : x5_1 < (l0.length : Int)
        · rw [if_pos c4] at H
          have c4b0 : decide (x5_1 < (l0.length : Int)) = true := decide_eq_true c4
          clear c4
          by_cases c5 : 0 ≤ x5_1
          · rw [if_pos c5] at H
            have c5b0 : decide (0 ≤ x5_1) = true := decide_eq_true c5
            clear c5
            by_cases c6 : x5_1 < (l1.length : Int)
            · rw [if_pos c6] at H
              have c6b0 : decide (x5_1 < (l1.length : Int)) = true := decide_eq_true c6
              clear c6
              replace H := Option.bind_eq_some_iff.mp H
              obtain ⟨t367, A70, H⟩ := H
              replace H : (if t367 = true then (laws_eqRecPhaseS.l0 k1 l0 l1 (wrap64 (x5_1 + 1))) else (some false)) = some r := H
              have A7 := Aside0.mk A70
              clear A70
              by_cases c8 : t367 = true
              · subst c8
                have H1 : (laws_eqRecPhaseS.l0 k1 l0 l1 (wrap64 (x5_1 + 1))) = some r := by rw [if_pos rfl] at H; exact H
                clear H
                have H := H1
                clear H1
                have H' := Aside0.mk H
                clear H
                try go_wp2
                have n0_ := Aside0.mk (below_drew1 HB.out)
                clear HB
                have HB := n0_
                clear n0_
                have p365 : 0 ≤ (x5_1 : Int) := of_decide_eq_true (by first | (with_reducible assumption) | assumption)
                have q365 : x5_1 < (l0.length : Int) := of_decide_eq_true (by first | (with_reducible assumption) | assumption)
                obtain ⟨ad365, e365, hx365_0, hx365_1, hx365_2, hx365_3, hx365_4, hx365_5, hx365_6, hx365_7⟩ := at_T39 HR0.out x5_1 p365 q365
                have hw365_7 := hx365_7
                have hw365_6 := hx365_6
                have hw365_5 := hx365_5
                have hw365_4 := hx365_4
                have hw365_3 := hx365_3
                have hw365_2 := hx365_2
                have hw365_1 := hx365_1
                have hw365_0 := hx365_0
                cases e365
                replace hx365_0 := bcl HB hx365_0
                replace hx365_1 := bcl HB hx365_1
                replace hx365_2 := bcl HB hx365_2
                replace hx365_3 := bcl HB hx365_3
                replace hx365_4 := bcl HB hx365_4
                replace hx365_5 := bcl HB hx365_5
                replace hx365_6 := bcl HB hx365_6
                replace hx365_7 := bcl HB hx365_7
                replace p365 := eq_true p365
                replace q365 := eq_true q365
                have p366 : 0 ≤ (x5_1 : Int) := of_decide_eq_true (by first | (with_reducible assumption) | assumption)
                have q366 : x5_1 < (l1.length : Int) := of_decide_eq_true (by first | (with_reducible assumption) | assumption)
                obtain ⟨ad366, e366, hx366_0, hx366_1, hx366_2, hx366_3, hx366_4, hx366_5, hx366_6, hx366_7⟩ := at_T39 HR1.out x5_1 p366 q366
                have hw366_7 := hx366_7
                have hw366_6 := hx366_6
                have hw366_5 := hx366_5
                have hw366_4 := hx366_4
                have hw366_3 := hx366_3
                have hw366_2 := hx366_2
                have hw366_1 := hx366_1
                have hw366_0 := hx366_0
                cases e366
                replace hx366_0 := bcl HB hx366_0
                replace hx366_1 := bcl HB hx366_1
                replace hx366_2 := bcl HB hx366_2
                replace hx366_3 := bcl HB hx366_3
                replace hx366_4 := bcl HB hx366_4
                replace hx366_5 := bcl HB hx366_5
                replace hx366_6 := bcl HB hx366_6
                replace hx366_7 := bcl HB hx366_7
                replace p366 := eq_true p366
                replace q366 := eq_true q366
                refine start_ (n := 10) (S := fun w' => w'.cell? (ad365.add ((x5_1).toNat * 8)) = some (.string ((rd_T39 l0 x5_1).f0)) ∧ w'.cell? ⟨(ad365.add ((x5_1).toNat * 8)).block, (ad365.add ((x5_1).toNat * 8)).off + 1, none⟩ = some (.int .i64 ((rd_T39 l0 x5_1).f1)) ∧ w'.cell? ⟨(ad365.add ((x5_1).toNat * 8)).block, (ad365.add ((x5_1).toNat * 8)).off + 2, none⟩ = some (.string ((rd_T39 l0 x5_1).f2)) ∧ w'.cell? ⟨(ad365.add ((x5_1).toNat * 8)).block, (ad365.add ((x5_1).toNat * 8)).off + 3, none⟩ = some (.string ((rd_T39 l0 x5_1).f3)) ∧ w'.cell? ⟨(ad365.add ((x5_1).toNat * 8)).block, (ad365.add ((x5_1).toNat * 8)).off + 4, none⟩ = some (.int .i64 ((rd_T39 l0 x5_1).f4)) ∧ w'.cell? ⟨(ad365.add ((x5_1).toNat * 8)).block, (ad365.add ((x5_1).toNat * 8)).off + 5, none⟩ = some (.int .i64 ((rd_T39 l0 x5_1).f5)) ∧ w'.cell? ⟨(ad365.add ((x5_1).toNat * 8)).block, (ad365.add ((x5_1).toNat * 8)).off + 6, none⟩ = some (.string ((rd_T39 l0 x5_1).f6)) ∧ w'.cell? ⟨(ad365.add ((x5_1).toNat * 8)).block, (ad365.add ((x5_1).toNat * 8)).off + 7, none⟩ = some (.string ((rd_T39 l0 x5_1).f7)) ∧ w'.cell? (ad366.add ((x5_1).toNat * 8)) = some (.string ((rd_T39 l1 x5_1).f0)) ∧ w'.cell? ⟨(ad366.add ((x5_1).toNat * 8)).block, (ad366.add ((x5_1).toNat * 8)).off + 1, none⟩ = some (.int .i64 ((rd_T39 l1 x5_1).f1)) ∧ w'.cell? ⟨(ad366.add ((x5_1).toNat * 8)).block, (ad366.add ((x5_1).toNat * 8)).off + 2, none⟩ = some (.string ((rd_T39 l1 x5_1).f2)) ∧ w'.cell? ⟨(ad366.add ((x5_1).toNat * 8)).block, (ad366.add ((x5_1).toNat * 8)).off + 3, none⟩ = some (.string ((rd_T39 l1 x5_1).f3)) ∧ w'.cell? ⟨(ad366.add ((x5_1).toNat * 8)).block, (ad366.add ((x5_1).toNat * 8)).off + 4, none⟩ = some (.int .i64 ((rd_T39 l1 x5_1).f4)) ∧ w'.cell? ⟨(ad366.add ((x5_1).toNat * 8)).block, (ad366.add ((x5_1).toNat * 8)).off + 5, none⟩ = some (.int .i64 ((rd_T39 l1 x5_1).f5)) ∧ w'.cell? ⟨(ad366.add ((x5_1).toNat * 8)).block, (ad366.add ((x5_1).toNat * 8)).off + 6, none⟩ = some (.string ((rd_T39 l1 x5_1).f6)) ∧ w'.cell? ⟨(ad366.add ((x5_1).toNat * 8)).block, (ad366.add ((x5_1).toNat * 8)).off + 7, none⟩ = some (.string ((rd_T39 l1 x5_1).f7))) (ds := []) #[false, false, false, false, false, false, false, false, false, false] (by kernel_rfl) rfl rfl ⟨((HB.out.cell (World.block_lt_of_cell? w _ hw365_0)).trans hw365_0), ((HB.out.cell (World.block_lt_of_cell? w _ hw365_1)).trans hw365_1), ((HB.out.cell (World.block_lt_of_cell? w _ hw365_2)).trans hw365_2), ((HB.out.cell (World.block_lt_of_cell? w _ hw365_3)).trans hw365_3), ((HB.out.cell (World.block_lt_of_cell? w _ hw365_4)).trans hw365_4), ((HB.out.cell (World.block_lt_of_cell? w _ hw365_5)).trans hw365_5), ((HB.out.cell (World.block_lt_of_cell? w _ hw365_6)).trans hw365_6), ((HB.out.cell (World.block_lt_of_cell? w _ hw365_7)).trans hw365_7), ((HB.out.cell (World.block_lt_of_cell? w _ hw366_0)).trans hw366_0), ((HB.out.cell (World.block_lt_of_cell? w _ hw366_1)).trans hw366_1), ((HB.out.cell (World.block_lt_of_cell? w _ hw366_2)).trans hw366_2), ((HB.out.cell (World.block_lt_of_cell? w _ hw366_3)).trans hw366_3), ((HB.out.cell (World.block_lt_of_cell? w _ hw366_4)).trans hw366_4), ((HB.out.cell (World.block_lt_of_cell? w _ hw366_5)).trans hw366_5), ((HB.out.cell (World.block_lt_of_cell? w _ hw366_6)).trans hw366_6), ((HB.out.cell (World.block_lt_of_cell? w _ hw366_7)).trans hw366_7)⟩ (fun hHeld => ?_); refine with_tabW laws_eqRecPhaseS.tab6 laws_eqRecPhaseS.bits6 (fun HT_ HW_ => ?_)
                generalize wr.drew = w9 at HB hx365_0 hx365_1 hx365_2 hx365_3 hx365_4 hx365_5 hx365_6 hx365_7 hx366_0 hx366_1 hx366_2 hx366_3 hx366_4 hx366_5 hx366_6 hx366_7 hHeld ⊢
                refine pure_ (i := 0) (N := some 17) (v := ?_) (a' := ?_) #[true, false, false, false, false, false, false, false, false, false] rfl rfl (any_of HT_.out (by kernel_rfl)) (fun _ _ _ h => h) (Or.inl ⟨by rfl, ?_⟩) ?_ ?_
                rotate_left
                · intro w'
                  go_simp
                  with_reducible rfl
                rotate_left
                · simp only [Act.put, List.setIfInBounds_toArray, List.set_cons_zero, List.set_cons_succ, i64_w, i32_w]
                  rfl
                refine pure_ (i := 1) (N := some 18) (v := ?_) (a' := ?_) #[true, true, false, false, false, false, false, false, false, false] rfl rfl (any_of HT_.out (by kernel_rfl)) (fun _ _ _ h => h) (Or.inl ⟨by rfl, ?_⟩) ?_ ?_
                rotate_left
                · intro w'
                  go_simp
                  with_reducible rfl
                rotate_left
                · simp only [Act.put, List.setIfInBounds_toArray, List.set_cons_zero, List.set_cons_succ, i64_w, i32_w]
                  rfl
                refine pure_ (i := 2) (N := some 19) (v := ?_) (a' := ?_) #[true, true, true, false, false, false, false, false, false, false] rfl rfl (any_of HT_.out (by kernel_rfl)) (fun _ _ _ h => h) (Or.inl ⟨by rfl, ?_⟩) ?_ ?_
                rotate_left
                · intro w'
                  go_simp
                  with_reducible rfl
                rotate_left
                · simp only [Act.put, List.setIfInBounds_toArray, List.set_cons_zero, List.set_cons_succ, i64_w, i32_w]
                  rfl
                refine pure_ (i := 4) (N := some 21) (v := ?_) (a' := ?_) #[true, true, true, false, true, false, false, false, false, false] rfl rfl (any_of HT_.out (by kernel_rfl)) (fun _ _ _ h => h) (Or.inl ⟨by rfl, ?_⟩) ?_ ?_
                rotate_left
                · intro w'
                  go_simp
                  with_reducible rfl
                rotate_left
                · simp only [Act.put, List.setIfInBounds_toArray, List.set_cons_zero, List.set_cons_succ, i64_w, i32_w]
                  rfl
                refine pure_ (i := 5) (N := some 22) (v := ?_) (a' := ?_) #[true, true, true, false, true, true, false, false, false, false] rfl rfl (any_of HT_.out (by kernel_rfl)) (fun _ _ _ h => h) (Or.inl ⟨by rfl, ?_⟩) ?_ ?_
                rotate_left
                · intro w'
                  go_simp
                  with_reducible rfl
                rotate_left
                · simp only [Act.put, List.setIfInBounds_toArray, List.set_cons_zero, List.set_cons_succ, i64_w, i32_w]
                  rfl
                refine pure_ (i := 6) (N := some 23) (v := ?_) (a' := ?_) #[true, true, true, false, true, true, true, false, false, false] rfl rfl (any_of HT_.out (by kernel_rfl)) (fun _ _ _ h => h) (Or.inl ⟨by rfl, ?_⟩) ?_ ?_
                rotate_left
                · intro w'
                  go_simp
                  with_reducible rfl
                rotate_left
                · simp only [Act.put, List.setIfInBounds_toArray, List.set_cons_zero, List.set_cons_succ, i64_w, i32_w]
                  rfl
                refine take_ (i := 3) (N := some 20) (v := ?_) (a' := ?_) #[true, true, true, true, true, true, true, false, false, false] rfl rfl (take_ofW HT_.out HW_.out (by kernel_rfl)) (fun _ _ _ h => h) (Or.inl ⟨by rfl, ?_⟩) hHeld ?_ ?_
                rotate_left
                · rintro w' ⟨s0, s1, s2, s3, s4, s5, s6, s7, s8, s9, s10, s11, s12, s13, s14, s15⟩
                  go_simp
                  with_reducible rfl
                rotate_left
                · simp only [Act.put, List.setIfInBounds_toArray, List.set_cons_zero, List.set_cons_succ, i64_w, i32_w]
                  rfl
                refine take_ (i := 7) (N := some 24) (v := ?_) (a' := ?_) #[true, true, true, true, true, true, true, true, false, false] rfl rfl (take_ofW HT_.out HW_.out (by kernel_rfl)) (fun _ _ _ h => h) (Or.inl ⟨by rfl, ?_⟩) hHeld ?_ ?_
                rotate_left
                · rintro w' ⟨s0, s1, s2, s3, s4, s5, s6, s7, s8, s9, s10, s11, s12, s13, s14, s15⟩
                  go_simp
                  with_reducible rfl
                rotate_left
                · simp only [Act.put, List.setIfInBounds_toArray, List.set_cons_zero, List.set_cons_succ, i64_w, i32_w]
                  rfl
                refine one_ (i := 8) (N := some 25) #[true, true, true, true, true, true, true, true, true, false] rfl rfl (one_of HT_.out (by kernel_rfl)) (by decide) (fun K hK => ?_)
                refine goes_ Try.func83 (by kernel_rfl) rfl #[.agg #[.string ((rd_T39 l0 x5_1).f0), .int .i64 ((rd_T39 l0 x5_1).f1), .string ((rd_T39 l0 x5_1).f2), .string ((rd_T39 l0 x5_1).f3), .int .i64 ((rd_T39 l0 x5_1).f4), .int .i64 ((rd_T39 l0 x5_1).f5), .string ((rd_T39 l0 x5_1).f6), .string ((rd_T39 l0 x5_1).f7)], .agg #[.string ((rd_T39 l1 x5_1).f0), .int .i64 ((rd_T39 l1 x5_1).f1), .string ((rd_T39 l1 x5_1).f2), .string ((rd_T39 l1 x5_1).f3), .int .i64 ((rd_T39 l1 x5_1).f4), .int .i64 ((rd_T39 l1 x5_1).f5), .string ((rd_T39 l1 x5_1).f6), .string ((rd_T39 l1 x5_1).f7)]] (by rfl) rfl rfl mxp ?_
                with_reducible refine (laws_eqRecPhase.calls ((rd_T39 l0 x5_1).f0) ((rd_T39 l0 x5_1).f1) ((rd_T39 l0 x5_1).f2) ((rd_T39 l0 x5_1).f3) ((rd_T39 l0 x5_1).f4) ((rd_T39 l0 x5_1).f5) ((rd_T39 l0 x5_1).f6) ((rd_T39 l0 x5_1).f7) ((rd_T39 l1 x5_1).f0) ((rd_T39 l1 x5_1).f1) ((rd_T39 l1 x5_1).f2) ((rd_T39 l1 x5_1).f3) ((rd_T39 l1 x5_1).f4) ((rd_T39 l1 x5_1).f5) ((rd_T39 l1 x5_1).f6) ((rd_T39 l1 x5_1).f7) true _ A7.out).mono ?_
                rintro e w10 ⟨rfl, hb⟩
                refine ⟨_, rfl, ?_⟩
                have n0_ := bs HB hb
                clear HB
                have HB := n0_
                clear n0_
                (try clear hb)
                (try clear hb2)
                (try clear hk)
                (try clear hi)
                refine hK.out _ _ ⟨((HB.out.cell (World.block_lt_of_cell? w _ hw365_0)).trans hw365_0), ((HB.out.cell (World.block_lt_of_cell? w _ hw365_1)).trans hw365_1), ((HB.out.cell (World.block_lt_of_cell? w _ hw365_2)).trans hw365_2), ((HB.out.cell (World.block_lt_of_cell? w _ hw365_3)).trans hw365_3), ((HB.out.cell (World.block_lt_of_cell? w _ hw365_4)).trans hw365_4), ((HB.out.cell (World.block_lt_of_cell? w _ hw365_5)).trans hw365_5), ((HB.out.cell (World.block_lt_of_cell? w _ hw365_6)).trans hw365_6), ((HB.out.cell (World.block_lt_of_cell? w _ hw365_7)).trans hw365_7), ((HB.out.cell (World.block_lt_of_cell? w _ hw366_0)).trans hw366_0), ((HB.out.cell (World.block_lt_of_cell? w _ hw366_1)).trans hw366_1), ((HB.out.cell (World.block_lt_of_cell? w _ hw366_2)).trans hw366_2), ((HB.out.cell (World.block_lt_of_cell? w _ hw366_3)).trans hw366_3), ((HB.out.cell (World.block_lt_of_cell? w _ hw366_4)).trans hw366_4), ((HB.out.cell (World.block_lt_of_cell? w _ hw366_5)).trans hw366_5), ((HB.out.cell (World.block_lt_of_cell? w _ hw366_6)).trans hw366_6), ((HB.out.cell (World.block_lt_of_cell? w _ hw366_7)).trans hw366_7)⟩ (fun hHeld => ?_)
                clear hK K
                refine norm_ (a' := ?_) ?_ ?_
                rotate_left
                · show Act.put _ (some 25) _ = _
                  simp only [Act.put, List.setIfInBounds_toArray, List.set_cons_zero, List.set_cons_succ, i64_w, i32_w]
                  rfl
                refine pure_ (i := 9) (N := some 26) (v := ?_) (a' := ?_) #[true, true, true, true, true, true, true, true, true, true] rfl rfl (any_of HT_.out (by kernel_rfl)) (fun _ _ _ h => h) (Or.inl ⟨by rfl, ?_⟩) ?_ ?_
                rotate_left
                · intro w'
                  go_simp
                  with_reducible rfl
                rotate_left
                · simp only [Act.put, List.setIfInBounds_toArray, List.set_cons_zero, List.set_cons_succ, i64_w, i32_w]
                  rfl
                refine done_ (done_of HT_.out (by kernel_rfl)) ?_
                try go_wp2
                go_roundg k1
                case measure => have := HK1.out; omega
                case rel => exact ⟨(wrap64 (x5_1 + 1)), (by first | rfl | (simp; done) | (simp [*]; done)), H', ⟨by have := HK1.out; omega⟩, (hbw HB)⟩
              · replace c8 := Bool.eq_false_iff.mpr c8
                subst c8
                have H1 : (some false) = some r := by rw [if_neg (show ¬ (false = true) by decide)] at H; exact H
                clear H
                have H := H1
                clear H1
                obtain rfl := Option.some.inj H
                try go_wp2
                have n0_ := Aside0.mk (below_drew1 HB.out)
                clear HB
                have HB := n0_
                clear n0_
                have p365 : 0 ≤ (x5_1 : Int) := of_decide_eq_true (by first | (with_reducible assumption) | assumption)
                have q365 : x5_1 < (l0.length : Int) := of_decide_eq_true (by first | (with_reducible assumption) | assumption)
                obtain ⟨ad365, e365, hx365_0, hx365_1, hx365_2, hx365_3, hx365_4, hx365_5, hx365_6, hx365_7⟩ := at_T39 HR0.out x5_1 p365 q365
                have hw365_7 := hx365_7
                have hw365_6 := hx365_6
                have hw365_5 := hx365_5
                have hw365_4 := hx365_4
                have hw365_3 := hx365_3
                have hw365_2 := hx365_2
                have hw365_1 := hx365_1
                have hw365_0 := hx365_0
                cases e365
                replace hx365_0 := bcl HB hx365_0
                replace hx365_1 := bcl HB hx365_1
                replace hx365_2 := bcl HB hx365_2
                replace hx365_3 := bcl HB hx365_3
                replace hx365_4 := bcl HB hx365_4
                replace hx365_5 := bcl HB hx365_5
                replace hx365_6 := bcl HB hx365_6
                replace hx365_7 := bcl HB hx365_7
                replace p365 := eq_true p365
                replace q365 := eq_true q365
                have p366 : 0 ≤ (x5_1 : Int) := of_decide_eq_true (by first | (with_reducible assumption) | assumption)
                have q366 : x5_1 < (l1.length : Int) := of_decide_eq_true (by first | (with_reducible assumption) | assumption)
                obtain ⟨ad366, e366, hx366_0, hx366_1, hx366_2, hx366_3, hx366_4, hx366_5, hx366_6, hx366_7⟩ := at_T39 HR1.out x5_1 p366 q366
                have hw366_7 := hx366_7
                have hw366_6 := hx366_6
                have hw366_5 := hx366_5
                have hw366_4 := hx366_4
                have hw366_3 := hx366_3
                have hw366_2 := hx366_2
                have hw366_1 := hx366_1
                have hw366_0 := hx366_0
                cases e366
                replace hx366_0 := bcl HB hx366_0
                replace hx366_1 := bcl HB hx366_1
                replace hx366_2 := bcl HB hx366_2
                replace hx366_3 := bcl HB hx366_3
                replace hx366_4 := bcl HB hx366_4
                replace hx366_5 := bcl HB hx366_5
                replace hx366_6 := bcl HB hx366_6
                replace hx366_7 := bcl HB hx366_7
                replace p366 := eq_true p366
                replace q366 := eq_true q366
                refine start_ (n := 10) (S := fun w' => w'.cell? (ad365.add ((x5_1).toNat * 8)) = some (.string ((rd_T39 l0 x5_1).f0)) ∧ w'.cell? ⟨(ad365.add ((x5_1).toNat * 8)).block, (ad365.add ((x5_1).toNat * 8)).off + 1, none⟩ = some (.int .i64 ((rd_T39 l0 x5_1).f1)) ∧ w'.cell? ⟨(ad365.add ((x5_1).toNat * 8)).block, (ad365.add ((x5_1).toNat * 8)).off + 2, none⟩ = some (.string ((rd_T39 l0 x5_1).f2)) ∧ w'.cell? ⟨(ad365.add ((x5_1).toNat * 8)).block, (ad365.add ((x5_1).toNat * 8)).off + 3, none⟩ = some (.string ((rd_T39 l0 x5_1).f3)) ∧ w'.cell? ⟨(ad365.add ((x5_1).toNat * 8)).block, (ad365.add ((x5_1).toNat * 8)).off + 4, none⟩ = some (.int .i64 ((rd_T39 l0 x5_1).f4)) ∧ w'.cell? ⟨(ad365.add ((x5_1).toNat * 8)).block, (ad365.add ((x5_1).toNat * 8)).off + 5, none⟩ = some (.int .i64 ((rd_T39 l0 x5_1).f5)) ∧ w'.cell? ⟨(ad365.add ((x5_1).toNat * 8)).block, (ad365.add ((x5_1).toNat * 8)).off + 6, none⟩ = some (.string ((rd_T39 l0 x5_1).f6)) ∧ w'.cell? ⟨(ad365.add ((x5_1).toNat * 8)).block, (ad365.add ((x5_1).toNat * 8)).off + 7, none⟩ = some (.string ((rd_T39 l0 x5_1).f7)) ∧ w'.cell? (ad366.add ((x5_1).toNat * 8)) = some (.string ((rd_T39 l1 x5_1).f0)) ∧ w'.cell? ⟨(ad366.add ((x5_1).toNat * 8)).block, (ad366.add ((x5_1).toNat * 8)).off + 1, none⟩ = some (.int .i64 ((rd_T39 l1 x5_1).f1)) ∧ w'.cell? ⟨(ad366.add ((x5_1).toNat * 8)).block, (ad366.add ((x5_1).toNat * 8)).off + 2, none⟩ = some (.string ((rd_T39 l1 x5_1).f2)) ∧ w'.cell? ⟨(ad366.add ((x5_1).toNat * 8)).block, (ad366.add ((x5_1).toNat * 8)).off + 3, none⟩ = some (.string ((rd_T39 l1 x5_1).f3)) ∧ w'.cell? ⟨(ad366.add ((x5_1).toNat * 8)).block, (ad366.add ((x5_1).toNat * 8)).off + 4, none⟩ = some (.int .i64 ((rd_T39 l1 x5_1).f4)) ∧ w'.cell? ⟨(ad366.add ((x5_1).toNat * 8)).block, (ad366.add ((x5_1).toNat * 8)).off + 5, none⟩ = some (.int .i64 ((rd_T39 l1 x5_1).f5)) ∧ w'.cell? ⟨(ad366.add ((x5_1).toNat * 8)).block, (ad366.add ((x5_1).toNat * 8)).off + 6, none⟩ = some (.string ((rd_T39 l1 x5_1).f6)) ∧ w'.cell? ⟨(ad366.add ((x5_1).toNat * 8)).block, (ad366.add ((x5_1).toNat * 8)).off + 7, none⟩ = some (.string ((rd_T39 l1 x5_1).f7))) (ds := []) #[false, false, false, false, false, false, false, false, false, false] (by kernel_rfl) rfl rfl ⟨((HB.out.cell (World.block_lt_of_cell? w _ hw365_0)).trans hw365_0), ((HB.out.cell (World.block_lt_of_cell? w _ hw365_1)).trans hw365_1), ((HB.out.cell (World.block_lt_of_cell? w _ hw365_2)).trans hw365_2), ((HB.out.cell (World.block_lt_of_cell? w _ hw365_3)).trans hw365_3), ((HB.out.cell (World.block_lt_of_cell? w _ hw365_4)).trans hw365_4), ((HB.out.cell (World.block_lt_of_cell? w _ hw365_5)).trans hw365_5), ((HB.out.cell (World.block_lt_of_cell? w _ hw365_6)).trans hw365_6), ((HB.out.cell (World.block_lt_of_cell? w _ hw365_7)).trans hw365_7), ((HB.out.cell (World.block_lt_of_cell? w _ hw366_0)).trans hw366_0), ((HB.out.cell (World.block_lt_of_cell? w _ hw366_1)).trans hw366_1), ((HB.out.cell (World.block_lt_of_cell? w _ hw366_2)).trans hw366_2), ((HB.out.cell (World.block_lt_of_cell? w _ hw366_3)).trans hw366_3), ((HB.out.cell (World.block_lt_of_cell? w _ hw366_4)).trans hw366_4), ((HB.out.cell (World.block_lt_of_cell? w _ hw366_5)).trans hw366_5), ((HB.out.cell (World.block_lt_of_cell? w _ hw366_6)).trans hw366_6), ((HB.out.cell (World.block_lt_of_cell? w _ hw366_7)).trans hw366_7)⟩ (fun hHeld => ?_); refine with_tabW laws_eqRecPhaseS.tab6 laws_eqRecPhaseS.bits6 (fun HT_ HW_ => ?_)
                generalize wr.drew = w11 at HB hx365_0 hx365_1 hx365_2 hx365_3 hx365_4 hx365_5 hx365_6 hx365_7 hx366_0 hx366_1 hx366_2 hx366_3 hx366_4 hx366_5 hx366_6 hx366_7 hHeld ⊢
                refine pure_ (i := 0) (N := some 17) (v := ?_) (a' := ?_) #[true, false, false, false, false, false, false, false, false, false] rfl rfl (any_of HT_.out (by kernel_rfl)) (fun _ _ _ h => h) (Or.inl ⟨by rfl, ?_⟩) ?_ ?_
                rotate_left
                · intro w'
                  go_simp
                  with_reducible rfl
                rotate_left
                · simp only [Act.put, List.setIfInBounds_toArray, List.set_cons_zero, List.set_cons_succ, i64_w, i32_w]
                  rfl
                refine pure_ (i := 1) (N := some 18) (v := ?_) (a' := ?_) #[true, true, false, false, false, false, false, false, false, false] rfl rfl (any_of HT_.out (by kernel_rfl)) (fun _ _ _ h => h) (Or.inl ⟨by rfl, ?_⟩) ?_ ?_
                rotate_left
                · intro w'
                  go_simp
                  with_reducible rfl
                rotate_left
                · simp only [Act.put, List.setIfInBounds_toArray, List.set_cons_zero, List.set_cons_succ, i64_w, i32_w]
                  rfl
                refine pure_ (i := 2) (N := some 19) (v := ?_) (a' := ?_) #[true, true, true, false, false, false, false, false, false, false] rfl rfl (any_of HT_.out (by kernel_rfl)) (fun _ _ _ h => h) (Or.inl ⟨by rfl, ?_⟩) ?_ ?_
                rotate_left
                · intro w'
                  go_simp
                  with_reducible rfl
                rotate_left
                · simp only [Act.put, List.setIfInBounds_toArray, List.set_cons_zero, List.set_cons_succ, i64_w, i32_w]
                  rfl
                refine pure_ (i := 4) (N := some 21) (v := ?_) (a' := ?_) #[true, true, true, false, true, false, false, false, false, false] rfl rfl (any_of HT_.out (by kernel_rfl)) (fun _ _ _ h => h) (Or.inl ⟨by rfl, ?_⟩) ?_ ?_
                rotate_left
                · intro w'
                  go_simp
                  with_reducible rfl
                rotate_left
                · simp only [Act.put, List.setIfInBounds_toArray, List.set_cons_zero, List.set_cons_succ, i64_w, i32_w]
                  rfl
                refine pure_ (i := 5) (N := some 22) (v := ?_) (a' := ?_) #[true, true, true, false, true, true, false, false, false, false] rfl rfl (any_of HT_.out (by kernel_rfl)) (fun _ _ _ h => h) (Or.inl ⟨by rfl, ?_⟩) ?_ ?_
                rotate_left
                · intro w'
                  go_simp
                  with_reducible rfl
                rotate_left
                · simp only [Act.put, List.setIfInBounds_toArray, List.set_cons_zero, List.set_cons_succ, i64_w, i32_w]
                  rfl
                refine pure_ (i := 6) (N := some 23) (v := ?_) (a' := ?_) #[true, true, true, false, true, true, true, false, false, false] rfl rfl (any_of HT_.out (by kernel_rfl)) (fun _ _ _ h => h) (Or.inl ⟨by rfl, ?_⟩) ?_ ?_
                rotate_left
                · intro w'
                  go_simp
                  with_reducible rfl
                rotate_left
                · simp only [Act.put, List.setIfInBounds_toArray, List.set_cons_zero, List.set_cons_succ, i64_w, i32_w]
                  rfl
                refine take_ (i := 3) (N := some 20) (v := ?_) (a' := ?_) #[true, true, true, true, true, true, true, false, false, false] rfl rfl (take_ofW HT_.out HW_.out (by kernel_rfl)) (fun _ _ _ h => h) (Or.inl ⟨by rfl, ?_⟩) hHeld ?_ ?_
                rotate_left
                · rintro w' ⟨s0, s1, s2, s3, s4, s5, s6, s7, s8, s9, s10, s11, s12, s13, s14, s15⟩
                  go_simp
                  with_reducible rfl
                rotate_left
                · simp only [Act.put, List.setIfInBounds_toArray, List.set_cons_zero, List.set_cons_succ, i64_w, i32_w]
                  rfl
                refine take_ (i := 7) (N := some 24) (v := ?_) (a' := ?_) #[true, true, true, true, true, true, true, true, false, false] rfl rfl (take_ofW HT_.out HW_.out (by kernel_rfl)) (fun _ _ _ h => h) (Or.inl ⟨by rfl, ?_⟩) hHeld ?_ ?_
                rotate_left
                · rintro w' ⟨s0, s1, s2, s3, s4, s5, s6, s7, s8, s9, s10, s11, s12, s13, s14, s15⟩
                  go_simp
                  with_reducible rfl
                rotate_left
                · simp only [Act.put, List.setIfInBounds_toArray, List.set_cons_zero, List.set_cons_succ, i64_w, i32_w]
                  rfl
                refine one_ (i := 8) (N := some 25) #[true, true, true, true, true, true, true, true, true, false] rfl rfl (one_of HT_.out (by kernel_rfl)) (by decide) (fun K hK => ?_)
                refine goes_ Try.func83 (by kernel_rfl) rfl #[.agg #[.string ((rd_T39 l0 x5_1).f0), .int .i64 ((rd_T39 l0 x5_1).f1), .string ((rd_T39 l0 x5_1).f2), .string ((rd_T39 l0 x5_1).f3), .int .i64 ((rd_T39 l0 x5_1).f4), .int .i64 ((rd_T39 l0 x5_1).f5), .string ((rd_T39 l0 x5_1).f6), .string ((rd_T39 l0 x5_1).f7)], .agg #[.string ((rd_T39 l1 x5_1).f0), .int .i64 ((rd_T39 l1 x5_1).f1), .string ((rd_T39 l1 x5_1).f2), .string ((rd_T39 l1 x5_1).f3), .int .i64 ((rd_T39 l1 x5_1).f4), .int .i64 ((rd_T39 l1 x5_1).f5), .string ((rd_T39 l1 x5_1).f6), .string ((rd_T39 l1 x5_1).f7)]] (by rfl) rfl rfl mxp ?_
                with_reducible refine (laws_eqRecPhase.calls ((rd_T39 l0 x5_1).f0) ((rd_T39 l0 x5_1).f1) ((rd_T39 l0 x5_1).f2) ((rd_T39 l0 x5_1).f3) ((rd_T39 l0 x5_1).f4) ((rd_T39 l0 x5_1).f5) ((rd_T39 l0 x5_1).f6) ((rd_T39 l0 x5_1).f7) ((rd_T39 l1 x5_1).f0) ((rd_T39 l1 x5_1).f1) ((rd_T39 l1 x5_1).f2) ((rd_T39 l1 x5_1).f3) ((rd_T39 l1 x5_1).f4) ((rd_T39 l1 x5_1).f5) ((rd_T39 l1 x5_1).f6) ((rd_T39 l1 x5_1).f7) false _ A7.out).mono ?_
                rintro e w12 ⟨rfl, hb⟩
                refine ⟨_, rfl, ?_⟩
                have n0_ := bs HB hb
                clear HB
                have HB := n0_
                clear n0_
                (try clear hb)
                (try clear hb2)
                (try clear hk)
                (try clear hi)
                refine hK.out _ _ ⟨((HB.out.cell (World.block_lt_of_cell? w _ hw365_0)).trans hw365_0), ((HB.out.cell (World.block_lt_of_cell? w _ hw365_1)).trans hw365_1), ((HB.out.cell (World.block_lt_of_cell? w _ hw365_2)).trans hw365_2), ((HB.out.cell (World.block_lt_of_cell? w _ hw365_3)).trans hw365_3), ((HB.out.cell (World.block_lt_of_cell? w _ hw365_4)).trans hw365_4), ((HB.out.cell (World.block_lt_of_cell? w _ hw365_5)).trans hw365_5), ((HB.out.cell (World.block_lt_of_cell? w _ hw365_6)).trans hw365_6), ((HB.out.cell (World.block_lt_of_cell? w _ hw365_7)).trans hw365_7), ((HB.out.cell (World.block_lt_of_cell? w _ hw366_0)).trans hw366_0), ((HB.out.cell (World.block_lt_of_cell? w _ hw366_1)).trans hw366_1), ((HB.out.cell (World.block_lt_of_cell? w _ hw366_2)).trans hw366_2), ((HB.out.cell (World.block_lt_of_cell? w _ hw366_3)).trans hw366_3), ((HB.out.cell (World.block_lt_of_cell? w _ hw366_4)).trans hw366_4), ((HB.out.cell (World.block_lt_of_cell? w _ hw366_5)).trans hw366_5), ((HB.out.cell (World.block_lt_of_cell? w _ hw366_6)).trans hw366_6), ((HB.out.cell (World.block_lt_of_cell? w _ hw366_7)).trans hw366_7)⟩ (fun hHeld => ?_)
                clear hK K
                refine norm_ (a' := ?_) ?_ ?_
                rotate_left
                · show Act.put _ (some 25) _ = _
                  simp only [Act.put, List.setIfInBounds_toArray, List.set_cons_zero, List.set_cons_succ, i64_w, i32_w]
                  rfl
                refine pure_ (i := 9) (N := some 26) (v := ?_) (a' := ?_) #[true, true, true, true, true, true, true, true, true, true] rfl rfl (any_of HT_.out (by kernel_rfl)) (fun _ _ _ h => h) (Or.inl ⟨by rfl, ?_⟩) ?_ ?_
                rotate_left
                · intro w'
                  go_simp
                  with_reducible rfl
                rotate_left
                · simp only [Act.put, List.setIfInBounds_toArray, List.set_cons_zero, List.set_cons_succ, i64_w, i32_w]
                  rfl
                refine done_ (done_of HT_.out (by kernel_rfl)) ?_
                try go_wp2
                go_ret
                exact ⟨exq, bw HB.out⟩
            · rw [if_neg c6] at H
              exact absurd H (by simp)
          · rw [if_neg c5] at H
            exact absurd H (by simp)
        · rw [if_neg c4] at H
          have c4b0 : decide (x5_1 < (l0.length : Int)) = false := decide_eq_false c4
          clear c4
          obtain rfl := Option.some.inj H
          go_wp2
          go_ret
          exact ⟨exq, bw HB.out⟩
  · rw [if_neg c3] at H
    have c3b0 : ((l0.length : Int) == (l1.length : Int)) = false := beq_eq_false_iff_ne.mpr c3
    have c3b1 : ((l0.length : Int) != (l1.length : Int)) = true := bne_iff_ne.mpr c3
    have c3b2 : (l0.length == l1.length) = false := by first | simpa using c3 | (simp at c3 ⊢; omega)
    obtain rfl := Option.some.inj H
    go_enter Try.func39, Try.ntmps39
    go_wp2
    go_ret
    exact ⟨exq, bw HB.out⟩

end Go.Proofs.Ytdkologncoofdaa.P
-- Px48
namespace Go.Proofs.Ytdkologncoofdaa.P
open Go.RowKit Go.Proofs.YtdkologncoofdaaW.PrintWords Go.Proofs.YtdkologncoofdaaW.PrintLast Go.Proofs.YtdkologncoofdaaW.PrintMore
attribute [local go_sem] max2_int min2_int max_two min_two max_three min_three max_four min_four   -- for this text's walks alone
set_option linter.unusedVariables false
set_option linter.unusedSimpArgs false

/-! ### laws_eqRecState: function 43 -/
def laws_eqRecState.f (a0_0 : ByteArray) (a0_1 : Int) (a0_2 : Int) (a1_0 : ByteArray) (a1_1 : Int) (a1_2 : Int) : Option (Bool) := if a0_0.toList = a1_0.toList then (if a0_1 = a1_1 then (if a0_2 = a1_2 then (some true) else (some false)) else (some false)) else (some false)
set_option maxHeartbeats 8000000 in
set_option maxRecDepth 100000 in
theorem laws_eqRecState.calls (a0_0 : ByteArray) (a0_1 : Int) (a0_2 : Int) (a1_0 : ByteArray) (a1_1 : Int) (a1_2 : Int) (r : Bool) (w : World) (h : laws_eqRecState.f a0_0 a0_1 a0_2 a1_0 a1_1 a1_2 = some r) :
    Calls Try.prog 43 #[.agg #[.string a0_0, .int .i64 a0_1, .int .i64 a0_2], .agg #[.string a1_0, .int .i64 a1_1, .int .i64 a1_2]] w fun e w' => e = .returned (.bool r) ∧ Below w.heap.size w w' := by
  have H := Aside0.mk h
  clear h
  go_enter Try.func43, Try.ntmps43
  go_wp2
  all_goals
    go_ret
    refine ⟨?_, by repeat (first | exact Below.refl _ _ | apply below_alloc | apply pw_below_drewN | apply below_drew1)⟩
    have h := H.out
    simp_all [laws_eqRecState.f]

end Go.Proofs.Ytdkologncoofdaa.P
-- Px4
namespace Go.Proofs.Ytdkologncoofdaa.P
open Go.RowKit Go.Proofs.YtdkologncoofdaaW.PrintWords Go.Proofs.YtdkologncoofdaaW.PrintLast Go.Proofs.YtdkologncoofdaaW.PrintMore
attribute [local go_sem] max2_int min2_int max_two min_two max_three min_three max_four min_four   -- for this text's walks alone
set_option linter.unusedVariables false
set_option linter.unusedSimpArgs false

/-! ### slices_Index_string_string: function 61 -/
def slices_Index_string_string.l0 : Nat → List ByteArray → ByteArray → Int → Int → Option (Int)
  | 0, _, _, _, _ => none
  | k + 1, x0, x1, x7, x8 => if x8 < x7 then (if 0 ≤ x8 then (if x8 < (x0.length : Int) then (if x1.toList = (rdOf ByteArray.empty x0 x8).toList then (some x8) else (slices_Index_string_string.l0 k x0 x1 x7 (wrap64 (x8 + 1)))) else (none)) else (none)) else (some (-1))
def slices_Index_string_string.f (k : Nat) (l0 : List ByteArray) (a1 : ByteArray) : Option (Int) := slices_Index_string_string.l0 k l0 a1 (l0.length : Int) 0
theorem slices_Index_string_string.mono_l : ∀ k, (∀ y0 y1 y2 y3, LeO (slices_Index_string_string.l0 k y0 y1 y2 y3) (slices_Index_string_string.l0 (k + 1) y0 y1 y2 y3))
  | 0 => fun _ _ _ _ r h => by simp [slices_Index_string_string.l0] at h
  | k + 1 => by
    have ih0 := slices_Index_string_string.mono_l k
    · intro y0 y1 y2 y3
      unfold slices_Index_string_string.l0
      repeat' first
      | (with_reducible exact ih0 _ _ _ _)
      | (with_reducible exact LeO.refl _)
      | (with_reducible exact LeO.none _)
      | (with_reducible refine LeO.ite ?_ ?_)
      | (with_reducible refine LeO.bind ?_ (fun _ => ?_))
      | exact ih0 _ _ _ _
      | exact LeO.none _
      | refine LeO.ite ?_ ?_
      | refine LeO.bind ?_ (fun _ => ?_)
theorem slices_Index_string_string.mono : ∀ a0 a1 k, LeO (slices_Index_string_string.f k a0 a1) (slices_Index_string_string.f (k + 1) a0 a1) := by
  intro a0 a1 k
  have ih0 := slices_Index_string_string.mono_l k
  unfold slices_Index_string_string.f
  repeat' first
      | (with_reducible exact ih0 _ _ _ _)
      | (with_reducible exact LeO.refl _)
      | (with_reducible exact LeO.none _)
      | (with_reducible refine LeO.ite ?_ ?_)
      | (with_reducible refine LeO.bind ?_ (fun _ => ?_))
      | exact ih0 _ _ _ _
      | exact LeO.none _
      | refine LeO.ite ?_ ?_
      | refine LeO.bind ?_ (fun _ => ?_)
set_option maxHeartbeats 8000000 in
set_option maxRecDepth 100000 in
theorem slices_Index_string_string.calls (k : Nat) (A0 : Option Addr) (c0 : Nat) (l0 : List ByteArray) (a1 : ByteArray) (r : Int) (w : World) (hr0 : Kd.C Kd.string w A0 l0.length l0) (hc0 : l0.length ≤ c0) (h : slices_Index_string_string.f k l0 a1 = some r) :
    Calls Try.prog 61 #[.slice A0 l0.length c0, .string a1] w fun e w' => e = .returned (.int .i64 r) ∧ Drawn0 w w' := by
  have HR0 := Aside0.mk hr0
  have HC0 := Aside0.mk hc0
  clear hr0 hc0
  have H : (slices_Index_string_string.l0 k l0 a1 (l0.length : Int) 0) = some r := h
  clear h
  have H' := Aside0.mk H
  clear H
  go_enter Try.func61, Try.ntmps61
  go_wp2
  go_loopg [8] k (fun kq v8 w' => ∃ (x8_1 : Int), v8 = .int .i64 x8_1 ∧ Aside0 (slices_Index_string_string.l0 kq l0 a1 (l0.length : Int) x8_1 = some r) ∧ Aside0 (kq ≤ k) ∧ Drawn0 w w')
  case atStart => exact ⟨(0), (by first | rfl | (simp; done) | (simp [*]; done)), H', ⟨Nat.le_refl _⟩, by repeat (first | exact Drawn0.refl _ | apply Drawn0.step)⟩
  case round =>
    clear H'
    try clear p2
    obtain ⟨x8_1, rfl, HA, HK1, ⟨m1, rfl⟩⟩ := hrel
    cases gk with
    | zero => exact absurd HA.out (by simp [slices_Index_string_string.l0])
    | succ k1 =>
      have H := HA.out
      clear HA
      simp only [slices_Index_string_string.l0] at H
      by_cases c3 : x8_1 < (l0.length : Int)
      · rw [if_pos c3] at H
        have c3b0 : decide (x8_1 < (l0.length : Int)) = true := decide_eq_true c3
        clear c3
        by_cases c4 : 0 ≤ x8_1
        · rw [if_pos c4] at H
          have c4b0 : decide (0 ≤ x8_1) = true := decide_eq_true c4
          clear c4
          by_cases c5 : x8_1 < (l0.length : Int)
          · rw [if_pos c5] at H
            have c5b0 : decide (x8_1 < (l0.length : Int)) = true := decide_eq_true c5
            clear c5
            by_cases c6 : a1.toList = (rdOf ByteArray.empty l0 x8_1).toList
            · rw [if_pos c6] at H
              have c6b0 : (a1.toList == (rdOf ByteArray.empty l0 x8_1).toList) = true := beq_iff_eq.mpr c6
              have c6b1 : (a1.toList != (rdOf ByteArray.empty l0 x8_1).toList) = false := bne_eq_false_iff_eq.mpr c6
              clear c6
              obtain rfl := Option.some.inj H
              have p101 : 0 ≤ (x8_1 : Int) := of_decide_eq_true (by first | (with_reducible assumption) | assumption)
              have q101 : x8_1 < (l0.length : Int) := of_decide_eq_true (by first | (with_reducible assumption) | assumption)
              obtain ⟨ad101, e101, hx101_0⟩ := Kd.at_string HR0.out x8_1 p101 q101
              cases e101
              replace p101 := eq_true p101
              replace q101 := eq_true q101
              go_wp2
              go_ret
              exact ⟨by first | rfl | (simp; done) | (simp [*]; done), by repeat (first | exact Drawn0.refl _ | apply Drawn0.step)⟩
            · rw [if_neg c6] at H
              have c6b0 : (a1.toList == (rdOf ByteArray.empty l0 x8_1).toList) = false := beq_eq_false_iff_ne.mpr c6
              have c6b1 : (a1.toList != (rdOf ByteArray.empty l0 x8_1).toList) = true := bne_iff_ne.mpr c6
              have H' := Aside0.mk H
              clear H
              have p101 : 0 ≤ (x8_1 : Int) := of_decide_eq_true (by first | (with_reducible assumption) | assumption)
              have q101 : x8_1 < (l0.length : Int) := of_decide_eq_true (by first | (with_reducible assumption) | assumption)
              obtain ⟨ad101, e101, hx101_0⟩ := Kd.at_string HR0.out x8_1 p101 q101
              cases e101
              replace p101 := eq_true p101
              replace q101 := eq_true q101
              go_wp2
              go_roundg k1
              case measure => have := HK1.out; omega
              case rel => exact ⟨(wrap64 (x8_1 + 1)), (by first | rfl | (simp; done) | (simp [*]; done)), H', ⟨by have := HK1.out; omega⟩, by repeat (first | exact Drawn0.refl _ | apply Drawn0.step)⟩
          · rw [if_neg c5] at H
            exact absurd H (by simp)
        · rw [if_neg c4] at H
          exact absurd H (by simp)
      · rw [if_neg c3] at H
        have c3b0 : decide (x8_1 < (l0.length : Int)) = false := decide_eq_false c3
        clear c3
        obtain rfl := Option.some.inj H
        go_wp2
        go_ret
        exact ⟨by first | rfl | (simp; done) | (simp [*]; done), by repeat (first | exact Drawn0.refl _ | apply Drawn0.step)⟩

end Go.Proofs.Ytdkologncoofdaa.P
-- Px5
namespace Go.Proofs.Ytdkologncoofdaa.P
open Go.RowKit Go.Proofs.YtdkologncoofdaaW.PrintWords Go.Proofs.YtdkologncoofdaaW.PrintLast Go.Proofs.YtdkologncoofdaaW.PrintMore
attribute [local go_sem] max2_int min2_int max_two min_two max_three min_three max_four min_four   -- for this text's walks alone
set_option linter.unusedVariables false
set_option linter.unusedSimpArgs false

/-! ### impl_RecEnd: function 19 -/
def impl_RecEnd.f (k : Nat) (a0 : ByteArray) : Option (Int) := (some (([(⟨#[]⟩ : ByteArray), (⟨#[103, 111, 111, 100]⟩ : ByteArray), (⟨#[115, 97, 118, 101, 100]⟩ : ByteArray), (⟨#[115, 99, 114, 97, 112, 112, 101, 100]⟩ : ByteArray)] : List ByteArray) : List ByteArray)).bind fun y102 => (if 1 ≤ (y102.length : Int) then ((slices_Index_string_string.f k (y102.drop 1) a0).bind fun t109 => (some (wrap64 (t109 + 1)))) else (none))
theorem impl_RecEnd.mono : ∀ a0 k, LeO (impl_RecEnd.f k a0) (impl_RecEnd.f (k + 1) a0) := by
  intro a0 k
  unfold impl_RecEnd.f
  repeat' first
      | (with_reducible exact slices_Index_string_string.mono _ _ _)
      | (with_reducible exact LeO.refl _)
      | (with_reducible exact LeO.none _)
      | (with_reducible refine LeO.ite ?_ ?_)
      | (with_reducible refine LeO.bind ?_ (fun _ => ?_))
      | exact slices_Index_string_string.mono _ _ _
      | exact LeO.none _
      | refine LeO.ite ?_ ?_
      | refine LeO.bind ?_ (fun _ => ?_)
set_option maxHeartbeats 8000000 in
set_option maxRecDepth 100000 in
theorem impl_RecEnd.calls (k : Nat) (a0 : ByteArray) (r : Int) (w : World) (h : impl_RecEnd.f k a0 = some r) :
    Calls Try.prog 19 #[.string a0] w fun e w' => e = .returned (.int .i64 r) ∧ Below w.heap.size w w' := by
  have HB := Aside0.mk (Below.refl w.heap.size w)
  have H : ((some (([(⟨#[]⟩ : ByteArray), (⟨#[103, 111, 111, 100]⟩ : ByteArray), (⟨#[115, 97, 118, 101, 100]⟩ : ByteArray), (⟨#[115, 99, 114, 97, 112, 112, 101, 100]⟩ : ByteArray)] : List ByteArray) : List ByteArray)).bind fun y102 => (if 1 ≤ (y102.length : Int) then ((slices_Index_string_string.f k (y102.drop 1) a0).bind fun t109 => (some (wrap64 (t109 + 1)))) else (none))) = some r := h
  clear h
  obtain ⟨y102, hy102⟩ : ∃ y_ : List ByteArray, y_ = (([(⟨#[]⟩ : ByteArray), (⟨#[103, 111, 111, 100]⟩ : ByteArray), (⟨#[115, 97, 118, 101, 100]⟩ : ByteArray), (⟨#[115, 99, 114, 97, 112, 112, 101, 100]⟩ : ByteArray)] : List ByteArray)) := ⟨_, rfl⟩
  replace H : (if 1 ≤ (y102.length : Int) then ((slices_Index_string_string.f k (y102.drop 1) a0).bind fun t109 => (some (wrap64 (t109 + 1)))) else (none)) = some r := by first | (rw [hy102]; with_reducible exact H) | (have H2_ := (Option.bind_some _ _).symm.trans H; rw [hy102]; with_reducible exact H2_) | (have H2_ := (Option.bind_some _ _).symm.trans H; with_reducible exact H2_) | with_reducible exact H | (rw [hy102]; exact H) | exact H
  have Ny102 := Aside0.mk hy102
  clear hy102
  by_cases c2 : 1 ≤ (y102.length : Int)
  · rw [if_pos c2] at H
    have c2b0 := eq_true c2
    have c2b1 : decide (1 ≤ (y102.length : Int)) = true := decide_eq_true c2
    clear c2
    obtain ⟨y105, hy105⟩ : ∃ y_ : List ByteArray, y_ = (y102.drop 1) := ⟨_, rfl⟩
    replace H : ((slices_Index_string_string.f k y105 a0).bind fun t109 => (some (wrap64 (t109 + 1)))) = some r := by first | (rw [hy105]; with_reducible exact H) | (have H2_ := (Option.bind_some _ _).symm.trans H; rw [hy105]; with_reducible exact H2_) | (have H2_ := (Option.bind_some _ _).symm.trans H; with_reducible exact H2_) | with_reducible exact H | (rw [hy105]; exact H) | exact H
    have Ny105 := Aside0.mk hy105
    clear hy105
    replace H := Option.bind_eq_some_iff.mp H
    obtain ⟨t109, A30, H⟩ := H
    replace H : (some (wrap64 (t109 + 1))) = some r := H
    have A3 := Aside0.mk A30
    clear A30
    obtain rfl := Option.some.inj H
    go_enter Try.func19, Try.ntmps19
    go_wp2_with (first | ((with_reducible refine gate_dst (N := 3) rfl ?_); refine Kd.R_lit Kd.string _ 9 ?hg (N := 3) ?hd (xs := ([(⟨#[]⟩ : ByteArray), (⟨#[103, 111, 111, 100]⟩ : ByteArray), (⟨#[115, 97, 118, 101, 100]⟩ : ByteArray), (⟨#[115, 99, 114, 97, 112, 112, 101, 100]⟩ : ByteArray)] : List ByteArray)) (inner := [.string (⟨#[]⟩ : ByteArray), .string (⟨#[103, 111, 111, 100]⟩ : ByteArray), .string (⟨#[115, 97, 118, 101, 100]⟩ : ByteArray), .string (⟨#[115, 99, 114, 97, 112, 112, 101, 100]⟩ : ByteArray)]) (ok := fun _ => True) (okp := fun _ => True) ?hr ?hp (fun _ hk => hk) trivial (Below.refl _ _) (Nat.le_refl _) (by simp) ?_; (case hd => rfl); (case hg => rfl); (case hr => first | (go_simp; done) | (go_simp; rfl)); (case hp => exact (Reps.one (show Kd.M Kd.string _ _ _ (⟨#[]⟩ : ByteArray) [.string (⟨#[]⟩ : ByteArray)] from rfl) (Reps.one (show Kd.M Kd.string _ _ _ (⟨#[103, 111, 111, 100]⟩ : ByteArray) [.string (⟨#[103, 111, 111, 100]⟩ : ByteArray)] from rfl) (Reps.one (show Kd.M Kd.string _ _ _ (⟨#[115, 97, 118, 101, 100]⟩ : ByteArray) [.string (⟨#[115, 97, 118, 101, 100]⟩ : ByteArray)] from rfl) (Reps.one (show Kd.M Kd.string _ _ _ (⟨#[115, 99, 114, 97, 112, 112, 101, 100]⟩ : ByteArray) [.string (⟨#[115, 99, 114, 97, 112, 112, 101, 100]⟩ : ByteArray)] from rfl) (Reps.none _ _)))))); intro v103 w4 ho5 hb hg_ hnew_; clear hg_ hnew_; (first | rw [← Ny102.out] at ho5 | (simp only [Int.reduceToNat] at ho5; rw [← Ny102.out] at ho5)); have n0_ := Aside0.mk (Kd.R_lower ho5 (below_size (bw HB.out))); have n1_ := bs HB hb; clear HB; have HO104 := n0_; have HB := n1_; clear n0_ n1_; clear hb ho5; obtain ⟨Ao7, co7, eo7⟩ := Kd.R_slice HO104.out; subst eo7; have q6 : (1 : Int) ≤ ((y102.length : Int) : Int) := of_decide_eq_true (by first | (with_reducible assumption) | assumption); obtain ⟨i06, hi06, _, hsz6, _⟩ := info_parts info9; have hroom6 : y102.length ≤ co7 := (Kd.R_reads' HO104.out).2.1; have hC6 : Kd.C Kd.string _ Ao7 y102.length y102 := (Kd.R_reads' HO104.out).2.2; have hcut6 := cut_from (P := Try.prog) 32 9 .i64 Try.underlying32 hi06 1 hsz6 Ao7 y102.length co7 1 (by omega) q6; have hr6 := Kd.C_drop (m := (1 : Int).toNat) (c := co7) hC6 (by omega) hroom6; obtain ⟨A6, hA6⟩ : ∃ A1, A1 = (if co7 = (1 : Int).toNat then Ao7 else (Ao7 : Option Addr).map (·.add ((1 : Int).toNat * 1))) := ⟨_, rfl⟩; obtain ⟨c6, hc6⟩ : ∃ c1, c1 = co7 - (1 : Int).toNat := ⟨_, rfl⟩; have hy6 : y105.length = y102.length - (1 : Int).toNat := (by rw [Ny105.out, List.length_drop] <;> omega); rw [show (y102).drop (1 : Int).toNat = y105 from Ny105.out.symm] at hr6; replace hr6 : Kd.C Kd.string _ A6 y105.length y105 := (by rw [hA6]; exact hr6); rw [← hy6, ← hA6, ← hc6] at hcut6; have HR108 := Aside0.mk hr6; have HC108 := Aside0.mk (show y105.length ≤ c6 from by rw [hy6, hc6]; exact Nat.sub_le_sub_right hroom6 _); clear hr6 hC6 hroom6 hi06 hsz6 hc6; have KY6 := Aside0.mk hy6; have KA6 := Aside0.mk hA6; clear hy6 hA6; have KL6 := Aside0.mk (show 1 ≤ y102.length from by omega); replace q6 := eq_true q6) | ((with_reducible refine gate_callee (f := 61) rfl ?_); refine goesL_ (some 6) rfl rfl Try.func61 (by kernel_rfl) rfl #[.slice A6 y105.length c6, .string a0] rfl mxp ?_; (with_reducible refine (slices_Index_string_string.calls k _ _ y105 a0 t109 _ ?side1 ?side2 A3.out).mono ?_); (case side1 => repeat (first | exact (by repeat (first | (with_reducible exact HR108.out) | (with_reducible refine Kd.C_alloc ?_ _) | (with_reducible refine Kd.C_drewN ?_ _) | (with_reducible refine Kd.C_drew ?_) | exact HR108.out)) | (with_reducible refine Kd.C_alloc ?_ _) | (with_reducible refine Kd.C_drewN ?_ _) | (with_reducible refine Kd.C_drew ?_))); (case side2 => exact HC108.out); rintro e w' ⟨rfl, ⟨nd, rfl⟩⟩; refine ⟨_, rfl, ?_⟩))
    go_ret
    exact ⟨exq, bw HB.out⟩
  · rw [if_neg c2] at H
    exact absurd H (by simp)

end Go.Proofs.Ytdkologncoofdaa.P
-- Px14
namespace Go.Proofs.Ytdkologncoofdaa.P
open Go.RowKit Go.Proofs.YtdkologncoofdaaW.PrintWords Go.Proofs.YtdkologncoofdaaW.PrintLast Go.Proofs.YtdkologncoofdaaW.PrintMore
attribute [local go_sem] max2_int min2_int max_two min_two max_three min_three max_four min_four   -- for this text's walks alone
set_option linter.unusedVariables false
set_option linter.unusedSimpArgs false

/-! ### impl_in: function 68 -/
def impl_in.f (a0 : Int) (a1 : Int) (a2 : Int) : Option (Bool) := if a0 ≥ a1 then (some (decide (a0 ≤ a2))) else (some false)
set_option maxHeartbeats 8000000 in
set_option maxRecDepth 100000 in
theorem impl_in.calls (a0 : Int) (a1 : Int) (a2 : Int) (r : Bool) (w : World) (h : impl_in.f a0 a1 a2 = some r) :
    Calls Try.prog 68 #[.int .i64 a0, .int .i64 a1, .int .i64 a2] w fun e w' => e = .returned (.bool r) ∧ Drawn0 w w' := by
  have H : (if a0 ≥ a1 then (some (decide (a0 ≤ a2))) else (some false)) = some r := h
  clear h
  by_cases c4 : a0 ≥ a1
  · rw [if_pos c4] at H
    have c4b0 : decide (a1 ≤ a0) = true := decide_eq_true c4
    clear c4
    obtain rfl := Option.some.inj H
    go_enter Try.func68, Try.ntmps68
    go_wp2
    go_ret
    exact ⟨by first | rfl | (simp; done) | (simp [*]; done), by repeat (first | exact Drawn0.refl _ | apply Drawn0.step)⟩
  · rw [if_neg c4] at H
    have c4b0 : decide (a1 ≤ a0) = false := decide_eq_false c4
    clear c4
    obtain rfl := Option.some.inj H
    go_enter Try.func68, Try.ntmps68
    go_wp2
    go_ret
    exact ⟨by first | rfl | (simp; done) | (simp [*]; done), by repeat (first | exact Drawn0.refl _ | apply Drawn0.step)⟩

end Go.Proofs.Ytdkologncoofdaa.P
-- Px15
namespace Go.Proofs.Ytdkologncoofdaa.P
open Go.RowKit Go.Proofs.YtdkologncoofdaaW.PrintWords Go.Proofs.YtdkologncoofdaaW.PrintLast Go.Proofs.YtdkologncoofdaaW.PrintMore
attribute [local go_sem] max2_int min2_int max_two min_two max_three min_three max_four min_four   -- for this text's walks alone
set_option linter.unusedVariables false
set_option linter.unusedSimpArgs false

/-! ### impl_name: function 78 -/
def impl_name.l0 : Nat → ByteArray → Int → Option (Bool)
  | 0, _, _ => none
  | k + 1, x0, x3 => if x3 < (x0.size : Int) then (if 0 ≤ x3 then (if (bt x0 x3) ≥ 97 then (if (bt x0 x3) ≤ 122 then (impl_name.l0 k x0 (wrap64 (x3 + 1))) else (if (bt x0 x3) ≥ 48 then (if (bt x0 x3) ≤ 57 then (impl_name.l0 k x0 (wrap64 (x3 + 1))) else (if ((bt x0 x3) = 45) then (impl_name.l0 k x0 (wrap64 (x3 + 1))) else (some false))) else (if ((bt x0 x3) = 45) then (impl_name.l0 k x0 (wrap64 (x3 + 1))) else (some false)))) else (if (bt x0 x3) ≥ 48 then (if (bt x0 x3) ≤ 57 then (impl_name.l0 k x0 (wrap64 (x3 + 1))) else (if ((bt x0 x3) = 45) then (impl_name.l0 k x0 (wrap64 (x3 + 1))) else (some false))) else (if ((bt x0 x3) = 45) then (impl_name.l0 k x0 (wrap64 (x3 + 1))) else (some false)))) else (none)) else (some true)
def impl_name.f (k : Nat) (a0 : ByteArray) : Option (Bool) := (impl_in.f (a0.size : Int) 1 8).bind fun t136 => (if t136 = true then (impl_name.l0 k a0 0) else (some false))
theorem impl_name.mono_l : ∀ k, (∀ y0 y1, LeO (impl_name.l0 k y0 y1) (impl_name.l0 (k + 1) y0 y1))
  | 0 => fun _ _ r h => by simp [impl_name.l0] at h
  | k + 1 => by
    have ih0 := impl_name.mono_l k
    · intro y0 y1
      unfold impl_name.l0
      repeat' first
      | (with_reducible exact ih0 _ _)
      | (with_reducible exact LeO.refl _)
      | (with_reducible exact LeO.none _)
      | (with_reducible refine LeO.ite ?_ ?_)
      | (with_reducible refine LeO.bind ?_ (fun _ => ?_))
      | exact ih0 _ _
      | exact LeO.none _
      | refine LeO.ite ?_ ?_
      | refine LeO.bind ?_ (fun _ => ?_)
theorem impl_name.mono : ∀ a0 k, LeO (impl_name.f k a0) (impl_name.f (k + 1) a0) := by
  intro a0 k
  have ih0 := impl_name.mono_l k
  unfold impl_name.f
  repeat' first
      | (with_reducible exact ih0 _ _)
      | (with_reducible exact LeO.refl _)
      | (with_reducible exact LeO.none _)
      | (with_reducible refine LeO.ite ?_ ?_)
      | (with_reducible refine LeO.bind ?_ (fun _ => ?_))
      | exact ih0 _ _
      | exact LeO.none _
      | refine LeO.ite ?_ ?_
      | refine LeO.bind ?_ (fun _ => ?_)
set_option maxHeartbeats 8000000 in
set_option maxRecDepth 100000 in
theorem impl_name.calls (k : Nat) (a0 : ByteArray) (r : Bool) (w : World) (h : impl_name.f k a0 = some r) :
    Calls Try.prog 78 #[.string a0] w fun e w' => e = .returned (.bool r) ∧ Drawn0 w w' := by
  have H : ((impl_in.f (a0.size : Int) 1 8).bind fun t136 => (if t136 = true then (impl_name.l0 k a0 0) else (some false))) = some r := h
  clear h
  replace H := Option.bind_eq_some_iff.mp H
  obtain ⟨t136, A20, H⟩ := H
  replace H : (if t136 = true then (impl_name.l0 k a0 0) else (some false)) = some r := H
  have A2 := Aside0.mk A20
  clear A20
  by_cases c3 : t136 = true
  · subst c3
    have H1 : (impl_name.l0 k a0 0) = some r := by rw [if_pos rfl] at H; exact H
    clear H
    have H := H1
    clear H1
    have H' := Aside0.mk H
    clear H
    go_enter Try.func78, Try.ntmps78
    go_wp2_with (first | ((with_reducible refine gate_callee (f := 68) rfl ?_); refine goesL_ (some 7) rfl rfl Try.func68 (by kernel_rfl) rfl #[.int .i64 (a0.size : Int), .int .i64 1, .int .i64 8] rfl mxp ?_; (with_reducible refine (impl_in.calls (a0.size : Int) 1 8 true _ A2.out).mono ?_); rintro e w' ⟨rfl, ⟨nd, rfl⟩⟩; refine ⟨_, rfl, ?_⟩))
    go_loopg [3] k (fun kq v3 w' => ∃ (x3_1 : Int), v3 = .int .i64 x3_1 ∧ Aside0 (impl_name.l0 kq a0 x3_1 = some r) ∧ Aside0 (kq ≤ k) ∧ Drawn0 w w')
    case atStart => exact ⟨(0), (by first | rfl | (simp; done) | (simp [*]; done)), H', ⟨Nat.le_refl _⟩, by repeat (first | exact Drawn0.refl _ | apply Drawn0.step)⟩
    case round =>
      clear H'
      try clear p2
      try clear c3
      obtain ⟨x3_1, rfl, HA, HK1, ⟨m1, rfl⟩⟩ := hrel
      cases gk with
      | zero => exact absurd HA.out (by simp [impl_name.l0])
      | succ k1 =>
        have H := HA.out
        clear HA
        simp only [impl_name.l0] at H
        by_cases c4 : x3_1 < (a0.size : Int)
        · rw [if_pos c4] at H
          have c4b0 : decide (x3_1 < (a0.size : Int)) = true := decide_eq_true c4
          clear c4
          by_cases c5 : 0 ≤ x3_1
          · rw [if_pos c5] at H
            have c5b0 : decide (0 ≤ x3_1) = true := decide_eq_true c5
            clear c5
            by_cases c7 : (bt a0 x3_1) ≥ 97
            · rw [if_pos c7] at H
              have c7b0 : decide (97 ≤ (bt a0 x3_1)) = true := decide_eq_true c7
              clear c7
              by_cases c8 : (bt a0 x3_1) ≤ 122
              · rw [if_pos c8] at H
                have c8b0 : decide ((bt a0 x3_1) ≤ 122) = true := decide_eq_true c8
                clear c8
                have H' := Aside0.mk H
                clear H
                have p6 : 0 ≤ (x3_1 : Int) := of_decide_eq_true (by first | (with_reducible assumption) | assumption)
                have q6 : x3_1 < (a0.size : Int) := of_decide_eq_true (by first | (with_reducible assumption) | assumption)
                have hx6 := bt_at a0 x3_1
                replace p6 := eq_true p6
                replace q6 := eq_true q6
                go_wp2
                go_roundg k1
                case measure => have := HK1.out; omega
                case rel => exact ⟨(wrap64 (x3_1 + 1)), (by first | rfl | (simp; done) | (simp [*]; done)), H', ⟨by have := HK1.out; omega⟩, by repeat (first | exact Drawn0.refl _ | apply Drawn0.step)⟩
              · rw [if_neg c8] at H
                have c8b0 : decide ((bt a0 x3_1) ≤ 122) = false := decide_eq_false c8
                clear c8
                by_cases c9 : (bt a0 x3_1) ≥ 48
                · rw [if_pos c9] at H
                  have c9b0 : decide (48 ≤ (bt a0 x3_1)) = true := decide_eq_true c9
                  clear c9
                  by_cases c10 : (bt a0 x3_1) ≤ 57
                  · rw [if_pos c10] at H
                    have c10b0 : decide ((bt a0 x3_1) ≤ 57) = true := decide_eq_true c10
                    clear c10
                    have H' := Aside0.mk H
                    clear H
                    have p6 : 0 ≤ (x3_1 : Int) := of_decide_eq_true (by first | (with_reducible assumption) | assumption)
                    have q6 : x3_1 < (a0.size : Int) := of_decide_eq_true (by first | (with_reducible assumption) | assumption)
                    have hx6 := bt_at a0 x3_1
                    replace p6 := eq_true p6
                    replace q6 := eq_true q6
                    go_wp2
                    go_roundg k1
                    case measure => have := HK1.out; omega
                    case rel => exact ⟨(wrap64 (x3_1 + 1)), (by first | rfl | (simp; done) | (simp [*]; done)), H', ⟨by have := HK1.out; omega⟩, by repeat (first | exact Drawn0.refl _ | apply Drawn0.step)⟩
                  · rw [if_neg c10] at H
                    have c10b0 : decide ((bt a0 x3_1) ≤ 57) = false := decide_eq_false c10
                    clear c10
                    by_cases c11 : ((bt a0 x3_1) = 45)
                    · rw [if_pos c11] at H
                      have c11b0 : ((bt a0 x3_1) == 45) = true := beq_iff_eq.mpr c11
                      have c11b1 : ((bt a0 x3_1) != 45) = false := bne_eq_false_iff_eq.mpr c11
                      clear c11
                      have H' := Aside0.mk H
                      clear H
                      have p6 : 0 ≤ (x3_1 : Int) := of_decide_eq_true (by first | (with_reducible assumption) | assumption)
                      have q6 : x3_1 < (a0.size : Int) := of_decide_eq_true (by first | (with_reducible assumption) | assumption)
                      have hx6 := bt_at a0 x3_1
                      replace p6 := eq_true p6
                      replace q6 := eq_true q6
                      go_wp2
                      go_roundg k1
                      case measure => have := HK1.out; omega
                      case rel => exact ⟨(wrap64 (x3_1 + 1)), (by first | rfl | (simp; done) | (simp [*]; done)), H', ⟨by have := HK1.out; omega⟩, by repeat (first | exact Drawn0.refl _ | apply Drawn0.step)⟩
                    · rw [if_neg c11] at H
                      have c11b0 : ((bt a0 x3_1) == 45) = false := beq_eq_false_iff_ne.mpr c11
                      have c11b1 : ((bt a0 x3_1) != 45) = true := bne_iff_ne.mpr c11
                      obtain rfl := Option.some.inj H
                      have p6 : 0 ≤ (x3_1 : Int) := of_decide_eq_true (by first | (with_reducible assumption) | assumption)
                      have q6 : x3_1 < (a0.size : Int) := of_decide_eq_true (by first | (with_reducible assumption) | assumption)
                      have hx6 := bt_at a0 x3_1
                      replace p6 := eq_true p6
                      replace q6 := eq_true q6
                      go_wp2
                      go_ret
                      exact ⟨by first | rfl | (simp; done) | (simp [*]; done), by repeat (first | exact Drawn0.refl _ | apply Drawn0.step)⟩
                · rw [if_neg c9] at H
                  have c9b0 : decide (48 ≤ (bt a0 x3_1)) = false := decide_eq_false c9
                  clear c9
                  by_cases c12 : ((bt a0 x3_1) = 45)
                  · rw [if_pos c12] at H
                    have c12b0 : ((bt a0 x3_1) == 45) = true := beq_iff_eq.mpr c12
                    have c12b1 : ((bt a0 x3_1) != 45) = false := bne_eq_false_iff_eq.mpr c12
                    clear c12
                    have H' := Aside0.mk H
                    clear H
                    have p6 : 0 ≤ (x3_1 : Int) := of_decide_eq_true (by first | (with_reducible assumption) | assumption)
                    have q6 : x3_1 < (a0.size : Int) := of_decide_eq_true (by first | (with_reducible assumption) | assumption)
                    have hx6 := bt_at a0 x3_1
                    replace p6 := eq_true p6
                    replace q6 := eq_true q6
                    go_wp2
                    go_roundg k1
                    case measure => have := HK1.out; omega
                    case rel => exact ⟨(wrap64 (x3_1 + 1)), (by first | rfl | (simp; done) | (simp [*]; done)), H', ⟨by have := HK1.out; omega⟩, by repeat (first | exact Drawn0.refl _ | apply Drawn0.step)⟩
                  · rw [if_neg c12] at H
                    have c12b0 : ((bt a0 x3_1) == 45) = false := beq_eq_false_iff_ne.mpr c12
                    have c12b1 : ((bt a0 x3_1) != 45) = true := bne_iff_ne.mpr c12
                    obtain rfl := Option.some.inj H
                    have p6 : 0 ≤ (x3_1 : Int) := of_decide_eq_true (by first | (with_reducible assumption) | assumption)
                    have q6 : x3_1 < (a0.size : Int) := of_decide_eq_true (by first | (with_reducible assumption) | assumption)
                    have hx6 := bt_at a0 x3_1
                    replace p6 := eq_true p6
                    replace q6 := eq_true q6
                    go_wp2
                    go_ret
                    exact ⟨by first | rfl | (simp; done) | (simp [*]; done), by repeat (first | exact Drawn0.refl _ | apply Drawn0.step)⟩
            · rw [if_neg c7] at H
              have c7b0 : decide (97 ≤ (bt a0 x3_1)) = false := decide_eq_false c7
              clear c7
              by_cases c13 : (bt a0 x3_1) ≥ 48
              · rw [if_pos c13] at H
                have c13b0 : decide (48 ≤ (bt a0 x3_1)) = true := decide_eq_true c13
                clear c13
                by_cases c14 : (bt a0 x3_1) ≤ 57
                · rw [if_pos c14] at H
                  have c14b0 : decide ((bt a0 x3_1) ≤ 57) = true := decide_eq_true c14
                  clear c14
                  have H' := Aside0.mk H
                  clear H
                  have p6 : 0 ≤ (x3_1 : Int) := of_decide_eq_true (by first | (with_reducible assumption) | assumption)
                  have q6 : x3_1 < (a0.size : Int) := of_decide_eq_true (by first | (with_reducible assumption) | assumption)
                  have hx6 := bt_at a0 x3_1
                  replace p6 := eq_true p6
                  replace q6 := eq_true q6
                  go_wp2
                  go_roundg k1
                  case measure => have := HK1.out; omega
                  case rel => exact ⟨(wrap64 (x3_1 + 1)), (by first | rfl | (simp; done) | (simp [*]; done)), H', ⟨by have := HK1.out; omega⟩, by repeat (first | exact Drawn0.refl _ | apply Drawn0.step)⟩
                · rw [if_neg c14] at H
                  have c14b0 : decide ((bt a0 x3_1) ≤ 57) = false := decide_eq_false c14
                  clear c14
                  by_cases c15 : ((bt a0 x3_1) = 45)
                  · rw [if_pos c15] at H
                    have c15b0 : ((bt a0 x3_1) == 45) = true := beq_iff_eq.mpr c15
                    have c15b1 : ((bt a0 x3_1) != 45) = false := bne_eq_false_iff_eq.mpr c15
                    clear c15
                    have H' := Aside0.mk H
                    clear H
                    have p6 : 0 ≤ (x3_1 : Int) := of_decide_eq_true (by first | (with_reducible assumption) | assumption)
                    have q6 : x3_1 < (a0.size : Int) := of_decide_eq_true (by first | (with_reducible assumption) | assumption)
                    have hx6 := bt_at a0 x3_1
                    replace p6 := eq_true p6
                    replace q6 := eq_true q6
                    go_wp2
                    go_roundg k1
                    case measure => have := HK1.out; omega
                    case rel => exact ⟨(wrap64 (x3_1 + 1)), (by first | rfl | (simp; done) | (simp [*]; done)), H', ⟨by have := HK1.out; omega⟩, by repeat (first | exact Drawn0.refl _ | apply Drawn0.step)⟩
                  · rw [if_neg c15] at H
                    have c15b0 : ((bt a0 x3_1) == 45) = false := beq_eq_false_iff_ne.mpr c15
                    have c15b1 : ((bt a0 x3_1) != 45) = true := bne_iff_ne.mpr c15
                    obtain rfl := Option.some.inj H
                    have p6 : 0 ≤ (x3_1 : Int) := of_decide_eq_true (by first | (with_reducible assumption) | assumption)
                    have q6 : x3_1 < (a0.size : Int) := of_decide_eq_true (by first | (with_reducible assumption) | assumption)
                    have hx6 := bt_at a0 x3_1
                    replace p6 := eq_true p6
                    replace q6 := eq_true q6
                    go_wp2
                    go_ret
                    exact ⟨by first | rfl | (simp; done) | (simp [*]; done), by repeat (first | exact Drawn0.refl _ | apply Drawn0.step)⟩
              · rw [if_neg c13] at H
                have c13b0 : decide (48 ≤ (bt a0 x3_1)) = false := decide_eq_false c13
                clear c13
                by_cases c16 : ((bt a0 x3_1) = 45)
                · rw [if_pos c16] at H
                  have c16b0 : ((bt a0 x3_1) == 45) = true := beq_iff_eq.mpr c16
                  have c16b1 : ((bt a0 x3_1) != 45) = false := bne_eq_false_iff_eq.mpr c16
                  clear c16
                  have H' := Aside0.mk H
                  clear H
                  have p6 : 0 ≤ (x3_1 : Int) := of_decide_eq_true (by first | (with_reducible assumption) | assumption)
                  have q6 : x3_1 < (a0.size : Int) := of_decide_eq_true (by first | (with_reducible assumption) | assumption)
                  have hx6 := bt_at a0 x3_1
                  replace p6 := eq_true p6
                  replace q6 := eq_true q6
                  go_wp2
                  go_roundg k1
                  case measure => have := HK1.out; omega
                  case rel => exact ⟨(wrap64 (x3_1 + 1)), (by first | rfl | (simp; done) | (simp [*]; done)), H', ⟨by have := HK1.out; omega⟩, by repeat (first | exact Drawn0.refl _ | apply Drawn0.step)⟩
                · rw [if_neg c16] at H
                  have c16b0 : ((bt a0 x3_1) == 45) = false := beq_eq_false_iff_ne.mpr c16
                  have c16b1 : ((bt a0 x3_1) != 45) = true := bne_iff_ne.mpr c16
                  obtain rfl := Option.some.inj H
                  have p6 : 0 ≤ (x3_1 : Int) := of_decide_eq_true (by first | (with_reducible assumption) | assumption)
                  have q6 : x3_1 < (a0.size : Int) := of_decide_eq_true (by first | (with_reducible assumption) | assumption)
                  have hx6 := bt_at a0 x3_1
                  replace p6 := eq_true p6
                  replace q6 := eq_true q6
                  go_wp2
                  go_ret
                  exact ⟨by first | rfl | (simp; done) | (simp [*]; done), by repeat (first | exact Drawn0.refl _ | apply Drawn0.step)⟩
          · rw [if_neg c5] at H
            exact absurd H (by simp)
        · rw [if_neg c4] at H
          have c4b0 : decide (x3_1 < (a0.size : Int)) = false := decide_eq_false c4
          clear c4
          obtain rfl := Option.some.inj H
          go_wp2
          go_ret
          exact ⟨by first | rfl | (simp; done) | (simp [*]; done), by repeat (first | exact Drawn0.refl _ | apply Drawn0.step)⟩
  · replace c3 := Bool.eq_false_iff.mpr c3
    subst c3
    have H1 : (some false) = some r := by rw [if_neg (show ¬ (false = true) by decide)] at H; exact H
    clear H
    have H := H1
    clear H1
    obtain rfl := Option.some.inj H
    go_enter Try.func78, Try.ntmps78
    go_wp2_with (first | ((with_reducible refine gate_callee (f := 68) rfl ?_); refine goesL_ (some 7) rfl rfl Try.func68 (by kernel_rfl) rfl #[.int .i64 (a0.size : Int), .int .i64 1, .int .i64 8] rfl mxp ?_; (with_reducible refine (impl_in.calls (a0.size : Int) 1 8 false _ A2.out).mono ?_); rintro e w' ⟨rfl, ⟨nd, rfl⟩⟩; refine ⟨_, rfl, ?_⟩))
    go_ret
    exact ⟨by first | rfl | (simp; done) | (simp [*]; done), by repeat (first | exact Drawn0.refl _ | apply Drawn0.step)⟩

end Go.Proofs.Ytdkologncoofdaa.P
-- Px16
namespace Go.Proofs.Ytdkologncoofdaa.P
open Go.RowKit Go.Proofs.YtdkologncoofdaaW.PrintWords Go.Proofs.YtdkologncoofdaaW.PrintLast Go.Proofs.YtdkologncoofdaaW.PrintMore
attribute [local go_sem] max2_int min2_int max_two min_two max_three min_three max_four min_four   -- for this text's walks alone
set_option linter.unusedVariables false
set_option linter.unusedSimpArgs false

/-! ### impl_RecPhaseOk: function 34 -/
mutual
def impl_RecPhaseOk.j0 : Nat → Bool → ByteArray → Int → ByteArray → ByteArray → Int → Int → ByteArray → ByteArray → Option (Bool)
  | 0, _, _, _, _, _, _, _, _, _ => none
  | k + 1, x36, x138000, x138001, x138002, x138003, x138004, x138005, x138006, x138007 => if x36 = true then (some false) else (if x138001 = 1 then (impl_RecPhaseOk.j1 k x138001 (x138001 == 1) x138000 x138001 x138002 x138003 x138004 x138005 x138006 x138007) else (impl_RecPhaseOk.j1 k x138001 (x138001 == 2) x138000 x138001 x138002 x138003 x138004 x138005 x138006 x138007))
def impl_RecPhaseOk.j1 : Nat → Int → Bool → ByteArray → Int → ByteArray → ByteArray → Int → Int → ByteArray → ByteArray → Option (Bool)
  | 0, _, _, _, _, _, _, _, _, _, _ => none
  | k + 1, x38, x39, x138000, x138001, x138002, x138003, x138004, x138005, x138006, x138007 => if x39 = true then ((impl_name.f k x138003).bind fun t144 => (if t144 = true then ((impl_in.f x138004 1 1000).bind fun t145 => (if t145 = true then (if x138001 = 1 then (some true) else (some (x138002.toList != x138003.toList))) else (some false))) else (some false))) else (if x38 = 3 then (if x138003.toList = ([] : List UInt8) then ((impl_in.f x138004 1 x138005).bind fun t146 => (some t146)) else (some false)) else (if x38 = 4 then (if x138003.toList = ([] : List UInt8) then (some (x138004 == 0)) else (some false)) else (if x38 = 5 then (if x138003.toList = ([] : List UInt8) then (some (x138004 == 0)) else (some false)) else (some false))))
end
def impl_RecPhaseOk.f (k : Nat) (a0_0 : ByteArray) (a0_1 : Int) (a0_2 : ByteArray) (a0_3 : ByteArray) (a0_4 : Int) (a0_5 : Int) (a0_6 : ByteArray) (a0_7 : ByteArray) : Option (Bool) := (impl_name.f k a0_0).bind fun t138 => (if t138 = true then ((impl_RecEnd.f k a0_0).bind fun t139 => (if t139 > 0 then (impl_RecPhaseOk.j0 k true a0_0 a0_1 a0_2 a0_3 a0_4 a0_5 a0_6 a0_7) else ((impl_in.f a0_5 1 1000).bind fun t140 => (if t140 = true then ((impl_name.f k a0_2).bind fun t141 => (if t141 = true then ((impl_name.f k a0_6).bind fun t142 => (if t142 = true then ((impl_name.f k a0_7).bind fun t143 => (impl_RecPhaseOk.j0 k (!t143) a0_0 a0_1 a0_2 a0_3 a0_4 a0_5 a0_6 a0_7)) else (impl_RecPhaseOk.j0 k true a0_0 a0_1 a0_2 a0_3 a0_4 a0_5 a0_6 a0_7))) else (impl_RecPhaseOk.j0 k true a0_0 a0_1 a0_2 a0_3 a0_4 a0_5 a0_6 a0_7))) else (impl_RecPhaseOk.j0 k true a0_0 a0_1 a0_2 a0_3 a0_4 a0_5 a0_6 a0_7))))) else (impl_RecPhaseOk.j0 k true a0_0 a0_1 a0_2 a0_3 a0_4 a0_5 a0_6 a0_7))
theorem impl_RecPhaseOk.mono_l : ∀ k, (∀ y0 y1 y2 y3 y4 y5 y6 y7 y8, LeO (impl_RecPhaseOk.j0 k y0 y1 y2 y3 y4 y5 y6 y7 y8) (impl_RecPhaseOk.j0 (k + 1) y0 y1 y2 y3 y4 y5 y6 y7 y8)) ∧ (∀ y0 y1 y2 y3 y4 y5 y6 y7 y8 y9, LeO (impl_RecPhaseOk.j1 k y0 y1 y2 y3 y4 y5 y6 y7 y8 y9) (impl_RecPhaseOk.j1 (k + 1) y0 y1 y2 y3 y4 y5 y6 y7 y8 y9))
  | 0 => ⟨fun _ _ _ _ _ _ _ _ _ r h => by simp [impl_RecPhaseOk.j0] at h, fun _ _ _ _ _ _ _ _ _ _ r h => by simp [impl_RecPhaseOk.j1] at h⟩
  | k + 1 => by
    obtain ⟨ih0, ih1⟩ := impl_RecPhaseOk.mono_l k
    refine ⟨?_, ?_⟩
    · intro y0 y1 y2 y3 y4 y5 y6 y7 y8
      unfold impl_RecPhaseOk.j0
      repeat' first
      | (with_reducible exact ih0 _ _ _ _ _ _ _ _ _)
      | (with_reducible exact ih1 _ _ _ _ _ _ _ _ _ _)
      | (with_reducible exact impl_RecEnd.mono _ _)
      | (with_reducible exact impl_name.mono _ _)
      | (with_reducible exact LeO.refl _)
      | (with_reducible exact LeO.none _)
      | (with_reducible refine LeO.ite ?_ ?_)
      | (with_reducible refine LeO.bind ?_ (fun _ => ?_))
      | exact ih0 _ _ _ _ _ _ _ _ _
      | exact ih1 _ _ _ _ _ _ _ _ _ _
      | exact impl_RecEnd.mono _ _
      | exact impl_name.mono _ _
      | exact LeO.none _
      | refine LeO.ite ?_ ?_
      | refine LeO.bind ?_ (fun _ => ?_)
    · intro y0 y1 y2 y3 y4 y5 y6 y7 y8 y9
      unfold impl_RecPhaseOk.j1
      repeat' first
      | (with_reducible exact ih0 _ _ _ _ _ _ _ _ _)
      | (with_reducible exact ih1 _ _ _ _ _ _ _ _ _ _)
      | (with_reducible exact impl_RecEnd.mono _ _)
      | (with_reducible exact impl_name.mono _ _)
      | (with_reducible exact LeO.refl _)
      | (with_reducible exact LeO.none _)
      | (with_reducible refine LeO.ite ?_ ?_)
      | (with_reducible refine LeO.bind ?_ (fun _ => ?_))
      | exact ih0 _ _ _ _ _ _ _ _ _
      | exact ih1 _ _ _ _ _ _ _ _ _ _
      | exact impl_RecEnd.mono _ _
      | exact impl_name.mono _ _
      | exact LeO.none _
      | refine LeO.ite ?_ ?_
      | refine LeO.bind ?_ (fun _ => ?_)
theorem impl_RecPhaseOk.mono : ∀ a0 a1 a2 a3 a4 a5 a6 a7 k, LeO (impl_RecPhaseOk.f k a0 a1 a2 a3 a4 a5 a6 a7) (impl_RecPhaseOk.f (k + 1) a0 a1 a2 a3 a4 a5 a6 a7) := by
  intro a0 a1 a2 a3 a4 a5 a6 a7 k
  obtain ⟨ih0, ih1⟩ := impl_RecPhaseOk.mono_l k
  unfold impl_RecPhaseOk.f
  repeat' first
      | (with_reducible exact ih0 _ _ _ _ _ _ _ _ _)
      | (with_reducible exact ih1 _ _ _ _ _ _ _ _ _ _)
      | (with_reducible exact impl_RecEnd.mono _ _)
      | (with_reducible exact impl_name.mono _ _)
      | (with_reducible exact LeO.refl _)
      | (with_reducible exact LeO.none _)
      | (with_reducible refine LeO.ite ?_ ?_)
      | (with_reducible refine LeO.bind ?_ (fun _ => ?_))
      | exact ih0 _ _ _ _ _ _ _ _ _
      | exact ih1 _ _ _ _ _ _ _ _ _ _
      | exact impl_RecEnd.mono _ _
      | exact impl_name.mono _ _
      | exact LeO.none _
      | refine LeO.ite ?_ ?_
      | refine LeO.bind ?_ (fun _ => ?_)
set_option maxHeartbeats 8000000 in
set_option maxRecDepth 100000 in
theorem impl_RecPhaseOk.calls (k : Nat) (a0_0 : ByteArray) (a0_1 : Int) (a0_2 : ByteArray) (a0_3 : ByteArray) (a0_4 : Int) (a0_5 : Int) (a0_6 : ByteArray) (a0_7 : ByteArray) (r : Bool) (w : World) (h : impl_RecPhaseOk.f k a0_0 a0_1 a0_2 a0_3 a0_4 a0_5 a0_6 a0_7 = some r) :
    Calls Try.prog 34 #[.agg #[.string a0_0, .int .i64 a0_1, .string a0_2, .string a0_3, .int .i64 a0_4, .int .i64 a0_5, .string a0_6, .string a0_7]] w fun e w' => e = .returned (.bool r) ∧ Below w.heap.size w w' := by
  have hu39 := Try.underlying39
  have HB := Aside0.mk (Below.refl w.heap.size w)
  have H : ((impl_name.f k a0_0).bind fun t138 => (if t138 = true then ((impl_RecEnd.f k a0_0).bind fun t139 => (if t139 > 0 then (impl_RecPhaseOk.j0 k true a0_0 a0_1 a0_2 a0_3 a0_4 a0_5 a0_6 a0_7) else ((impl_in.f a0_5 1 1000).bind fun t140 => (if t140 = true then ((impl_name.f k a0_2).bind fun t141 => (if t141 = true then ((impl_name.f k a0_6).bind fun t142 => (if t142 = true then ((impl_name.f k a0_7).bind fun t143 => (impl_RecPhaseOk.j0 k (!t143) a0_0 a0_1 a0_2 a0_3 a0_4 a0_5 a0_6 a0_7)) else (impl_RecPhaseOk.j0 k true a0_0 a0_1 a0_2 a0_3 a0_4 a0_5 a0_6 a0_7))) else (impl_RecPhaseOk.j0 k true a0_0 a0_1 a0_2 a0_3 a0_4 a0_5 a0_6 a0_7))) else (impl_RecPhaseOk.j0 k true a0_0 a0_1 a0_2 a0_3 a0_4 a0_5 a0_6 a0_7))))) else (impl_RecPhaseOk.j0 k true a0_0 a0_1 a0_2 a0_3 a0_4 a0_5 a0_6 a0_7))) = some r := h
  clear h
  have HC2 := Aside0.mk H
  clear H
  go_enter Try.func34, Try.ntmps34
  go_upto_region 1 with (first | ((with_reducible refine gate_dst (N := 1) rfl ?_); refine box_event ?hg (N := 1) ?hd (cs := #[.string a0_0, .int .i64 a0_1, .string a0_2, .string a0_3, .int .i64 a0_4, .int .i64 a0_5, .string a0_6, .string a0_7]) (t := 39) ?hr ?_; (case hd => rfl); (case hg => rfl); (case hr => first | (go_simp; done) | (go_simp; rfl)); intro gb137 hg w3 hbox hb; have n0_ := bs HB hb; have n1_ := Aside0.mk (hbox); have n2_ := Aside0.mk ((by rw [hg]; exact (below_size (bw HB.out)) : w.heap.size ≤ gb137)); have n3_ := Aside0.mk ((by rw [hg]; exact (below_size (bw HB.out)) : w.heap.size ≤ gb137)); clear HB; have HB := n0_; have BK137 := n1_; have GW137 := n2_; have GE137 := n3_; clear n0_ n1_ n2_ n3_; clear hb hbox hg))
  (try simp only [Act.put, List.setIfInBounds_toArray, List.set_cons_zero, List.set_cons_succ])
  go_cut [36] (fun v36 wc => ∃ (kq : Nat) (x36_1 : Bool), v36 = .bool x36_1 ∧ Aside0 (impl_RecPhaseOk.j0 kq x36_1 a0_0 a0_1 a0_2 a0_3 a0_4 a0_5 a0_6 a0_7 = some r) ∧ Aside0 (kq ≤ k) ∧ Aside0 (wc.heap[gb137]? = some (.cells #[.string a0_0, .int .i64 a0_1, .string a0_2, .string a0_3, .int .i64 a0_4, .int .i64 a0_5, .string a0_6, .string a0_7] 39 (0, 0))) ∧ Aside0 (Below w.heap.size w wc))
  case first =>
    have H := HC2.out
    clear HC2
    replace H := Option.bind_eq_some_iff.mp H
    obtain ⟨t138, A40, H⟩ := H
    replace H : (if t138 = true then ((impl_RecEnd.f k a0_0).bind fun t139 => (if t139 > 0 then (impl_RecPhaseOk.j0 k true a0_0 a0_1 a0_2 a0_3 a0_4 a0_5 a0_6 a0_7) else ((impl_in.f a0_5 1 1000).bind fun t140 => (if t140 = true then ((impl_name.f k a0_2).bind fun t141 => (if t141 = true then ((impl_name.f k a0_6).bind fun t142 => (if t142 = true then ((impl_name.f k a0_7).bind fun t143 => (impl_RecPhaseOk.j0 k (!t143) a0_0 a0_1 a0_2 a0_3 a0_4 a0_5 a0_6 a0_7)) else (impl_RecPhaseOk.j0 k true a0_0 a0_1 a0_2 a0_3 a0_4 a0_5 a0_6 a0_7))) else (impl_RecPhaseOk.j0 k true a0_0 a0_1 a0_2 a0_3 a0_4 a0_5 a0_6 a0_7))) else (impl_RecPhaseOk.j0 k true a0_0 a0_1 a0_2 a0_3 a0_4 a0_5 a0_6 a0_7))))) else (impl_RecPhaseOk.j0 k true a0_0 a0_1 a0_2 a0_3 a0_4 a0_5 a0_6 a0_7)) = some r := H
    have A4 := Aside0.mk A40
    clear A40
    by_cases c5 : t138 = true
    · subst c5
      have H1 : ((impl_RecEnd.f k a0_0).bind fun t139 => (if t139 > 0 then (impl_RecPhaseOk.j0 k true a0_0 a0_1 a0_2 a0_3 a0_4 a0_5 a0_6 a0_7) else ((impl_in.f a0_5 1 1000).bind fun t140 => (if t140 = true then ((impl_name.f k a0_2).bind fun t141 => (if t141 = true then ((impl_name.f k a0_6).bind fun t142 => (if t142 = true then ((impl_name.f k a0_7).bind fun t143 => (impl_RecPhaseOk.j0 k (!t143) a0_0 a0_1 a0_2 a0_3 a0_4 a0_5 a0_6 a0_7)) else (impl_RecPhaseOk.j0 k true a0_0 a0_1 a0_2 a0_3 a0_4 a0_5 a0_6 a0_7))) else (impl_RecPhaseOk.j0 k true a0_0 a0_1 a0_2 a0_3 a0_4 a0_5 a0_6 a0_7))) else (impl_RecPhaseOk.j0 k true a0_0 a0_1 a0_2 a0_3 a0_4 a0_5 a0_6 a0_7))))) = some r := by rw [if_pos rfl] at H; exact H
      clear H
      have H := H1
      clear H1
      replace H := Option.bind_eq_some_iff.mp H
      obtain ⟨t139, A60, H⟩ := H
      replace H : (if t139 > 0 then (impl_RecPhaseOk.j0 k true a0_0 a0_1 a0_2 a0_3 a0_4 a0_5 a0_6 a0_7) else ((impl_in.f a0_5 1 1000).bind fun t140 => (if t140 = true then ((impl_name.f k a0_2).bind fun t141 => (if t141 = true then ((impl_name.f k a0_6).bind fun t142 => (if t142 = true then ((impl_name.f k a0_7).bind fun t143 => (impl_RecPhaseOk.j0 k (!t143) a0_0 a0_1 a0_2 a0_3 a0_4 a0_5 a0_6 a0_7)) else (impl_RecPhaseOk.j0 k true a0_0 a0_1 a0_2 a0_3 a0_4 a0_5 a0_6 a0_7))) else (impl_RecPhaseOk.j0 k true a0_0 a0_1 a0_2 a0_3 a0_4 a0_5 a0_6 a0_7))) else (impl_RecPhaseOk.j0 k true a0_0 a0_1 a0_2 a0_3 a0_4 a0_5 a0_6 a0_7)))) = some r := H
      have A6 := Aside0.mk A60
      clear A60
      by_cases c7 : t139 > 0
      · rw [if_pos c7] at H
        have c7b0 : decide (0 < t139) = true := decide_eq_true c7
        clear c7
        (first | rw [c7b0] | (simp only [i64_w, i32_w]; rw [c7b0]) | skip)
        have H' := Aside0.mk H
        clear H
        have hcz8_0 := b0 BK137
        have hcz8_1 := b1 BK137
        have hcz8_2 := b2 BK137
        have hcz8_3 := b3 BK137
        have hcz8_4 := b4 BK137
        have hcz8_5 := b5 BK137
        have hcz8_6 := b6 BK137
        have hcz8_7 := b7 BK137
        have hfz8_0 := fz BK137 0
        have hfz8_1 := fz BK137 1
        have hfz8_2 := fz BK137 2
        have hfz8_3 := fz BK137 3
        have hfz8_4 := fz BK137 4
        have hfz8_5 := fz BK137 5
        have hfz8_6 := fz BK137 6
        have hfz8_7 := fz BK137 7
        go_wp2_with (first | ((with_reducible refine gate_callee (f := 78) rfl ?_); refine goesL_ (some 5) rfl rfl Try.func78 (by kernel_rfl) rfl #[.string a0_0] rfl mxp ?_; (with_reducible refine (impl_name.calls k a0_0 true _ A4.out).mono ?_); rintro e w' ⟨rfl, ⟨nd, rfl⟩⟩; refine ⟨_, rfl, ?_⟩) | (go_at_call 19; (with_reducible refine (impl_RecEnd.calls k a0_0 t139 _ A6.out).mono ?_); rintro e w9 ⟨rfl, hb⟩; replace BK137 := up BK137 hb; replace HB := bs HB hb; (try clear hb); (try clear hb2); (try clear hk); (try clear hi)))
        go_meet
        case rel => exact ⟨_, (true), (by first | rfl | (simp; done) | (simp [*]; done)), H', ⟨by first | omega | exact Nat.le_refl _⟩, (bk BK137), (hbw HB)⟩
      · rw [if_neg c7] at H
        have c7b0 : decide (0 < t139) = false := decide_eq_false c7
        clear c7
        (first | rw [c7b0] | (simp only [i64_w, i32_w]; rw [c7b0]) | skip)
        replace H := Option.bind_eq_some_iff.mp H
        obtain ⟨t140, A100, H⟩ := H
        replace H : (if t140 = true then ((impl_name.f k a0_2).bind fun t141 => (if t141 = true then ((impl_name.f k a0_6).bind fun t142 => (if t142 = true then ((impl_name.f k a0_7).bind fun t143 => (impl_RecPhaseOk.j0 k (!t143) a0_0 a0_1 a0_2 a0_3 a0_4 a0_5 a0_6 a0_7)) else (impl_RecPhaseOk.j0 k true a0_0 a0_1 a0_2 a0_3 a0_4 a0_5 a0_6 a0_7))) else (impl_RecPhaseOk.j0 k true a0_0 a0_1 a0_2 a0_3 a0_4 a0_5 a0_6 a0_7))) else (impl_RecPhaseOk.j0 k true a0_0 a0_1 a0_2 a0_3 a0_4 a0_5 a0_6 a0_7)) = some r := H
        have A10 := Aside0.mk A100
        clear A100
        by_cases c11 : t140 = true
        · subst c11
          have H1 : ((impl_name.f k a0_2).bind fun t141 => (if t141 = true then ((impl_name.f k a0_6).bind fun t142 => (if t142 = true then ((impl_name.f k a0_7).bind fun t143 => (impl_RecPhaseOk.j0 k (!t143) a0_0 a0_1 a0_2 a0_3 a0_4 a0_5 a0_6 a0_7)) else (impl_RecPhaseOk.j0 k true a0_0 a0_1 a0_2 a0_3 a0_4 a0_5 a0_6 a0_7))) else (impl_RecPhaseOk.j0 k true a0_0 a0_1 a0_2 a0_3 a0_4 a0_5 a0_6 a0_7))) = some r := by rw [if_pos rfl] at H; exact H
          clear H
          have H := H1
          clear H1
          replace H := Option.bind_eq_some_iff.mp H
          obtain ⟨t141, A120, H⟩ := H
          replace H : (if t141 = true then ((impl_name.f k a0_6).bind fun t142 => (if t142 = true then ((impl_name.f k a0_7).bind fun t143 => (impl_RecPhaseOk.j0 k (!t143) a0_0 a0_1 a0_2 a0_3 a0_4 a0_5 a0_6 a0_7)) else (impl_RecPhaseOk.j0 k true a0_0 a0_1 a0_2 a0_3 a0_4 a0_5 a0_6 a0_7))) else (impl_RecPhaseOk.j0 k true a0_0 a0_1 a0_2 a0_3 a0_4 a0_5 a0_6 a0_7)) = some r := H
          have A12 := Aside0.mk A120
          clear A120
          by_cases c13 : t141 = true
          · subst c13
            have H1 : ((impl_name.f k a0_6).bind fun t142 => (if t142 = true then ((impl_name.f k a0_7).bind fun t143 => (impl_RecPhaseOk.j0 k (!t143) a0_0 a0_1 a0_2 a0_3 a0_4 a0_5 a0_6 a0_7)) else (impl_RecPhaseOk.j0 k true a0_0 a0_1 a0_2 a0_3 a0_4 a0_5 a0_6 a0_7))) = some r := by rw [if_pos rfl] at H; exact H
            clear H
            have H := H1
            clear H1
            replace H := Option.bind_eq_some_iff.mp H
            obtain ⟨t142, A140, H⟩ := H
            replace H : (if t142 = true then ((impl_name.f k a0_7).bind fun t143 => (impl_RecPhaseOk.j0 k (!t143) a0_0 a0_1 a0_2 a0_3 a0_4 a0_5 a0_6 a0_7)) else (impl_RecPhaseOk.j0 k true a0_0 a0_1 a0_2 a0_3 a0_4 a0_5 a0_6 a0_7)) = some r := H
            have A14 := Aside0.mk A140
            clear A140
            by_cases c15 : t142 = true
            · subst c15
              have H1 : ((impl_name.f k a0_7).bind fun t143 => (impl_RecPhaseOk.j0 k (!t143) a0_0 a0_1 a0_2 a0_3 a0_4 a0_5 a0_6 a0_7)) = some r := by rw [if_pos rfl] at H; exact H
              clear H
              have H := H1
              clear H1
              replace H := Option.bind_eq_some_iff.mp H
              obtain ⟨t143, A160, H⟩ := H
              replace H : (impl_RecPhaseOk.j0 k (!t143) a0_0 a0_1 a0_2 a0_3 a0_4 a0_5 a0_6 a0_7) = some r := H
              have A16 := Aside0.mk A160
              clear A160
              have H' := Aside0.mk H
              clear H
              have hcz17_0 := b0 BK137
              have hcz17_1 := b1 BK137
              have hcz17_2 := b2 BK137
              have hcz17_3 := b3 BK137
              have hcz17_4 := b4 BK137
              have hcz17_5 := b5 BK137
              have hcz17_6 := b6 BK137
              have hcz17_7 := b7 BK137
              have hfz17_0 := fz BK137 0
              have hfz17_1 := fz BK137 1
              have hfz17_2 := fz BK137 2
              have hfz17_3 := fz BK137 3
              have hfz17_4 := fz BK137 4
              have hfz17_5 := fz BK137 5
              have hfz17_6 := fz BK137 6
              have hfz17_7 := fz BK137 7
              go_wp2_with (first | ((with_reducible refine gate_callee (f := 78) rfl ?_); refine goesL_ (some 5) rfl rfl Try.func78 (by kernel_rfl) rfl #[.string a0_0] rfl mxp ?_; (with_reducible refine (impl_name.calls k a0_0 true _ A4.out).mono ?_); rintro e w' ⟨rfl, ⟨nd, rfl⟩⟩; refine ⟨_, rfl, ?_⟩) | (go_at_call 19; (with_reducible refine (impl_RecEnd.calls k a0_0 t139 _ A6.out).mono ?_); rintro e w18 ⟨rfl, hb⟩; replace BK137 := up BK137 hb; replace HB := bs HB hb; (try clear hb); (try clear hb2); (try clear hk); (try clear hi); have hcz19_0 := b0 BK137; have hcz19_1 := b1 BK137; have hcz19_2 := b2 BK137; have hcz19_3 := b3 BK137; have hcz19_4 := b4 BK137; have hcz19_5 := b5 BK137; have hcz19_6 := b6 BK137; have hcz19_7 := b7 BK137; have hfz19_0 := fz BK137 0; have hfz19_1 := fz BK137 1; have hfz19_2 := fz BK137 2; have hfz19_3 := fz BK137 3; have hfz19_4 := fz BK137 4; have hfz19_5 := fz BK137 5; have hfz19_6 := fz BK137 6; have hfz19_7 := fz BK137 7) | (go_at_call 68; (with_reducible refine (impl_in.calls a0_5 1 1000 true _ A10.out).mono ?_); rintro e w' ⟨rfl, ⟨nd, rfl⟩⟩) | (go_at_call 78; (with_reducible refine (impl_name.calls k a0_2 true _ A12.out).mono ?_); rintro e w' ⟨rfl, ⟨nd, rfl⟩⟩) | (go_at_call 78; (with_reducible refine (impl_name.calls k a0_6 true _ A14.out).mono ?_); rintro e w' ⟨rfl, ⟨nd, rfl⟩⟩) | (go_at_call 78; (with_reducible refine (impl_name.calls k a0_7 t143 _ A16.out).mono ?_); rintro e w' ⟨rfl, ⟨nd, rfl⟩⟩))
              go_meet
              case rel => exact ⟨_, (!t143), (by first | rfl | (simp; done) | (simp [*]; done)), H', ⟨by first | omega | exact Nat.le_refl _⟩, (bk BK137), (hbw HB)⟩
            · replace c15 := Bool.eq_false_iff.mpr c15
              subst c15
              have H1 : (impl_RecPhaseOk.j0 k true a0_0 a0_1 a0_2 a0_3 a0_4 a0_5 a0_6 a0_7) = some r := by rw [if_neg (show ¬ (false = true) by decide)] at H; exact H
              clear H
              have H := H1
              clear H1
              have H' := Aside0.mk H
              clear H
              have hcz20_0 := b0 BK137
              have hcz20_1 := b1 BK137
              have hcz20_2 := b2 BK137
              have hcz20_3 := b3 BK137
              have hcz20_4 := b4 BK137
              have hcz20_5 := b5 BK137
              have hcz20_6 := b6 BK137
              have hcz20_7 := b7 BK137
              have hfz20_0 := fz BK137 0
              have hfz20_1 := fz BK137 1
              have hfz20_2 := fz BK137 2
              have hfz20_3 := fz BK137 3
              have hfz20_4 := fz BK137 4
              have hfz20_5 := fz BK137 5
              have hfz20_6 := fz BK137 6
              have hfz20_7 := fz BK137 7
              go_wp2_with (first | ((with_reducible refine gate_callee (f := 78) rfl ?_); refine goesL_ (some 5) rfl rfl Try.func78 (by kernel_rfl) rfl #[.string a0_0] rfl mxp ?_; (with_reducible refine (impl_name.calls k a0_0 true _ A4.out).mono ?_); rintro e w' ⟨rfl, ⟨nd, rfl⟩⟩; refine ⟨_, rfl, ?_⟩) | (go_at_call 19; (with_reducible refine (impl_RecEnd.calls k a0_0 t139 _ A6.out).mono ?_); rintro e w21 ⟨rfl, hb⟩; replace BK137 := up BK137 hb; replace HB := bs HB hb; (try clear hb); (try clear hb2); (try clear hk); (try clear hi); have hcz22_0 := b0 BK137; have hcz22_1 := b1 BK137; have hcz22_2 := b2 BK137; have hcz22_3 := b3 BK137; have hcz22_4 := b4 BK137; have hcz22_5 := b5 BK137; have hcz22_6 := b6 BK137; have hcz22_7 := b7 BK137; have hfz22_0 := fz BK137 0; have hfz22_1 := fz BK137 1; have hfz22_2 := fz BK137 2; have hfz22_3 := fz BK137 3; have hfz22_4 := fz BK137 4; have hfz22_5 := fz BK137 5; have hfz22_6 := fz BK137 6; have hfz22_7 := fz BK137 7) | (go_at_call 68; (with_reducible refine (impl_in.calls a0_5 1 1000 true _ A10.out).mono ?_); rintro e w' ⟨rfl, ⟨nd, rfl⟩⟩) | (go_at_call 78; (with_reducible refine (impl_name.calls k a0_2 true _ A12.out).mono ?_); rintro e w' ⟨rfl, ⟨nd, rfl⟩⟩) | (go_at_call 78; (with_reducible refine (impl_name.calls k a0_6 false _ A14.out).mono ?_); rintro e w' ⟨rfl, ⟨nd, rfl⟩⟩))
              go_meet
              case rel => exact ⟨_, (true), (by first | rfl | (simp; done) | (simp [*]; done)), H', ⟨by first | omega | exact Nat.le_refl _⟩, (bk BK137), (hbw HB)⟩
          · replace c13 := Bool.eq_false_iff.mpr c13
            subst c13
            have H1 : (impl_RecPhaseOk.j0 k true a0_0 a0_1 a0_2 a0_3 a0_4 a0_5 a0_6 a0_7) = some r := by rw [if_neg (show ¬ (false = true) by decide)] at H; exact H
            clear H
            have H := H1
            clear H1
            have H' := Aside0.mk H
            clear H
            have hcz23_0 := b0 BK137
            have hcz23_1 := b1 BK137
            have hcz23_2 := b2 BK137
            have hcz23_3 := b3 BK137
            have hcz23_4 := b4 BK137
            have hcz23_5 := b5 BK137
            have hcz23_6 := b6 BK137
            have hcz23_7 := b7 BK137
            have hfz23_0 := fz BK137 0
            have hfz23_1 := fz BK137 1
            have hfz23_2 := fz BK137 2
            have hfz23_3 := fz BK137 3
            have hfz23_4 := fz BK137 4
            have hfz23_5 := fz BK137 5
            have hfz23_6 := fz BK137 6
            have hfz23_7 := fz BK137 7
            go_wp2_with (first | ((with_reducible refine gate_callee (f := 78) rfl ?_); refine goesL_ (some 5) rfl rfl Try.func78 (by kernel_rfl) rfl #[.string a0_0] rfl mxp ?_; (with_reducible refine (impl_name.calls k a0_0 true _ A4.out).mono ?_); rintro e w' ⟨rfl, ⟨nd, rfl⟩⟩; refine ⟨_, rfl, ?_⟩) | (go_at_call 19; (with_reducible refine (impl_RecEnd.calls k a0_0 t139 _ A6.out).mono ?_); rintro e w24 ⟨rfl, hb⟩; replace BK137 := up BK137 hb; replace HB := bs HB hb; (try clear hb); (try clear hb2); (try clear hk); (try clear hi); have hcz25_0 := b0 BK137; have hcz25_1 := b1 BK137; have hcz25_2 := b2 BK137; have hcz25_3 := b3 BK137; have hcz25_4 := b4 BK137; have hcz25_5 := b5 BK137; have hcz25_6 := b6 BK137; have hcz25_7 := b7 BK137; have hfz25_0 := fz BK137 0; have hfz25_1 := fz BK137 1; have hfz25_2 := fz BK137 2; have hfz25_3 := fz BK137 3; have hfz25_4 := fz BK137 4; have hfz25_5 := fz BK137 5; have hfz25_6 := fz BK137 6; have hfz25_7 := fz BK137 7) | (go_at_call 68; (with_reducible refine (impl_in.calls a0_5 1 1000 true _ A10.out).mono ?_); rintro e w' ⟨rfl, ⟨nd, rfl⟩⟩) | (go_at_call 78; (with_reducible refine (impl_name.calls k a0_2 false _ A12.out).mono ?_); rintro e w' ⟨rfl, ⟨nd, rfl⟩⟩))
            go_meet
            case rel => exact ⟨_, (true), (by first | rfl | (simp; done) | (simp [*]; done)), H', ⟨by first | omega | exact Nat.le_refl _⟩, (bk BK137), (hbw HB)⟩
        · replace c11 := Bool.eq_false_iff.mpr c11
          subst c11
          have H1 : (impl_RecPhaseOk.j0 k true a0_0 a0_1 a0_2 a0_3 a0_4 a0_5 a0_6 a0_7) = some r := by rw [if_neg (show ¬ (false = true) by decide)] at H; exact H
          clear H
          have H := H1
          clear H1
          have H' := Aside0.mk H
          clear H
          have hcz26_0 := b0 BK137
          have hcz26_1 := b1 BK137
          have hcz26_2 := b2 BK137
          have hcz26_3 := b3 BK137
          have hcz26_4 := b4 BK137
          have hcz26_5 := b5 BK137
          have hcz26_6 := b6 BK137
          have hcz26_7 := b7 BK137
          have hfz26_0 := fz BK137 0
          have hfz26_1 := fz BK137 1
          have hfz26_2 := fz BK137 2
          have hfz26_3 := fz BK137 3
          have hfz26_4 := fz BK137 4
          have hfz26_5 := fz BK137 5
          have hfz26_6 := fz BK137 6
          have hfz26_7 := fz BK137 7
          go_wp2_with (first | ((with_reducible refine gate_callee (f := 78) rfl ?_); refine goesL_ (some 5) rfl rfl Try.func78 (by kernel_rfl) rfl #[.string a0_0] rfl mxp ?_; (with_reducible refine (impl_name.calls k a0_0 true _ A4.out).mono ?_); rintro e w' ⟨rfl, ⟨nd, rfl⟩⟩; refine ⟨_, rfl, ?_⟩) | (go_at_call 19; (with_reducible refine (impl_RecEnd.calls k a0_0 t139 _ A6.out).mono ?_); rintro e w27 ⟨rfl, hb⟩; replace BK137 := up BK137 hb; replace HB := bs HB hb; (try clear hb); (try clear hb2); (try clear hk); (try clear hi); have hcz28_0 := b0 BK137; have hcz28_1 := b1 BK137; have hcz28_2 := b2 BK137; have hcz28_3 := b3 BK137; have hcz28_4 := b4 BK137; have hcz28_5 := b5 BK137; have hcz28_6 := b6 BK137; have hcz28_7 := b7 BK137; have hfz28_0 := fz BK137 0; have hfz28_1 := fz BK137 1; have hfz28_2 := fz BK137 2; have hfz28_3 := fz BK137 3; have hfz28_4 := fz BK137 4; have hfz28_5 := fz BK137 5; have hfz28_6 := fz BK137 6; have hfz28_7 := fz BK137 7) | (go_at_call 68; (with_reducible refine (impl_in.calls a0_5 1 1000 false _ A10.out).mono ?_); rintro e w' ⟨rfl, ⟨nd, rfl⟩⟩))
          go_meet
          case rel => exact ⟨_, (true), (by first | rfl | (simp; done) | (simp [*]; done)), H', ⟨by first | omega | exact Nat.le_refl _⟩, (bk BK137), (hbw HB)⟩
    · replace c5 := Bool.eq_false_iff.mpr c5
      subst c5
      have H1 : (impl_RecPhaseOk.j0 k true a0_0 a0_1 a0_2 a0_3 a0_4 a0_5 a0_6 a0_7) = some r := by rw [if_neg (show ¬ (false = true) by decide)] at H; exact H
      clear H
      have H := H1
      clear H1
      have H' := Aside0.mk H
      clear H
      have hcz29_0 := b0 BK137
      have hcz29_1 := b1 BK137
      have hcz29_2 := b2 BK137
      have hcz29_3 := b3 BK137
      have hcz29_4 := b4 BK137
      have hcz29_5 := b5 BK137
      have hcz29_6 := b6 BK137
      have hcz29_7 := b7 BK137
      have hfz29_0 := fz BK137 0
      have hfz29_1 := fz BK137 1
      have hfz29_2 := fz BK137 2
      have hfz29_3 := fz BK137 3
      have hfz29_4 := fz BK137 4
      have hfz29_5 := fz BK137 5
      have hfz29_6 := fz BK137 6
      have hfz29_7 := fz BK137 7
      go_wp2_with (first | ((with_reducible refine gate_callee (f := 78) rfl ?_); refine goesL_ (some 5) rfl rfl Try.func78 (by kernel_rfl) rfl #[.string a0_0] rfl mxp ?_; (with_reducible refine (impl_name.calls k a0_0 false _ A4.out).mono ?_); rintro e w' ⟨rfl, ⟨nd, rfl⟩⟩; refine ⟨_, rfl, ?_⟩))
      go_meet
      case rel => exact ⟨_, (true), (by first | rfl | (simp; done) | (simp [*]; done)), H', ⟨by first | omega | exact Nat.le_refl _⟩, (bk BK137), (hbw HB)⟩
  case rest =>
    clear HC2
    try clear c1
    try clear p2
    try clear c3
    try clear c5
    try clear c7
    try clear c7b0
    try clear c11
    try clear c13
    try clear c15
    try clear hcz17_0
    try clear hcz17_1
    try clear hcz17_2
    try clear hcz17_3
    try clear hcz17_4
    try clear hcz17_5
    try clear hcz17_6
    try clear hcz17_7
    try clear hcz19_0
    try clear hcz19_1
    try clear hcz19_2
    try clear hcz19_3
    try clear hcz19_4
    try clear hcz19_5
    try clear hcz19_6
    try clear hcz19_7
    try clear hcz20_0
    try clear hcz20_1
    try clear hcz20_2
    try clear hcz20_3
    try clear hcz20_4
    try clear hcz20_5
    try clear hcz20_6
    try clear hcz20_7
    try clear hcz22_0
    try clear hcz22_1
    try clear hcz22_2
    try clear hcz22_3
    try clear hcz22_4
    try clear hcz22_5
    try clear hcz22_6
    try clear hcz22_7
    try clear hcz23_0
    try clear hcz23_1
    try clear hcz23_2
    try clear hcz23_3
    try clear hcz23_4
    try clear hcz23_5
    try clear hcz23_6
    try clear hcz23_7
    try clear hcz25_0
    try clear hcz25_1
    try clear hcz25_2
    try clear hcz25_3
    try clear hcz25_4
    try clear hcz25_5
    try clear hcz25_6
    try clear hcz25_7
    try clear hcz26_0
    try clear hcz26_1
    try clear hcz26_2
    try clear hcz26_3
    try clear hcz26_4
    try clear hcz26_5
    try clear hcz26_6
    try clear hcz26_7
    try clear hcz28_0
    try clear hcz28_1
    try clear hcz28_2
    try clear hcz28_3
    try clear hcz28_4
    try clear hcz28_5
    try clear hcz28_6
    try clear hcz28_7
    try clear hcz29_0
    try clear hcz29_1
    try clear hcz29_2
    try clear hcz29_3
    try clear hcz29_4
    try clear hcz29_5
    try clear hcz29_6
    try clear hcz29_7
    try clear hcz8_0
    try clear hcz8_1
    try clear hcz8_2
    try clear hcz8_3
    try clear hcz8_4
    try clear hcz8_5
    try clear hcz8_6
    try clear hcz8_7
    try clear hfz17_0
    try clear hfz17_1
    try clear hfz17_2
    try clear hfz17_3
    try clear hfz17_4
    try clear hfz17_5
    try clear hfz17_6
    try clear hfz17_7
    try clear hfz19_0
    try clear hfz19_1
    try clear hfz19_2
    try clear hfz19_3
    try clear hfz19_4
    try clear hfz19_5
    try clear hfz19_6
    try clear hfz19_7
    try clear hfz20_0
    try clear hfz20_1
    try clear hfz20_2
    try clear hfz20_3
    try clear hfz20_4
    try clear hfz20_5
    try clear hfz20_6
    try clear hfz20_7
    try clear hfz22_0
    try clear hfz22_1
    try clear hfz22_2
    try clear hfz22_3
    try clear hfz22_4
    try clear hfz22_5
    try clear hfz22_6
    try clear hfz22_7
    try clear hfz23_0
    try clear hfz23_1
    try clear hfz23_2
    try clear hfz23_3
    try clear hfz23_4
    try clear hfz23_5
    try clear hfz23_6
    try clear hfz23_7
    try clear hfz25_0
    try clear hfz25_1
    try clear hfz25_2
    try clear hfz25_3
    try clear hfz25_4
    try clear hfz25_5
    try clear hfz25_6
    try clear hfz25_7
    try clear hfz26_0
    try clear hfz26_1
    try clear hfz26_2
    try clear hfz26_3
    try clear hfz26_4
    try clear hfz26_5
    try clear hfz26_6
    try clear hfz26_7
    try clear hfz28_0
    try clear hfz28_1
    try clear hfz28_2
    try clear hfz28_3
    try clear hfz28_4
    try clear hfz28_5
    try clear hfz28_6
    try clear hfz28_7
    try clear hfz29_0
    try clear hfz29_1
    try clear hfz29_2
    try clear hfz29_3
    try clear hfz29_4
    try clear hfz29_5
    try clear hfz29_6
    try clear hfz29_7
    try clear hfz8_0
    try clear hfz8_1
    try clear hfz8_2
    try clear hfz8_3
    try clear hfz8_4
    try clear hfz8_5
    try clear hfz8_6
    try clear hfz8_7
    obtain ⟨kq, x36_1, rfl, HA, HJ1, BK137, HB⟩ := hcut
    cases kq with
    | zero => exact absurd HA.out (by simp [impl_RecPhaseOk.j0])
    | succ kj1 =>
      have H := HA.out
      clear HA
      simp only [impl_RecPhaseOk.j0] at H
      by_cases c30 : x36_1 = true
      · subst c30
        have H1 : (some false) = some r := by rw [if_pos rfl] at H; exact H
        clear H
        have H := H1
        clear H1
        obtain rfl := Option.some.inj H
        go_wp2
        go_ret
        exact ⟨exq, bw HB.out⟩
      · replace c30 := Bool.eq_false_iff.mpr c30
        subst c30
        have H1 : (if a0_1 = 1 then (impl_RecPhaseOk.j1 kj1 a0_1 (a0_1 == 1) a0_0 a0_1 a0_2 a0_3 a0_4 a0_5 a0_6 a0_7) else (impl_RecPhaseOk.j1 kj1 a0_1 (a0_1 == 2) a0_0 a0_1 a0_2 a0_3 a0_4 a0_5 a0_6 a0_7)) = some r := by rw [if_neg (show ¬ (false = true) by decide)] at H; exact H
        clear H
        have H := H1
        clear H1
        have HC31 := Aside0.mk H
        clear H
        have hcz32_0 := b0 BK137
        have hcz32_1 := b1 BK137
        have hcz32_2 := b2 BK137
        have hcz32_3 := b3 BK137
        have hcz32_4 := b4 BK137
        have hcz32_5 := b5 BK137
        have hcz32_6 := b6 BK137
        have hcz32_7 := b7 BK137
        have hfz32_0 := fz BK137 0
        have hfz32_1 := fz BK137 1
        have hfz32_2 := fz BK137 2
        have hfz32_3 := fz BK137 3
        have hfz32_4 := fz BK137 4
        have hfz32_5 := fz BK137 5
        have hfz32_6 := fz BK137 6
        have hfz32_7 := fz BK137 7
        go_upto_if 39 with (fail)
        go_cut [39] (fun v39 wc => ∃ (kq : Nat) (x39_30 : Bool), v39 = .bool x39_30 ∧ Aside0 (impl_RecPhaseOk.j1 kq a0_1 x39_30 a0_0 a0_1 a0_2 a0_3 a0_4 a0_5 a0_6 a0_7 = some r) ∧ Aside0 (kq ≤ kj1) ∧ Aside0 (wc.heap[gb137]? = some (.cells #[.string a0_0, .int .i64 a0_1, .string a0_2, .string a0_3, .int .i64 a0_4, .int .i64 a0_5, .string a0_6, .string a0_7] 39 (0, 0))) ∧ Aside0 (Below w.heap.size w wc))
        case first =>
          have H := HC31.out
          clear HC31
          by_cases c33 : a0_1 = 1
          · rw [if_pos c33] at H
            have c33b0 : (a0_1 == 1) = true := beq_iff_eq.mpr c33
            have c33b1 : (a0_1 != 1) = false := bne_eq_false_iff_eq.mpr c33
            clear c33
            (first | rw [c33b0] | (simp only [i64_w, i32_w]; rw [c33b0]) | skip)
            have H' := Aside0.mk H
            clear H
            go_wp2
            go_meet
            case rel => exact ⟨_, ((a0_1 == 1)), (by first | rfl | (simp; done) | (simp [*]; done)), H', ⟨by have := HJ1.out; first | omega | exact Nat.le_refl _⟩, (bk BK137), (hbw HB)⟩
          · rw [if_neg c33] at H
            have c33b0 : (a0_1 == 1) = false := beq_eq_false_iff_ne.mpr c33
            have c33b1 : (a0_1 != 1) = true := bne_iff_ne.mpr c33
            (first | rw [c33b0] | (simp only [i64_w, i32_w]; rw [c33b0]) | skip)
            have H' := Aside0.mk H
            clear H
            go_wp2
            go_meet
            case rel => exact ⟨_, ((a0_1 == 2)), (by first | rfl | (simp; done) | (simp [*]; done)), H', ⟨by have := HJ1.out; first | omega | exact Nat.le_refl _⟩, (bk BK137), (hbw HB)⟩
        case rest =>
          clear HC31
          try clear c1
          try clear p2
          try clear c3
          try clear c5
          try clear c7
          try clear c7b0
          try clear c11
          try clear c13
          try clear c15
          try clear c30
          try clear c33
          try clear c33b0
          try clear c33b1
          try clear hcz17_0
          try clear hcz17_1
          try clear hcz17_2
          try clear hcz17_3
          try clear hcz17_4
          try clear hcz17_5
          try clear hcz17_6
          try clear hcz17_7
          try clear hcz19_0
          try clear hcz19_1
          try clear hcz19_2
          try clear hcz19_3
          try clear hcz19_4
          try clear hcz19_5
          try clear hcz19_6
          try clear hcz19_7
          try clear hcz20_0
          try clear hcz20_1
          try clear hcz20_2
          try clear hcz20_3
          try clear hcz20_4
          try clear hcz20_5
          try clear hcz20_6
          try clear hcz20_7
          try clear hcz22_0
          try clear hcz22_1
          try clear hcz22_2
          try clear hcz22_3
          try clear hcz22_4
          try clear hcz22_5
          try clear hcz22_6
          try clear hcz22_7
          try clear hcz23_0
          try clear hcz23_1
          try clear hcz23_2
          try clear hcz23_3
          try clear hcz23_4
          try clear hcz23_5
          try clear hcz23_6
          try clear hcz23_7
          try clear hcz25_0
          try clear hcz25_1
          try clear hcz25_2
          try clear hcz25_3
          try clear hcz25_4
          try clear hcz25_5
          try clear hcz25_6
          try clear hcz25_7
          try clear hcz26_0
          try clear hcz26_1
          try clear hcz26_2
          try clear hcz26_3
          try clear hcz26_4
          try clear hcz26_5
          try clear hcz26_6
          try clear hcz26_7
          try clear hcz28_0
          try clear hcz28_1
          try clear hcz28_2
          try clear hcz28_3
          try clear hcz28_4
          try clear hcz28_5
          try clear hcz28_6
          try clear hcz28_7
          try clear hcz29_0
          try clear hcz29_1
          try clear hcz29_2
          try clear hcz29_3
          try clear hcz29_4
          try clear hcz29_5
          try clear hcz29_6
          try clear hcz29_7
          try clear hcz32_0
          try clear hcz32_1
          try clear hcz32_2
          try clear hcz32_3
          try clear hcz32_4
          try clear hcz32_5
          try clear hcz32_6
          try clear hcz32_7
          try clear hcz8_0
          try clear hcz8_1
          try clear hcz8_2
          try clear hcz8_3
          try clear hcz8_4
          try clear hcz8_5
          try clear hcz8_6
          try clear hcz8_7
          try clear hfz17_0
          try clear hfz17_1
          try clear hfz17_2
          try clear hfz17_3
          try clear hfz17_4
          try clear hfz17_5
          try clear hfz17_6
          try clear hfz17_7
          try clear hfz19_0
          try clear hfz19_1
          try clear hfz19_2
          try clear hfz19_3
          try clear hfz19_4
          try clear hfz19_5
          try clear hfz19_6
          try clear hfz19_7
          try clear hfz20_0
          try clear hfz20_1
          try clear hfz20_2
          try clear hfz20_3
          try clear hfz20_4
          try clear hfz20_5
          try clear hfz20_6
          try clear hfz20_7
          try clear hfz22_0
          try clear hfz22_1
          try clear hfz22_2
          try clear hfz22_3
          try clear hfz22_4
          try clear hfz22_5
          try clear hfz22_6
          try clear hfz22_7
          try clear hfz23_0
          try clear hfz23_1
          try clear hfz23_2
          try clear hfz23_3
          try clear hfz23_4
          try clear hfz23_5
          try clear hfz23_6
          try clear hfz23_7
          try clear hfz25_0
          try clear hfz25_1
          try clear hfz25_2
          try clear hfz25_3
          try clear hfz25_4
          try clear hfz25_5
          try clear hfz25_6
          try clear hfz25_7
          try clear hfz26_0
          try clear hfz26_1
          try clear hfz26_2
          try clear hfz26_3
          try clear hfz26_4
          try clear hfz26_5
          try clear hfz26_6
          try clear hfz26_7
          try clear hfz28_0
          try clear hfz28_1
          try clear hfz28_2
          try clear hfz28_3
          try clear hfz28_4
          try clear hfz28_5
          try clear hfz28_6
          try clear hfz28_7
          try clear hfz29_0
          try clear hfz29_1
          try clear hfz29_2
          try clear hfz29_3
          try clear hfz29_4
          try clear hfz29_5
          try clear hfz29_6
          try clear hfz29_7
          try clear hfz32_0
          try clear hfz32_1
          try clear hfz32_2
          try clear hfz32_3
          try clear hfz32_4
          try clear hfz32_5
          try clear hfz32_6
          try clear hfz32_7
          try clear hfz8_0
          try clear hfz8_1
          try clear hfz8_2
          try clear hfz8_3
          try clear hfz8_4
          try clear hfz8_5
          try clear hfz8_6
          try clear hfz8_7
          try clear p2
          obtain ⟨kq, x39_30, rfl, HA, HJ30, BK137, HB⟩ := hcut
          cases kq with
          | zero => exact absurd HA.out (by simp [impl_RecPhaseOk.j1])
          | succ kj30 =>
            have H := HA.out
            clear HA
            simp only [impl_RecPhaseOk.j1] at H
            by_cases c34 : x39_30 = true
            · subst c34
              have H1 : ((impl_name.f kj30 a0_3).bind fun t144 => (if t144 = true then ((impl_in.f a0_4 1 1000).bind fun t145 => (if t145 = true then (if a0_1 = 1 then (some true) else (some (a0_2.toList != a0_3.toList))) else (some false))) else (some false))) = some r := by rw [if_pos rfl] at H; exact H
              clear H
              have H := H1
              clear H1
              replace H := Option.bind_eq_some_iff.mp H
              obtain ⟨t144, A350, H⟩ := H
              replace H : (if t144 = true then ((impl_in.f a0_4 1 1000).bind fun t145 => (if t145 = true then (if a0_1 = 1 then (some true) else (some (a0_2.toList != a0_3.toList))) else (some false))) else (some false)) = some r := H
              have A35 := Aside0.mk A350
              clear A350
              by_cases c36 : t144 = true
              · subst c36
                have H1 : ((impl_in.f a0_4 1 1000).bind fun t145 => (if t145 = true then (if a0_1 = 1 then (some true) else (some (a0_2.toList != a0_3.toList))) else (some false))) = some r := by rw [if_pos rfl] at H; exact H
                clear H
                have H := H1
                clear H1
                replace H := Option.bind_eq_some_iff.mp H
                obtain ⟨t145, A370, H⟩ := H
                replace H : (if t145 = true then (if a0_1 = 1 then (some true) else (some (a0_2.toList != a0_3.toList))) else (some false)) = some r := H
                have A37 := Aside0.mk A370
                clear A370
                by_cases c38 : t145 = true
                · subst c38
                  have H1 : (if a0_1 = 1 then (some true) else (some (a0_2.toList != a0_3.toList))) = some r := by rw [if_pos rfl] at H; exact H
                  clear H
                  have H := H1
                  clear H1
                  by_cases c39 : a0_1 = 1
                  · rw [if_pos c39] at H
                    have c39b0 : (a0_1 == 1) = true := beq_iff_eq.mpr c39
                    have c39b1 : (a0_1 != 1) = false := bne_eq_false_iff_eq.mpr c39
                    clear c39
                    obtain rfl := Option.some.inj H
                    have hcz40_0 := b0 BK137
                    have hcz40_1 := b1 BK137
                    have hcz40_2 := b2 BK137
                    have hcz40_3 := b3 BK137
                    have hcz40_4 := b4 BK137
                    have hcz40_5 := b5 BK137
                    have hcz40_6 := b6 BK137
                    have hcz40_7 := b7 BK137
                    have hfz40_0 := fz BK137 0
                    have hfz40_1 := fz BK137 1
                    have hfz40_2 := fz BK137 2
                    have hfz40_3 := fz BK137 3
                    have hfz40_4 := fz BK137 4
                    have hfz40_5 := fz BK137 5
                    have hfz40_6 := fz BK137 6
                    have hfz40_7 := fz BK137 7
                    go_wp2_with (first | ((with_reducible refine gate_callee (f := 78) rfl ?_); refine goesL_ (some 44) rfl rfl Try.func78 (by kernel_rfl) rfl #[.string a0_3] rfl mxp ?_; (with_reducible refine (impl_name.calls kj30 a0_3 true _ A35.out).mono ?_); rintro e w' ⟨rfl, ⟨nd, rfl⟩⟩; refine ⟨_, rfl, ?_⟩) | (go_at_call 68; (with_reducible refine (impl_in.calls a0_4 1 1000 true _ A37.out).mono ?_); rintro e w' ⟨rfl, ⟨nd, rfl⟩⟩))
                    go_ret
                    exact ⟨exq, bw HB.out⟩
                  · rw [if_neg c39] at H
                    have c39b0 : (a0_1 == 1) = false := beq_eq_false_iff_ne.mpr c39
                    have c39b1 : (a0_1 != 1) = true := bne_iff_ne.mpr c39
                    obtain rfl := Option.some.inj H
                    have hcz41_0 := b0 BK137
                    have hcz41_1 := b1 BK137
                    have hcz41_2 := b2 BK137
                    have hcz41_3 := b3 BK137
                    have hcz41_4 := b4 BK137
                    have hcz41_5 := b5 BK137
                    have hcz41_6 := b6 BK137
                    have hcz41_7 := b7 BK137
                    have hfz41_0 := fz BK137 0
                    have hfz41_1 := fz BK137 1
                    have hfz41_2 := fz BK137 2
                    have hfz41_3 := fz BK137 3
                    have hfz41_4 := fz BK137 4
                    have hfz41_5 := fz BK137 5
                    have hfz41_6 := fz BK137 6
                    have hfz41_7 := fz BK137 7
                    go_wp2_with (first | ((with_reducible refine gate_callee (f := 78) rfl ?_); refine goesL_ (some 44) rfl rfl Try.func78 (by kernel_rfl) rfl #[.string a0_3] rfl mxp ?_; (with_reducible refine (impl_name.calls kj30 a0_3 true _ A35.out).mono ?_); rintro e w' ⟨rfl, ⟨nd, rfl⟩⟩; refine ⟨_, rfl, ?_⟩) | (go_at_call 68; (with_reducible refine (impl_in.calls a0_4 1 1000 true _ A37.out).mono ?_); rintro e w' ⟨rfl, ⟨nd, rfl⟩⟩))
                    go_ret
                    exact ⟨exq, bw HB.out⟩
                · replace c38 := Bool.eq_false_iff.mpr c38
                  subst c38
                  have H1 : (some false) = some r := by rw [if_neg (show ¬ (false = true) by decide)] at H; exact H
                  clear H
                  have H := H1
                  clear H1
                  obtain rfl := Option.some.inj H
                  have hcz42_0 := b0 BK137
                  have hcz42_1 := b1 BK137
                  have hcz42_2 := b2 BK137
                  have hcz42_3 := b3 BK137
                  have hcz42_4 := b4 BK137
                  have hcz42_5 := b5 BK137
                  have hcz42_6 := b6 BK137
                  have hcz42_7 := b7 BK137
                  have hfz42_0 := fz BK137 0
                  have hfz42_1 := fz BK137 1
                  have hfz42_2 := fz BK137 2
                  have hfz42_3 := fz BK137 3
                  have hfz42_4 := fz BK137 4
                  have hfz42_5 := fz BK137 5
                  have hfz42_6 := fz BK137 6
                  have hfz42_7 := fz BK137 7
                  go_wp2_with (first | ((with_reducible refine gate_callee (f := 78) rfl ?_); refine goesL_ (some 44) rfl rfl Try.func78 (by kernel_rfl) rfl #[.string a0_3] rfl mxp ?_; (with_reducible refine (impl_name.calls kj30 a0_3 true _ A35.out).mono ?_); rintro e w' ⟨rfl, ⟨nd, rfl⟩⟩; refine ⟨_, rfl, ?_⟩) | (go_at_call 68; (with_reducible refine (impl_in.calls a0_4 1 1000 false _ A37.out).mono ?_); rintro e w' ⟨rfl, ⟨nd, rfl⟩⟩))
                  go_ret
                  exact ⟨exq, bw HB.out⟩
              · replace c36 := Bool.eq_false_iff.mpr c36
                subst c36
                have H1 : (some false) = some r := by rw [if_neg (show ¬ (false = true) by decide)] at H; exact H
                clear H
                have H := H1
                clear H1
                obtain rfl := Option.some.inj H
                have hcz43_0 := b0 BK137
                have hcz43_1 := b1 BK137
                have hcz43_2 := b2 BK137
                have hcz43_3 := b3 BK137
                have hcz43_4 := b4 BK137
                have hcz43_5 := b5 BK137
                have hcz43_6 := b6 BK137
                have hcz43_7 := b7 BK137
                have hfz43_0 := fz BK137 0
                have hfz43_1 := fz BK137 1
                have hfz43_2 := fz BK137 2
                have hfz43_3 := fz BK137 3
                have hfz43_4 := fz BK137 4
                have hfz43_5 := fz BK137 5
                have hfz43_6 := fz BK137 6
                have hfz43_7 := fz BK137 7
                go_wp2_with (first | ((with_reducible refine gate_callee (f := 78) rfl ?_); refine goesL_ (some 44) rfl rfl Try.func78 (by kernel_rfl) rfl #[.string a0_3] rfl mxp ?_; (with_reducible refine (impl_name.calls kj30 a0_3 false _ A35.out).mono ?_); rintro e w' ⟨rfl, ⟨nd, rfl⟩⟩; refine ⟨_, rfl, ?_⟩))
                go_ret
                exact ⟨exq, bw HB.out⟩
            · replace c34 := Bool.eq_false_iff.mpr c34
              subst c34
              have H1 : (if a0_1 = 3 then (if a0_3.toList = ([] : List UInt8) then ((impl_in.f a0_4 1 a0_5).bind fun t146 => (some t146)) else (some false)) else (if a0_1 = 4 then (if a0_3.toList = ([] : List UInt8) then (some (a0_4 == 0)) else (some false)) else (if a0_1 = 5 then (if a0_3.toList = ([] : List UInt8) then (some (a0_4 == 0)) else (some false)) else (some false)))) = some r := by rw [if_neg (show ¬ (false = true) by decide)] at H; exact H
              clear H
              have H := H1
              clear H1
              by_cases c44 : a0_1 = 3
              · rw [if_pos c44] at H
                have c44b0 : (a0_1 == 3) = true := beq_iff_eq.mpr c44
                have c44b1 : (a0_1 != 3) = false := bne_eq_false_iff_eq.mpr c44
                clear c44
                by_cases c45 : a0_3.toList = ([] : List UInt8)
                · rw [if_pos c45] at H
                  have c45b0 : (a0_3.toList == ([] : List UInt8)) = true := beq_iff_eq.mpr c45
                  have c45b1 : (a0_3.toList != ([] : List UInt8)) = false := bne_eq_false_iff_eq.mpr c45
                  clear c45
                  replace H := Option.bind_eq_some_iff.mp H
                  obtain ⟨t146, A460, H⟩ := H
                  replace H : (some t146) = some r := H
                  have A46 := Aside0.mk A460
                  clear A460
                  obtain rfl := Option.some.inj H
                  have hcz47_0 := b0 BK137
                  have hcz47_1 := b1 BK137
                  have hcz47_2 := b2 BK137
                  have hcz47_3 := b3 BK137
                  have hcz47_4 := b4 BK137
                  have hcz47_5 := b5 BK137
                  have hcz47_6 := b6 BK137
                  have hcz47_7 := b7 BK137
                  have hfz47_0 := fz BK137 0
                  have hfz47_1 := fz BK137 1
                  have hfz47_2 := fz BK137 2
                  have hfz47_3 := fz BK137 3
                  have hfz47_4 := fz BK137 4
                  have hfz47_5 := fz BK137 5
                  have hfz47_6 := fz BK137 6
                  have hfz47_7 := fz BK137 7
                  go_wp2_with (first | (go_at_call 68; (with_reducible refine (impl_in.calls a0_4 1 a0_5 t146 _ A46.out).mono ?_); rintro e w' ⟨rfl, ⟨nd, rfl⟩⟩))
                  go_ret
                  exact ⟨exq, bw HB.out⟩
                · rw [if_neg c45] at H
                  have c45b0 : (a0_3.toList == ([] : List UInt8)) = false := beq_eq_false_iff_ne.mpr c45
                  have c45b1 : (a0_3.toList != ([] : List UInt8)) = true := bne_iff_ne.mpr c45
                  obtain rfl := Option.some.inj H
                  have hcz48_0 := b0 BK137
                  have hcz48_1 := b1 BK137
                  have hcz48_2 := b2 BK137
                  have hcz48_3 := b3 BK137
                  have hcz48_4 := b4 BK137
                  have hcz48_5 := b5 BK137
                  have hcz48_6 := b6 BK137
                  have hcz48_7 := b7 BK137
                  have hfz48_0 := fz BK137 0
                  have hfz48_1 := fz BK137 1
                  have hfz48_2 := fz BK137 2
                  have hfz48_3 := fz BK137 3
                  have hfz48_4 := fz BK137 4
                  have hfz48_5 := fz BK137 5
                  have hfz48_6 := fz BK137 6
                  have hfz48_7 := fz BK137 7
                  go_wp2
                  go_ret
                  exact ⟨exq, bw HB.out⟩
              · rw [if_neg c44] at H
                have c44b0 : (a0_1 == 3) = false := beq_eq_false_iff_ne.mpr c44
                have c44b1 : (a0_1 != 3) = true := bne_iff_ne.mpr c44
                by_cases c49 : a0_1 = 4
                · rw [if_pos c49] at H
                  have c49b0 : (a0_1 == 4) = true := beq_iff_eq.mpr c49
                  have c49b1 : (a0_1 != 4) = false := bne_eq_false_iff_eq.mpr c49
                  clear c49
                  by_cases c50 : a0_3.toList = ([] : List UInt8)
                  · rw [if_pos c50] at H
                    have c50b0 : (a0_3.toList == ([] : List UInt8)) = true := beq_iff_eq.mpr c50
                    have c50b1 : (a0_3.toList != ([] : List UInt8)) = false := bne_eq_false_iff_eq.mpr c50
                    clear c50
                    obtain rfl := Option.some.inj H
                    have hcz51_0 := b0 BK137
                    have hcz51_1 := b1 BK137
                    have hcz51_2 := b2 BK137
                    have hcz51_3 := b3 BK137
                    have hcz51_4 := b4 BK137
                    have hcz51_5 := b5 BK137
                    have hcz51_6 := b6 BK137
                    have hcz51_7 := b7 BK137
                    have hfz51_0 := fz BK137 0
                    have hfz51_1 := fz BK137 1
                    have hfz51_2 := fz BK137 2
                    have hfz51_3 := fz BK137 3
                    have hfz51_4 := fz BK137 4
                    have hfz51_5 := fz BK137 5
                    have hfz51_6 := fz BK137 6
                    have hfz51_7 := fz BK137 7
                    go_wp2
                    go_ret
                    exact ⟨exq, bw HB.out⟩
                  · rw [if_neg c50] at H
                    have c50b0 : (a0_3.toList == ([] : List UInt8)) = false := beq_eq_false_iff_ne.mpr c50
                    have c50b1 : (a0_3.toList != ([] : List UInt8)) = true := bne_iff_ne.mpr c50
                    obtain rfl := Option.some.inj H
                    have hcz52_0 := b0 BK137
                    have hcz52_1 := b1 BK137
                    have hcz52_2 := b2 BK137
                    have hcz52_3 := b3 BK137
                    have hcz52_4 := b4 BK137
                    have hcz52_5 := b5 BK137
                    have hcz52_6 := b6 BK137
                    have hcz52_7 := b7 BK137
                    have hfz52_0 := fz BK137 0
                    have hfz52_1 := fz BK137 1
                    have hfz52_2 := fz BK137 2
                    have hfz52_3 := fz BK137 3
                    have hfz52_4 := fz BK137 4
                    have hfz52_5 := fz BK137 5
                    have hfz52_6 := fz BK137 6
                    have hfz52_7 := fz BK137 7
                    go_wp2
                    go_ret
                    exact ⟨exq, bw HB.out⟩
                · rw [if_neg c49] at H
                  have c49b0 : (a0_1 == 4) = false := beq_eq_false_iff_ne.mpr c49
                  have c49b1 : (a0_1 != 4) = true := bne_iff_ne.mpr c49
                  by_cases c53 : a0_1 = 5
                  · rw [if_pos c53] at H
                    have c53b0 : (a0_1 == 5) = true := beq_iff_eq.mpr c53
                    have c53b1 : (a0_1 != 5) = false := bne_eq_false_iff_eq.mpr c53
                    clear c53
                    by_cases c54 : a0_3.toList = ([] : List UInt8)
                    · rw [if_pos c54] at H
                      have c54b0 : (a0_3.toList == ([] : List UInt8)) = true := beq_iff_eq.mpr c54
                      have c54b1 : (a0_3.toList != ([] : List UInt8)) = false := bne_eq_false_iff_eq.mpr c54
                      clear c54
                      obtain rfl := Option.some.inj H
                      have hcz55_0 := b0 BK137
                      have hcz55_1 := b1 BK137
                      have hcz55_2 := b2 BK137
                      have hcz55_3 := b3 BK137
                      have hcz55_4 := b4 BK137
                      have hcz55_5 := b5 BK137
                      have hcz55_6 := b6 BK137
                      have hcz55_7 := b7 BK137
                      have hfz55_0 := fz BK137 0
                      have hfz55_1 := fz BK137 1
                      have hfz55_2 := fz BK137 2
                      have hfz55_3 := fz BK137 3
                      have hfz55_4 := fz BK137 4
                      have hfz55_5 := fz BK137 5
                      have hfz55_6 := fz BK137 6
                      have hfz55_7 := fz BK137 7
                      go_wp2
                      go_ret
                      exact ⟨exq, bw HB.out⟩
                    · rw [if_neg c54] at H
                      have c54b0 : (a0_3.toList == ([] : List UInt8)) = false := beq_eq_false_iff_ne.mpr c54
                      have c54b1 : (a0_3.toList != ([] : List UInt8)) = true := bne_iff_ne.mpr c54
                      obtain rfl := Option.some.inj H
                      have hcz56_0 := b0 BK137
                      have hcz56_1 := b1 BK137
                      have hcz56_2 := b2 BK137
                      have hcz56_3 := b3 BK137
                      have hcz56_4 := b4 BK137
                      have hcz56_5 := b5 BK137
                      have hcz56_6 := b6 BK137
                      have hcz56_7 := b7 BK137
                      have hfz56_0 := fz BK137 0
                      have hfz56_1 := fz BK137 1
                      have hfz56_2 := fz BK137 2
                      have hfz56_3 := fz BK137 3
                      have hfz56_4 := fz BK137 4
                      have hfz56_5 := fz BK137 5
                      have hfz56_6 := fz BK137 6
                      have hfz56_7 := fz BK137 7
                      go_wp2
                      go_ret
                      exact ⟨exq, bw HB.out⟩
                  · rw [if_neg c53] at H
                    have c53b0 : (a0_1 == 5) = false := beq_eq_false_iff_ne.mpr c53
                    have c53b1 : (a0_1 != 5) = true := bne_iff_ne.mpr c53
                    obtain rfl := Option.some.inj H
                    go_wp2
                    go_ret
                    exact ⟨exq, bw HB.out⟩

end Go.Proofs.Ytdkologncoofdaa.P
-- XAt
namespace Go.Proofs.Ytdkologncoofdaa.P
open Go.RowKit Go.Proofs.YtdkologncoofdaaW.PrintWords Go.Proofs.YtdkologncoofdaaW.PrintLast
set_option linter.unusedVariables false
set_option linter.unusedSimpArgs false

/-- The first place of a phase of this name, -1 if there is none. -/
def atOf (l : List S39) (a : ByteArray) : Int := match l.findIdx? (fun p => p.f0.toList == a.toList) with | some i => (i : Int) | none => -1
def impl_at.f (l : List S39) (a : ByteArray) : Option Int := some (atOf l a)

theorem atOf_hit (l : List S39) (a : ByteArray) (k : Nat) (hk : k < l.length) (h : ((l.getD k z39).f0.toList == a.toList) = true) (hb : ∀ j, j < k → ((l.getD j z39).f0.toList == a.toList) = false) : atOf l a = k := by
  have e : l.findIdx? (fun p => p.f0.toList == a.toList) = some k := by
    rw [List.findIdx?_eq_some_iff_getElem]
    refine ⟨hk, by simpa [List.getD_eq_getElem?_getD, List.getElem?_eq_getElem hk] using h, fun j hj => ?_⟩
    have h1 := hb j hj
    have hj2 : j < l.length := by omega
    simpa [List.getD_eq_getElem?_getD, List.getElem?_eq_getElem hj2] using h1
  rw [atOf, e]
theorem atOf_miss (l : List S39) (a : ByteArray) (hb : ∀ j, j < l.length → ((l.getD j z39).f0.toList == a.toList) = false) : atOf l a = -1 := by
  have e : l.findIdx? (fun p => p.f0.toList == a.toList) = none := by
    rw [List.findIdx?_eq_none_iff]
    intro x hx
    obtain ⟨j, hj, rfl⟩ := List.getElem_of_mem hx
    have h1 := hb j hj
    simpa [List.getD_eq_getElem?_getD, List.getElem?_eq_getElem hj] using h1
  rw [atOf, e]

set_option maxHeartbeats 8000000 in
set_option maxRecDepth 100000 in
theorem at1_calls (x : S39) (n : ByteArray) (c : Nat) (w : World) (hn : w.cell? ⟨c, 0, none⟩ = some (.string n)) :
    Calls Try.prog 96 #[.agg #[.string x.f0, .int .i64 x.f1, .string x.f2, .string x.f3, .int .i64 x.f4, .int .i64 x.f5, .string x.f6, .string x.f7], .pointer (some ⟨c, 0, none⟩)] w
      fun e w' => e = .returned (.bool (x.f0.toList == n.toList)) ∧ Below w.heap.size w w' := by
  have hlt := World.block_lt_of_cell? w _ hn
  go_enter Try.func96, Try.ntmps96
  go_wp2
  go_ret
  exact ⟨rfl, (Below.refl _ _).alloc (Nat.le_refl _) _⟩

set_option maxHeartbeats 8000000 in
set_option maxRecDepth 100000 in
theorem indexFunc_calls (A0 : Option Addr) (c0 : Nat) (l0 : List S39) (n : ByteArray) (c : Nat) (w : World) (hr0 : Kd.C k39 w A0 l0.length l0)
    (hn : w.cell? ⟨c, 0, none⟩ = some (.string n)) :
    Calls Try.prog 95 #[.slice A0 l0.length c0, .func (.func 96) #[] #[.pointer (some ⟨c, 0, none⟩)]] w
      fun e w' => e = .returned (.int .i64 (atOf l0 n)) ∧ Below w.heap.size w w' := by
  have hu39 := Try.underlying39
  have hbig : l0.length ≤ 9223372036854775807 := hr0.2.1
  have HR0 := Aside0.mk hr0
  clear hr0
  have HN := Aside0.mk hn
  clear hn
  go_enter Try.func95, Try.ntmps95
  go_wp2
  go_loopg [5, 8] l0.length (fun gg _ s8 wr => ∃ kk : Nat, kk ≤ l0.length ∧ l0.length - kk ≤ gg ∧ s8 = .int .i64 kk ∧ Aside0 (Below w.heap.size w wr) ∧ Aside0 (∀ j, j < kk → ((l0.getD j z39).f0.toList == n.toList) = false))
  case atStart => exact ⟨0, Nat.zero_le _, by omega, rfl, ⟨Below.refl _ w⟩, ⟨fun j hj => absurd hj (Nat.not_lt_zero _)⟩⟩
  case round =>
    obtain ⟨kk, hkk, hg, rfl, HB, A⟩ := hrel
    by_cases hlt : kk < l0.length
    · have hltz : (kk : Int) < (l0.length : Int) := by omega
      have h0z : 0 ≤ (kk : Int) := by omega
      obtain ⟨ad, e, x0, x1, x2, x3, x4, x5, x6, x7⟩ := at_T39 HR0.out (kk : Int) h0z hltz
      cases e
      have E39 : Aside0 (rd_T39 l0 (kk : Int) = l0.getD kk z39) := ⟨by simp [rd_T39]⟩
      have hn' := (HB.out.cell (World.block_lt_of_cell? w _ HN.out)).trans HN.out
      replace x0 := (HB.out.cell (World.block_lt_of_cell? w _ x0)).trans x0
      replace x1 := (HB.out.cell (World.block_lt_of_cell? w _ x1)).trans x1
      replace x2 := (HB.out.cell (World.block_lt_of_cell? w _ x2)).trans x2
      replace x3 := (HB.out.cell (World.block_lt_of_cell? w _ x3)).trans x3
      replace x4 := (HB.out.cell (World.block_lt_of_cell? w _ x4)).trans x4
      replace x5 := (HB.out.cell (World.block_lt_of_cell? w _ x5)).trans x5
      replace x6 := (HB.out.cell (World.block_lt_of_cell? w _ x6)).trans x6
      replace x7 := (HB.out.cell (World.block_lt_of_cell? w _ x7)).trans x7
      rw [Int.toNat_natCast] at x0 x1 x2 x3 x4 x5 x6 x7
      have hcall := at1_calls (rd_T39 l0 (kk : Int)) n c wr hn'
      clear hn'
      cases hq : ((rd_T39 l0 (kk : Int)).f0.toList == n.toList) with
      | true =>
        have HQ := Aside0.mk hq
        rw [hq] at hcall
        clear hq
        go_wp2_with (go_at_call 96; refine hcall.mono ?_; rintro e w' ⟨rfl, hb'⟩)
        go_ret
        exact ⟨by rw [atOf_hit l0 n kk hlt (by rw [← E39.out]; exact HQ.out) A.out]; rfl, below_then HB.out (HB.out.size) hb'⟩
      | false =>
        have HQ := Aside0.mk hq
        rw [hq] at hcall
        clear hq
        go_wp2_with (go_at_call 96; refine hcall.mono ?_; rintro e w' ⟨rfl, hb'⟩)
        go_roundg (l0.length - (kk + 1))
        case measure => omega
        case rel =>
          refine ⟨kk + 1, by omega, by omega, by go_num, ⟨below_then HB.out (HB.out.size) hb'⟩, ⟨fun j hj => ?_⟩⟩
          by_cases e : j = kk
          · subst e
            rw [← E39.out]; exact HQ.out
          · exact A.out j (by omega)
    · have hltz : ¬ (kk : Int) < (l0.length : Int) := by omega
      have hkk2 : kk = l0.length := by omega
      subst hkk2
      go_wp2
      go_ret
      exact ⟨by rw [atOf_miss l0 n A.out]; rfl, HB.out⟩

set_option maxHeartbeats 8000000 in
set_option maxRecDepth 100000 in
theorem impl_at.calls (A0 : Option Addr) (c0 : Nat) (l0 : List (S39)) (a1 : ByteArray) (r : Int) (w : World) (hr0 : Kd.C k39 w A0 l0.length l0) (hc0 : l0.length ≤ c0) (h : impl_at.f l0 a1 = some r) :
    Calls Try.prog 69 #[.slice A0 l0.length c0, .string a1] w fun e w' => e = .returned (.int .i64 r) ∧ Below w.heap.size w w' := by
  obtain rfl := Option.some.inj h
  clear h
  have hb : Below w.heap.size w (w.alloc (.cells #[.string a1] 9)) := (Below.refl _ _).alloc (Nat.le_refl _) _
  have hcall := indexFunc_calls A0 c0 l0 a1 w.heap.size (w.alloc (.cells #[.string a1] 9)) (Kd.C_below hr0 hb) (by simp)
  have HB := Aside0.mk hb
  clear hb hr0
  go_enter Try.func69, Try.ntmps69
  go_wp2_with (go_at_call 95; refine hcall.mono ?_; rintro e w' ⟨rfl, hb'⟩)
  go_ret
  exact ⟨rfl, below_then HB.out HB.out.size hb'⟩

end Go.Proofs.Ytdkologncoofdaa.P
-- Px29
namespace Go.Proofs.Ytdkologncoofdaa.P
open Go.RowKit Go.Proofs.YtdkologncoofdaaW.PrintWords Go.Proofs.YtdkologncoofdaaW.PrintLast Go.Proofs.YtdkologncoofdaaW.PrintMore
attribute [local go_sem] max2_int min2_int max_two min_two max_three min_three max_four min_four   -- for this text's walks alone
set_option linter.unusedVariables false
set_option linter.unusedSimpArgs false

/-! ### impl_RecOk: function 36 -/
mutual
def impl_RecOk.l0 : Nat → List (S39) → List (S39) → Int → Int → Option (Bool)
  | 0, _, _, _, _ => none
  | k + 1, x0, x11, x12, x13 => if x13 < x12 then (if 0 ≤ x13 then (if x13 < (x11.length : Int) then ((impl_RecPhaseOk.f k ((rd_T39 x11 x13).f0) ((rd_T39 x11 x13).f1) ((rd_T39 x11 x13).f2) ((rd_T39 x11 x13).f3) ((rd_T39 x11 x13).f4) ((rd_T39 x11 x13).f5) ((rd_T39 x11 x13).f6) ((rd_T39 x11 x13).f7)).bind fun t317 => (if t317 = true then ((impl_at.f x0 ((rd_T39 x11 x13).f0)).bind fun t318 => (impl_RecOk.j1 k x0 x13 x11 x12 x13 (t318 != x13) ((rd_T39 x11 x13).f0) ((rd_T39 x11 x13).f1) ((rd_T39 x11 x13).f2) ((rd_T39 x11 x13).f3) ((rd_T39 x11 x13).f4) ((rd_T39 x11 x13).f5) ((rd_T39 x11 x13).f6) ((rd_T39 x11 x13).f7))) else (impl_RecOk.j1 k x0 x13 x11 x12 x13 true ((rd_T39 x11 x13).f0) ((rd_T39 x11 x13).f1) ((rd_T39 x11 x13).f2) ((rd_T39 x11 x13).f3) ((rd_T39 x11 x13).f4) ((rd_T39 x11 x13).f5) ((rd_T39 x11 x13).f6) ((rd_T39 x11 x13).f7)))) else (none)) else (none)) else (some true)
def impl_RecOk.j1 : Nat → List (S39) → Int → List (S39) → Int → Int → Bool → ByteArray → Int → ByteArray → ByteArray → Int → Int → ByteArray → ByteArray → Option (Bool)
  | 0, _, _, _, _, _, _, _, _, _, _, _, _, _, _ => none
  | k + 1, x0, x3, x11, x12, x13, x28, x317000, x317001, x317002, x317003, x317004, x317005, x317006, x317007 => if x28 = true then (some false) else ((some (([x317006, x317007] : List ByteArray) : List ByteArray)).bind fun y319 => (impl_RecOk.l1 k x0 x3 x11 x12 x13 y319 (y319.length : Int) 0))
def impl_RecOk.l1 : Nat → List (S39) → Int → List (S39) → Int → Int → List ByteArray → Int → Int → Option (Bool)
  | 0, _, _, _, _, _, _, _, _ => none
  | k + 1, x0, x3, x11, x12, x13, x33, x34, x35 => if x35 < x34 then (if 0 ≤ x35 then (if x35 < (x33.length : Int) then ((impl_RecEnd.f k (rdOf ByteArray.empty x33 x35)).bind fun t323 => (if t323 = 0 then ((impl_at.f x0 (rdOf ByteArray.empty x33 x35)).bind fun t324 => (if t324 ≤ x3 then (some false) else (impl_RecOk.l1 k x0 x3 x11 x12 x13 x33 x34 (wrap64 (x35 + 1))))) else (impl_RecOk.l1 k x0 x3 x11 x12 x13 x33 x34 (wrap64 (x35 + 1))))) else (none)) else (none)) else (impl_RecOk.l0 k x0 x11 x12 (wrap64 (x13 + 1)))
end
def impl_RecOk.f (k : Nat) (l0 : List (S39)) : Option (Bool) := (impl_in.f (l0.length : Int) 1 12).bind fun t314 => (if t314 = true then (impl_RecOk.l0 k l0 l0 (l0.length : Int) 0) else (some false))
theorem impl_RecOk.mono_l : ∀ k, (∀ y0 y1 y2 y3, LeO (impl_RecOk.l0 k y0 y1 y2 y3) (impl_RecOk.l0 (k + 1) y0 y1 y2 y3)) ∧ (∀ y0 y1 y2 y3 y4 y5 y6 y7 y8 y9 y10 y11 y12 y13, LeO (impl_RecOk.j1 k y0 y1 y2 y3 y4 y5 y6 y7 y8 y9 y10 y11 y12 y13) (impl_RecOk.j1 (k + 1) y0 y1 y2 y3 y4 y5 y6 y7 y8 y9 y10 y11 y12 y13)) ∧ (∀ y0 y1 y2 y3 y4 y5 y6 y7, LeO (impl_RecOk.l1 k y0 y1 y2 y3 y4 y5 y6 y7) (impl_RecOk.l1 (k + 1) y0 y1 y2 y3 y4 y5 y6 y7))
  | 0 => ⟨fun _ _ _ _ r h => by simp [impl_RecOk.l0] at h, fun _ _ _ _ _ _ _ _ _ _ _ _ _ _ r h => by simp [impl_RecOk.j1] at h, fun _ _ _ _ _ _ _ _ r h => by simp [impl_RecOk.l1] at h⟩
  | k + 1 => by
    obtain ⟨ih0, ih1, ih2⟩ := impl_RecOk.mono_l k
    refine ⟨?_, ?_, ?_⟩
    · intro y0 y1 y2 y3
      unfold impl_RecOk.l0
      repeat' first
      | (with_reducible exact ih0 _ _ _ _)
      | (with_reducible exact ih1 _ _ _ _ _ _ _ _ _ _ _ _ _ _)
      | (with_reducible exact ih2 _ _ _ _ _ _ _ _)
      | (with_reducible exact impl_RecEnd.mono _ _)
      | (with_reducible exact impl_RecPhaseOk.mono _ _ _ _ _ _ _ _ _)
      | (with_reducible exact LeO.refl _)
      | (with_reducible exact LeO.none _)
      | (with_reducible refine LeO.ite ?_ ?_)
      | (with_reducible refine LeO.bind ?_ (fun _ => ?_))
      | exact ih0 _ _ _ _
      | exact ih1 _ _ _ _ _ _ _ _ _ _ _ _ _ _
      | exact ih2 _ _ _ _ _ _ _ _
      | exact impl_RecEnd.mono _ _
      | exact impl_RecPhaseOk.mono _ _ _ _ _ _ _ _ _
      | exact LeO.none _
      | refine LeO.ite ?_ ?_
      | refine LeO.bind ?_ (fun _ => ?_)
    · intro y0 y1 y2 y3 y4 y5 y6 y7 y8 y9 y10 y11 y12 y13
      unfold impl_RecOk.j1
      repeat' first
      | (with_reducible exact ih0 _ _ _ _)
      | (with_reducible exact ih1 _ _ _ _ _ _ _ _ _ _ _ _ _ _)
      | (with_reducible exact ih2 _ _ _ _ _ _ _ _)
      | (with_reducible exact impl_RecEnd.mono _ _)
      | (with_reducible exact impl_RecPhaseOk.mono _ _ _ _ _ _ _ _ _)
      | (with_reducible exact LeO.refl _)
      | (with_reducible exact LeO.none _)
      | (with_reducible refine LeO.ite ?_ ?_)
      | (with_reducible refine LeO.bind ?_ (fun _ => ?_))
      | exact ih0 _ _ _ _
      | exact ih1 _ _ _ _ _ _ _ _ _ _ _ _ _ _
      | exact ih2 _ _ _ _ _ _ _ _
      | exact impl_RecEnd.mono _ _
      | exact impl_RecPhaseOk.mono _ _ _ _ _ _ _ _ _
      | exact LeO.none _
      | refine LeO.ite ?_ ?_
      | refine LeO.bind ?_ (fun _ => ?_)
    · intro y0 y1 y2 y3 y4 y5 y6 y7
      unfold impl_RecOk.l1
      repeat' first
      | (with_reducible exact ih0 _ _ _ _)
      | (with_reducible exact ih1 _ _ _ _ _ _ _ _ _ _ _ _ _ _)
      | (with_reducible exact ih2 _ _ _ _ _ _ _ _)
      | (with_reducible exact impl_RecEnd.mono _ _)
      | (with_reducible exact impl_RecPhaseOk.mono _ _ _ _ _ _ _ _ _)
      | (with_reducible exact LeO.refl _)
      | (with_reducible exact LeO.none _)
      | (with_reducible refine LeO.ite ?_ ?_)
      | (with_reducible refine LeO.bind ?_ (fun _ => ?_))
      | exact ih0 _ _ _ _
      | exact ih1 _ _ _ _ _ _ _ _ _ _ _ _ _ _
      | exact ih2 _ _ _ _ _ _ _ _
      | exact impl_RecEnd.mono _ _
      | exact impl_RecPhaseOk.mono _ _ _ _ _ _ _ _ _
      | exact LeO.none _
      | refine LeO.ite ?_ ?_
      | refine LeO.bind ?_ (fun _ => ?_)
theorem impl_RecOk.mono : ∀ a0 k, LeO (impl_RecOk.f k a0) (impl_RecOk.f (k + 1) a0) := by
  intro a0 k
  obtain ⟨ih0, ih1, ih2⟩ := impl_RecOk.mono_l k
  unfold impl_RecOk.f
  repeat' first
      | (with_reducible exact ih0 _ _ _ _)
      | (with_reducible exact ih1 _ _ _ _ _ _ _ _ _ _ _ _ _ _)
      | (with_reducible exact ih2 _ _ _ _ _ _ _ _)
      | (with_reducible exact impl_RecEnd.mono _ _)
      | (with_reducible exact impl_RecPhaseOk.mono _ _ _ _ _ _ _ _ _)
      | (with_reducible exact LeO.refl _)
      | (with_reducible exact LeO.none _)
      | (with_reducible refine LeO.ite ?_ ?_)
      | (with_reducible refine LeO.bind ?_ (fun _ => ?_))
      | exact ih0 _ _ _ _
      | exact ih1 _ _ _ _ _ _ _ _ _ _ _ _ _ _
      | exact ih2 _ _ _ _ _ _ _ _
      | exact impl_RecEnd.mono _ _
      | exact impl_RecPhaseOk.mono _ _ _ _ _ _ _ _ _
      | exact LeO.none _
      | refine LeO.ite ?_ ?_
      | refine LeO.bind ?_ (fun _ => ?_)
set_option maxHeartbeats 8000000 in
set_option maxRecDepth 100000 in
theorem impl_RecOk.calls (k : Nat) (A0 : Option Addr) (c0 : Nat) (l0 : List (S39)) (r : Bool) (w : World) (hr0 : Kd.C k39 w A0 l0.length l0) (hc0 : l0.length ≤ c0) (h : impl_RecOk.f k l0 = some r) :
    Calls Try.prog 36 #[.slice A0 l0.length c0] w fun e w' => e = .returned (.bool r) ∧ Below w.heap.size w w' := by
  have hu39 := Try.underlying39
  have HR0 := Aside0.mk hr0
  have HC0 := Aside0.mk hc0
  clear hr0 hc0
  have HB := Aside0.mk (Below.refl w.heap.size w)
  have H : ((impl_in.f (l0.length : Int) 1 12).bind fun t314 => (if t314 = true then (impl_RecOk.l0 k l0 l0 (l0.length : Int) 0) else (some false))) = some r := h
  clear h
  replace H := Option.bind_eq_some_iff.mp H
  obtain ⟨t314, A20, H⟩ := H
  replace H : (if t314 = true then (impl_RecOk.l0 k l0 l0 (l0.length : Int) 0) else (some false)) = some r := H
  have A2 := Aside0.mk A20
  clear A20
  by_cases c3 : t314 = true
  · subst c3
    have H1 : (impl_RecOk.l0 k l0 l0 (l0.length : Int) 0) = some r := by rw [if_pos rfl] at H; exact H
    clear H
    have H := H1
    clear H1
    have H' := Aside0.mk H
    clear H
    go_enter Try.func36, Try.ntmps36
    go_wp2_with (first | ((with_reducible refine gate_callee (f := 68) rfl ?_); refine goesL_ (some 9) rfl rfl Try.func68 (by kernel_rfl) rfl #[.int .i64 (l0.length : Int), .int .i64 1, .int .i64 12] rfl mxp ?_; (with_reducible refine (impl_in.calls (l0.length : Int) 1 12 true _ A2.out).mono ?_); rintro e w' ⟨rfl, ⟨nd, rfl⟩⟩; refine ⟨_, rfl, ?_⟩))
    go_loopg [13] k (fun kq v13 w' => ∃ (x13_1 : Int), v13 = .int .i64 x13_1 ∧ Aside0 (impl_RecOk.l0 kq l0 l0 (l0.length : Int) x13_1 = some r) ∧ Aside0 (kq ≤ k) ∧ Aside0 (Below w.heap.size w w'))
    case atStart => exact ⟨(0), (by first | rfl | (simp; done) | (simp [*]; done)), H', ⟨Nat.le_refl _⟩, (hbw HB)⟩
    case round =>
      clear H'
      try clear p2
      try clear c3
      obtain ⟨x13_1, rfl, HA, HK1, HB⟩ := hrel
      cases gk with
      | zero => exact absurd HA.out (by simp [impl_RecOk.l0])
      | succ k1 =>
        have H := HA.out
        clear HA
        simp only [impl_RecOk.l0] at H
        by_cases c4 : x13_1 < (l0.length : Int)
        · rw [if_pos c4] at H
          have c4b0 : decide (x13_1 < (l0.length : Int)) = true := decide_eq_true c4
          clear c4
          by_cases c5 : 0 ≤ x13_1
          · rw [if_pos c5] at H
            have c5b0 : decide (0 ≤ x13_1) = true := decide_eq_true c5
            clear c5
            by_cases c6 : x13_1 < (l0.length : Int)
            · rw [if_pos c6] at H
              have c6b0 : decide (x13_1 < (l0.length : Int)) = true := decide_eq_true c6
              clear c6
              have HC7 := Aside0.mk H
              clear H
              have p315 : 0 ≤ (x13_1 : Int) := of_decide_eq_true (by first | (with_reducible assumption) | assumption)
              have q315 : x13_1 < (l0.length : Int) := of_decide_eq_true (by first | (with_reducible assumption) | assumption)
              obtain ⟨ad315, e315, hx315_0, hx315_1, hx315_2, hx315_3, hx315_4, hx315_5, hx315_6, hx315_7⟩ := at_T39 HR0.out x13_1 p315 q315
              cases e315
              replace hx315_0 := bcl HB hx315_0
              replace hx315_1 := bcl HB hx315_1
              replace hx315_2 := bcl HB hx315_2
              replace hx315_3 := bcl HB hx315_3
              replace hx315_4 := bcl HB hx315_4
              replace hx315_5 := bcl HB hx315_5
              replace hx315_6 := bcl HB hx315_6
              replace hx315_7 := bcl HB hx315_7
              replace p315 := eq_true p315
              replace q315 := eq_true q315
              go_upto_region 6 with (first | ((with_reducible refine gate_dst (N := 4) rfl ?_); refine box_event ?hg (N := 4) ?hd (cs := #[.string (⟨#[]⟩ : ByteArray), .int .i64 0, .string (⟨#[]⟩ : ByteArray), .string (⟨#[]⟩ : ByteArray), .int .i64 0, .int .i64 0, .string (⟨#[]⟩ : ByteArray), .string (⟨#[]⟩ : ByteArray)]) (t := 39) ?hr ?_; (case hd => rfl); (case hg => rfl); (case hr => first | (go_simp; done) | (go_simp; rfl)); intro gb316 hg w8 hbox hb; have n0_ := bs HB hb; have n1_ := Aside0.mk (hbox); have n2_ := Aside0.mk ((by rw [hg]; exact (below_size (bw HB.out)) : w.heap.size ≤ gb316)); have n3_ := Aside0.mk ((by rw [hg]; exact (below_size (bw HB.out)) : w.heap.size ≤ gb316)); clear HB; have HB := n0_; have BK316 := n1_; have GW316 := n2_; have GE316 := n3_; clear n0_ n1_ n2_ n3_; clear hb hbox hg; have hcz9_0 := b0 BK316; have hcz9_1 := b1 BK316; have hcz9_2 := b2 BK316; have hcz9_3 := b3 BK316; have hcz9_4 := b4 BK316; have hcz9_5 := b5 BK316; have hcz9_6 := b6 BK316; have hcz9_7 := b7 BK316; have hfz9_0 := fz BK316 0; have hfz9_1 := fz BK316 1; have hfz9_2 := fz BK316 2; have hfz9_3 := fz BK316 3; have hfz9_4 := fz BK316 4; have hfz9_5 := fz BK316 5; have hfz9_6 := fz BK316 6; have hfz9_7 := fz BK316 7))
              (try simp only [Act.put, List.setIfInBounds_toArray, List.set_cons_zero, List.set_cons_succ])
              go_cut [28] (fun v28 wc => ∃ (kq : Nat) (x28_6 : Bool), v28 = .bool x28_6 ∧ Aside0 (impl_RecOk.j1 kq l0 x13_1 l0 (l0.length : Int) x13_1 x28_6 ((rd_T39 l0 x13_1).f0) ((rd_T39 l0 x13_1).f1) ((rd_T39 l0 x13_1).f2) ((rd_T39 l0 x13_1).f3) ((rd_T39 l0 x13_1).f4) ((rd_T39 l0 x13_1).f5) ((rd_T39 l0 x13_1).f6) ((rd_T39 l0 x13_1).f7) = some r) ∧ Aside0 (kq ≤ k1) ∧ Aside0 (wc.heap[gb316]? = some (.cells #[.string ((rd_T39 l0 x13_1).f0), .int .i64 ((rd_T39 l0 x13_1).f1), .string ((rd_T39 l0 x13_1).f2), .string ((rd_T39 l0 x13_1).f3), .int .i64 ((rd_T39 l0 x13_1).f4), .int .i64 ((rd_T39 l0 x13_1).f5), .string ((rd_T39 l0 x13_1).f6), .string ((rd_T39 l0 x13_1).f7)] 39 (0, 0))) ∧ Aside0 (Below w.heap.size w wc))
              case first =>
                have H := HC7.out
                clear HC7
                replace H := Option.bind_eq_some_iff.mp H
                obtain ⟨t317, A100, H⟩ := H
                replace H : (if t317 = true then ((impl_at.f l0 ((rd_T39 l0 x13_1).f0)).bind fun t318 => (impl_RecOk.j1 k1 l0 x13_1 l0 (l0.length : Int) x13_1 (t318 != x13_1) ((rd_T39 l0 x13_1).f0) ((rd_T39 l0 x13_1).f1) ((rd_T39 l0 x13_1).f2) ((rd_T39 l0 x13_1).f3) ((rd_T39 l0 x13_1).f4) ((rd_T39 l0 x13_1).f5) ((rd_T39 l0 x13_1).f6) ((rd_T39 l0 x13_1).f7))) else (impl_RecOk.j1 k1 l0 x13_1 l0 (l0.length : Int) x13_1 true ((rd_T39 l0 x13_1).f0) ((rd_T39 l0 x13_1).f1) ((rd_T39 l0 x13_1).f2) ((rd_T39 l0 x13_1).f3) ((rd_T39 l0 x13_1).f4) ((rd_T39 l0 x13_1).f5) ((rd_T39 l0 x13_1).f6) ((rd_T39 l0 x13_1).f7))) = some r := H
                have A10 := Aside0.mk A100
                clear A100
                by_cases c11 : t317 = true
                · subst c11
                  have H1 : ((impl_at.f l0 ((rd_T39 l0 x13_1).f0)).bind fun t318 => (impl_RecOk.j1 k1 l0 x13_1 l0 (l0.length : Int) x13_1 (t318 != x13_1) ((rd_T39 l0 x13_1).f0) ((rd_T39 l0 x13_1).f1) ((rd_T39 l0 x13_1).f2) ((rd_T39 l0 x13_1).f3) ((rd_T39 l0 x13_1).f4) ((rd_T39 l0 x13_1).f5) ((rd_T39 l0 x13_1).f6) ((rd_T39 l0 x13_1).f7))) = some r := by rw [if_pos rfl] at H; exact H
                  clear H
                  have H := H1
                  clear H1
                  replace H := Option.bind_eq_some_iff.mp H
                  obtain ⟨t318, A120, H⟩ := H
                  replace H : (impl_RecOk.j1 k1 l0 x13_1 l0 (l0.length : Int) x13_1 (t318 != x13_1) ((rd_T39 l0 x13_1).f0) ((rd_T39 l0 x13_1).f1) ((rd_T39 l0 x13_1).f2) ((rd_T39 l0 x13_1).f3) ((rd_T39 l0 x13_1).f4) ((rd_T39 l0 x13_1).f5) ((rd_T39 l0 x13_1).f6) ((rd_T39 l0 x13_1).f7)) = some r := H
                  have A12 := Aside0.mk A120
                  clear A120
                  have H' := Aside0.mk H
                  clear H
                  have hcz13_0 := b0 BK316
                  have hcz13_1 := b1 BK316
                  have hcz13_2 := b2 BK316
                  have hcz13_3 := b3 BK316
                  have hcz13_4 := b4 BK316
                  have hcz13_5 := b5 BK316
                  have hcz13_6 := b6 BK316
                  have hcz13_7 := b7 BK316
                  have hfz13_0 := fz BK316 0
                  have hfz13_1 := fz BK316 1
                  have hfz13_2 := fz BK316 2
                  have hfz13_3 := fz BK316 3
                  have hfz13_4 := fz BK316 4
                  have hfz13_5 := fz BK316 5
                  have hfz13_6 := fz BK316 6
                  have hfz13_7 := fz BK316 7
                  go_wp2_with (first | ((with_reducible refine gate_callee (f := 34) rfl ?_); refine goesL_ (some 19) rfl rfl Try.func34 (by kernel_rfl) rfl #[.agg #[.string ((rd_T39 l0 x13_1).f0), .int .i64 ((rd_T39 l0 x13_1).f1), .string ((rd_T39 l0 x13_1).f2), .string ((rd_T39 l0 x13_1).f3), .int .i64 ((rd_T39 l0 x13_1).f4), .int .i64 ((rd_T39 l0 x13_1).f5), .string ((rd_T39 l0 x13_1).f6), .string ((rd_T39 l0 x13_1).f7)]] rfl mxp ?_; (with_reducible refine (impl_RecPhaseOk.calls k1 ((rd_T39 l0 x13_1).f0) ((rd_T39 l0 x13_1).f1) ((rd_T39 l0 x13_1).f2) ((rd_T39 l0 x13_1).f3) ((rd_T39 l0 x13_1).f4) ((rd_T39 l0 x13_1).f5) ((rd_T39 l0 x13_1).f6) ((rd_T39 l0 x13_1).f7) true _ A10.out).mono ?_); rintro e w14 ⟨rfl, hb⟩; refine ⟨_, rfl, ?_⟩; have n0_ := Aside0.mk (blk_below (g := gb316) (o := .cells #[.string ((rd_T39 l0 x13_1).f0), .int .i64 ((rd_T39 l0 x13_1).f1), .string ((rd_T39 l0 x13_1).f2), .string ((rd_T39 l0 x13_1).f3), .int .i64 ((rd_T39 l0 x13_1).f4), .int .i64 ((rd_T39 l0 x13_1).f5), .string ((rd_T39 l0 x13_1).f6), .string ((rd_T39 l0 x13_1).f7)] 39 (0, 0)) (by refine bx ?_; refine blk_put (cs := #[.string ((rd_T39 l0 x13_1).f0), .int .i64 ((rd_T39 l0 x13_1).f1), .string ((rd_T39 l0 x13_1).f2), .string ((rd_T39 l0 x13_1).f3), .int .i64 ((rd_T39 l0 x13_1).f4), .int .i64 ((rd_T39 l0 x13_1).f5), .string ((rd_T39 l0 x13_1).f6), .string (⟨#[]⟩ : ByteArray)]) ?_ 7 _ rfl; refine bx ?_; refine blk_put (cs := #[.string ((rd_T39 l0 x13_1).f0), .int .i64 ((rd_T39 l0 x13_1).f1), .string ((rd_T39 l0 x13_1).f2), .string ((rd_T39 l0 x13_1).f3), .int .i64 ((rd_T39 l0 x13_1).f4), .int .i64 ((rd_T39 l0 x13_1).f5), .string (⟨#[]⟩ : ByteArray), .string (⟨#[]⟩ : ByteArray)]) ?_ 6 _ rfl; refine bx ?_; refine blk_put (cs := #[.string ((rd_T39 l0 x13_1).f0), .int .i64 ((rd_T39 l0 x13_1).f1), .string ((rd_T39 l0 x13_1).f2), .string ((rd_T39 l0 x13_1).f3), .int .i64 ((rd_T39 l0 x13_1).f4), .int .i64 0, .string (⟨#[]⟩ : ByteArray), .string (⟨#[]⟩ : ByteArray)]) ?_ 5 _ rfl; refine bx ?_; refine blk_put (cs := #[.string ((rd_T39 l0 x13_1).f0), .int .i64 ((rd_T39 l0 x13_1).f1), .string ((rd_T39 l0 x13_1).f2), .string ((rd_T39 l0 x13_1).f3), .int .i64 0, .int .i64 0, .string (⟨#[]⟩ : ByteArray), .string (⟨#[]⟩ : ByteArray)]) ?_ 4 _ rfl; refine bx ?_; refine blk_put (cs := #[.string ((rd_T39 l0 x13_1).f0), .int .i64 ((rd_T39 l0 x13_1).f1), .string ((rd_T39 l0 x13_1).f2), .string (⟨#[]⟩ : ByteArray), .int .i64 0, .int .i64 0, .string (⟨#[]⟩ : ByteArray), .string (⟨#[]⟩ : ByteArray)]) ?_ 3 _ rfl; refine bx ?_; refine blk_put (cs := #[.string ((rd_T39 l0 x13_1).f0), .int .i64 ((rd_T39 l0 x13_1).f1), .string (⟨#[]⟩ : ByteArray), .string (⟨#[]⟩ : ByteArray), .int .i64 0, .int .i64 0, .string (⟨#[]⟩ : ByteArray), .string (⟨#[]⟩ : ByteArray)]) ?_ 2 _ rfl; refine bx ?_; refine blk_put (cs := #[.string ((rd_T39 l0 x13_1).f0), .int .i64 0, .string (⟨#[]⟩ : ByteArray), .string (⟨#[]⟩ : ByteArray), .int .i64 0, .int .i64 0, .string (⟨#[]⟩ : ByteArray), .string (⟨#[]⟩ : ByteArray)]) ?_ 1 _ rfl; refine bx ?_; refine blk_put (cs := #[.string (⟨#[]⟩ : ByteArray), .int .i64 0, .string (⟨#[]⟩ : ByteArray), .string (⟨#[]⟩ : ByteArray), .int .i64 0, .int .i64 0, .string (⟨#[]⟩ : ByteArray), .string (⟨#[]⟩ : ByteArray)]) ?_ 0 _ rfl; refine bx ?_; exact BK316.out) hb); have n1_ := bs HB hb; clear BK316; clear HB; have BK316 := n0_; have HB := n1_; clear n0_ n1_; (try clear hb); (try clear hb2); (try clear hk); (try clear hi); have hcz15_0 := b0 BK316; have hcz15_1 := b1 BK316; have hcz15_2 := b2 BK316; have hcz15_3 := b3 BK316; have hcz15_4 := b4 BK316; have hcz15_5 := b5 BK316; have hcz15_6 := b6 BK316; have hcz15_7 := b7 BK316; have hfz15_0 := fz BK316 0; have hfz15_1 := fz BK316 1; have hfz15_2 := fz BK316 2; have hfz15_3 := fz BK316 3; have hfz15_4 := fz BK316 4; have hfz15_5 := fz BK316 5; have hfz15_6 := fz BK316 6; have hfz15_7 := fz BK316 7) | (go_at_call 69; (with_reducible refine (impl_at.calls _ _ l0 ((rd_T39 l0 x13_1).f0) t318 _ ?side1 ?side2 A12.out).mono ?_); (case side1 => exact cx (Kd.C_below HR0.out HB.out)); (case side2 => exact HC0.out); rintro e w16 ⟨rfl, hb⟩; replace BK316 := up BK316 hb; replace HB := bs HB hb; (try clear hb); (try clear hb2); (try clear hk); (try clear hi)))
                  go_meet
                  case rel => exact ⟨_, ((t318 != x13_1)), (by first | rfl | (simp; done) | (simp [*]; done)), H', ⟨by have := HK1.out; first | omega | exact Nat.le_refl _⟩, (bk BK316), (hbw HB)⟩
                · replace c11 := Bool.eq_false_iff.mpr c11
                  subst c11
                  have H1 : (impl_RecOk.j1 k1 l0 x13_1 l0 (l0.length : Int) x13_1 true ((rd_T39 l0 x13_1).f0) ((rd_T39 l0 x13_1).f1) ((rd_T39 l0 x13_1).f2) ((rd_T39 l0 x13_1).f3) ((rd_T39 l0 x13_1).f4) ((rd_T39 l0 x13_1).f5) ((rd_T39 l0 x13_1).f6) ((rd_T39 l0 x13_1).f7)) = some r := by rw [if_neg (show ¬ (false = true) by decide)] at H; exact H
                  clear H
                  have H := H1
                  clear H1
                  have H' := Aside0.mk H
                  clear H
                  have hcz17_0 := b0 BK316
                  have hcz17_1 := b1 BK316
                  have hcz17_2 := b2 BK316
                  have hcz17_3 := b3 BK316
                  have hcz17_4 := b4 BK316
                  have hcz17_5 := b5 BK316
                  have hcz17_6 := b6 BK316
                  have hcz17_7 := b7 BK316
                  have hfz17_0 := fz BK316 0
                  have hfz17_1 := fz BK316 1
                  have hfz17_2 := fz BK316 2
                  have hfz17_3 := fz BK316 3
                  have hfz17_4 := fz BK316 4
                  have hfz17_5 := fz BK316 5
                  have hfz17_6 := fz BK316 6
                  have hfz17_7 := fz BK316 7
                  go_wp2_with (first | ((with_reducible refine gate_callee (f := 34) rfl ?_); refine goesL_ (some 19) rfl rfl Try.func34 (by kernel_rfl) rfl #[.agg #[.string ((rd_T39 l0 x13_1).f0), .int .i64 ((rd_T39 l0 x13_1).f1), .string ((rd_T39 l0 x13_1).f2), .string ((rd_T39 l0 x13_1).f3), .int .i64 ((rd_T39 l0 x13_1).f4), .int .i64 ((rd_T39 l0 x13_1).f5), .string ((rd_T39 l0 x13_1).f6), .string ((rd_T39 l0 x13_1).f7)]] rfl mxp ?_; (with_reducible refine (impl_RecPhaseOk.calls k1 ((rd_T39 l0 x13_1).f0) ((rd_T39 l0 x13_1).f1) ((rd_T39 l0 x13_1).f2) ((rd_T39 l0 x13_1).f3) ((rd_T39 l0 x13_1).f4) ((rd_T39 l0 x13_1).f5) ((rd_T39 l0 x13_1).f6) ((rd_T39 l0 x13_1).f7) false _ A10.out).mono ?_); rintro e w18 ⟨rfl, hb⟩; refine ⟨_, rfl, ?_⟩; have n0_ := Aside0.mk (blk_below (g := gb316) (o := .cells #[.string ((rd_T39 l0 x13_1).f0), .int .i64 ((rd_T39 l0 x13_1).f1), .string ((rd_T39 l0 x13_1).f2), .string ((rd_T39 l0 x13_1).f3), .int .i64 ((rd_T39 l0 x13_1).f4), .int .i64 ((rd_T39 l0 x13_1).f5), .string ((rd_T39 l0 x13_1).f6), .string ((rd_T39 l0 x13_1).f7)] 39 (0, 0)) (by refine bx ?_; refine blk_put (cs := #[.string ((rd_T39 l0 x13_1).f0), .int .i64 ((rd_T39 l0 x13_1).f1), .string ((rd_T39 l0 x13_1).f2), .string ((rd_T39 l0 x13_1).f3), .int .i64 ((rd_T39 l0 x13_1).f4), .int .i64 ((rd_T39 l0 x13_1).f5), .string ((rd_T39 l0 x13_1).f6), .string (⟨#[]⟩ : ByteArray)]) ?_ 7 _ rfl; refine bx ?_; refine blk_put (cs := #[.string ((rd_T39 l0 x13_1).f0), .int .i64 ((rd_T39 l0 x13_1).f1), .string ((rd_T39 l0 x13_1).f2), .string ((rd_T39 l0 x13_1).f3), .int .i64 ((rd_T39 l0 x13_1).f4), .int .i64 ((rd_T39 l0 x13_1).f5), .string (⟨#[]⟩ : ByteArray), .string (⟨#[]⟩ : ByteArray)]) ?_ 6 _ rfl; refine bx ?_; refine blk_put (cs := #[.string ((rd_T39 l0 x13_1).f0), .int .i64 ((rd_T39 l0 x13_1).f1), .string ((rd_T39 l0 x13_1).f2), .string ((rd_T39 l0 x13_1).f3), .int .i64 ((rd_T39 l0 x13_1).f4), .int .i64 0, .string (⟨#[]⟩ : ByteArray), .string (⟨#[]⟩ : ByteArray)]) ?_ 5 _ rfl; refine bx ?_; refine blk_put (cs := #[.string ((rd_T39 l0 x13_1).f0), .int .i64 ((rd_T39 l0 x13_1).f1), .string ((rd_T39 l0 x13_1).f2), .string ((rd_T39 l0 x13_1).f3), .int .i64 0, .int .i64 0, .string (⟨#[]⟩ : ByteArray), .string (⟨#[]⟩ : ByteArray)]) ?_ 4 _ rfl; refine bx ?_; refine blk_put (cs := #[.string ((rd_T39 l0 x13_1).f0), .int .i64 ((rd_T39 l0 x13_1).f1), .string ((rd_T39 l0 x13_1).f2), .string (⟨#[]⟩ : ByteArray), .int .i64 0, .int .i64 0, .string (⟨#[]⟩ : ByteArray), .string (⟨#[]⟩ : ByteArray)]) ?_ 3 _ rfl; refine bx ?_; refine blk_put (cs := #[.string ((rd_T39 l0 x13_1).f0), .int .i64 ((rd_T39 l0 x13_1).f1), .string (⟨#[]⟩ : ByteArray), .string (⟨#[]⟩ : ByteArray), .int .i64 0, .int .i64 0, .string (⟨#[]⟩ : ByteArray), .string (⟨#[]⟩ : ByteArray)]) ?_ 2 _ rfl; refine bx ?_; refine blk_put (cs := #[.string ((rd_T39 l0 x13_1).f0), .int .i64 0, .string (⟨#[]⟩ : ByteArray), .string (⟨#[]⟩ : ByteArray), .int .i64 0, .int .i64 0, .string (⟨#[]⟩ : ByteArray), .string (⟨#[]⟩ : ByteArray)]) ?_ 1 _ rfl; refine bx ?_; refine blk_put (cs := #[.string (⟨#[]⟩ : ByteArray), .int .i64 0, .string (⟨#[]⟩ : ByteArray), .string (⟨#[]⟩ : ByteArray), .int .i64 0, .int .i64 0, .string (⟨#[]⟩ : ByteArray), .string (⟨#[]⟩ : ByteArray)]) ?_ 0 _ rfl; refine bx ?_; exact BK316.out) hb); have n1_ := bs HB hb; clear BK316; clear HB; have BK316 := n0_; have HB := n1_; clear n0_ n1_; (try clear hb); (try clear hb2); (try clear hk); (try clear hi)))
                  go_meet
                  case rel => exact ⟨_, (true), (by first | rfl | (simp; done) | (simp [*]; done)), H', ⟨by have := HK1.out; first | omega | exact Nat.le_refl _⟩, (bk BK316), (hbw HB)⟩
              case rest =>
                clear HC7
                try clear c1
                try clear p2
                try clear c3
                try clear p3
                try clear q3
                try clear hx3
                try clear c4
                try clear c4b0
                try clear c5
                try clear c5b0
                try clear c6
                try clear c6b0
                try clear c11
                try clear hcz13_0
                try clear hcz13_1
                try clear hcz13_2
                try clear hcz13_3
                try clear hcz13_4
                try clear hcz13_5
                try clear hcz13_6
                try clear hcz13_7
                try clear hcz15_0
                try clear hcz15_1
                try clear hcz15_2
                try clear hcz15_3
                try clear hcz15_4
                try clear hcz15_5
                try clear hcz15_6
                try clear hcz15_7
                try clear hcz17_0
                try clear hcz17_1
                try clear hcz17_2
                try clear hcz17_3
                try clear hcz17_4
                try clear hcz17_5
                try clear hcz17_6
                try clear hcz17_7
                try clear hcz9_0
                try clear hcz9_1
                try clear hcz9_2
                try clear hcz9_3
                try clear hcz9_4
                try clear hcz9_5
                try clear hcz9_6
                try clear hcz9_7
                try clear hfz13_0
                try clear hfz13_1
                try clear hfz13_2
                try clear hfz13_3
                try clear hfz13_4
                try clear hfz13_5
                try clear hfz13_6
                try clear hfz13_7
                try clear hfz15_0
                try clear hfz15_1
                try clear hfz15_2
                try clear hfz15_3
                try clear hfz15_4
                try clear hfz15_5
                try clear hfz15_6
                try clear hfz15_7
                try clear hfz17_0
                try clear hfz17_1
                try clear hfz17_2
                try clear hfz17_3
                try clear hfz17_4
                try clear hfz17_5
                try clear hfz17_6
                try clear hfz17_7
                try clear hfz9_0
                try clear hfz9_1
                try clear hfz9_2
                try clear hfz9_3
                try clear hfz9_4
                try clear hfz9_5
                try clear hfz9_6
                try clear hfz9_7
                try clear hx315_0
                try clear hx315_1
                try clear hx315_2
                try clear hx315_3
                try clear hx315_4
                try clear hx315_5
                try clear hx315_6
                try clear hx315_7
                try clear p2
                try clear p315
                try clear q315
                obtain ⟨kq, x28_6, rfl, HA, HJ6, BK316, HB⟩ := hcut
                cases kq with
                | zero => exact absurd HA.out (by simp [impl_RecOk.j1])
                | succ kj6 =>
                  have H := HA.out
                  clear HA
                  simp only [impl_RecOk.j1] at H
                  by_cases c19 : x28_6 = true
                  · subst c19
                    have H1 : (some false) = some r := by rw [if_pos rfl] at H; exact H
                    clear H
                    have H := H1
                    clear H1
                    obtain rfl := Option.some.inj H
                    go_wp2
                    go_ret
                    exact ⟨exq, bw HB.out⟩
                  · replace c19 := Bool.eq_false_iff.mpr c19
                    subst c19
                    have H1 : ((some (([((rd_T39 l0 x13_1).f6), ((rd_T39 l0 x13_1).f7)] : List ByteArray) : List ByteArray)).bind fun y319 => (impl_RecOk.l1 kj6 l0 x13_1 l0 (l0.length : Int) x13_1 y319 (y319.length : Int) 0)) = some r := by rw [if_neg (show ¬ (false = true) by decide)] at H; exact H
                    clear H
                    have H := H1
                    clear H1
                    obtain ⟨y319, hy319⟩ : ∃ y_ : List ByteArray, y_ = (([((rd_T39 l0 x13_1).f6), ((rd_T39 l0 x13_1).f7)] : List ByteArray)) := ⟨_, rfl⟩
                    replace H : (impl_RecOk.l1 kj6 l0 x13_1 l0 (l0.length : Int) x13_1 y319 (y319.length : Int) 0) = some r := by first | (rw [hy319]; with_reducible exact H) | (have H2_ := (Option.bind_some _ _).symm.trans H; rw [hy319]; with_reducible exact H2_) | (have H2_ := (Option.bind_some _ _).symm.trans H; with_reducible exact H2_) | with_reducible exact H | (rw [hy319]; exact H) | exact H
                    have Ny319 := Aside0.mk hy319
                    clear hy319
                    have H' := Aside0.mk H
                    clear H
                    have hcz20_0 := b0 BK316
                    have hcz20_1 := b1 BK316
                    have hcz20_2 := b2 BK316
                    have hcz20_3 := b3 BK316
                    have hcz20_4 := b4 BK316
                    have hcz20_5 := b5 BK316
                    have hcz20_6 := b6 BK316
                    have hcz20_7 := b7 BK316
                    have hfz20_0 := fz BK316 0
                    have hfz20_1 := fz BK316 1
                    have hfz20_2 := fz BK316 2
                    have hfz20_3 := fz BK316 3
                    have hfz20_4 := fz BK316 4
                    have hfz20_5 := fz BK316 5
                    have hfz20_6 := fz BK316 6
                    have hfz20_7 := fz BK316 7
                    go_wp2_with (first | ((with_reducible refine gate_dst (N := 33) rfl ?_); refine Kd.R_lit Kd.string _ 9 ?hg (N := 33) ?hd (xs := ([((rd_T39 l0 x13_1).f6), ((rd_T39 l0 x13_1).f7)] : List ByteArray)) (inner := [.string ((rd_T39 l0 x13_1).f6), .string ((rd_T39 l0 x13_1).f7)]) (ok := fun _ => True) (okp := fun _ => True) ?hr ?hp (fun _ hk => hk) trivial (Below.refl _ _) (Nat.le_refl _) (by simp) ?_; (case hd => rfl); (case hg => rfl); (case hr => first | (go_simp; done) | (go_simp; rfl)); (case hp => exact (Reps.one (show Kd.M Kd.string _ _ _ ((rd_T39 l0 x13_1).f6) [.string ((rd_T39 l0 x13_1).f6)] from rfl) (Reps.one (show Kd.M Kd.string _ _ _ ((rd_T39 l0 x13_1).f7) [.string ((rd_T39 l0 x13_1).f7)] from rfl) (Reps.none _ _)))); intro v320 w21 ho22 hb hg_ hnew_; clear hg_ hnew_; (first | rw [← Ny319.out] at ho22 | (simp only [Int.reduceToNat] at ho22; rw [← Ny319.out] at ho22)); have n0_ := Aside0.mk (Kd.R_lower ho22 (below_size (bw HB.out))); have n1_ := up BK316 hb; have n2_ := bs HB hb; clear BK316; clear HB; have HO321 := n0_; have BK316 := n1_; have HB := n2_; clear n0_ n1_ n2_; clear hb ho22; obtain ⟨Ao23, co23, eo23⟩ := Kd.R_slice HO321.out; subst eo23))
                    go_loopg [35] kj6 (fun kq v35 w' => ∃ (x35_3 : Int), v35 = .int .i64 x35_3 ∧ Aside0 (impl_RecOk.l1 kq l0 x13_1 l0 (l0.length : Int) x13_1 y319 (y319.length : Int) x35_3 = some r) ∧ Aside0 (kq ≤ kj6) ∧ Aside0 (Kd.R Kd.string 9 w' w.heap.size (fun _ => True) (.slice Ao23 y319.length co23) y319) ∧ Aside0 (w'.heap[gb316]? = some (.cells #[.string ((rd_T39 l0 x13_1).f0), .int .i64 ((rd_T39 l0 x13_1).f1), .string ((rd_T39 l0 x13_1).f2), .string ((rd_T39 l0 x13_1).f3), .int .i64 ((rd_T39 l0 x13_1).f4), .int .i64 ((rd_T39 l0 x13_1).f5), .string ((rd_T39 l0 x13_1).f6), .string ((rd_T39 l0 x13_1).f7)] 39 (0, 0))) ∧ Aside0 (Below w.heap.size w w'))
                    case atStart => exact ⟨(0), (by first | rfl | (simp; done) | (simp [*]; done)), H', ⟨Nat.le_refl _⟩, ⟨by refine rx ?_; exact HO321.out⟩, (bk BK316), (hbw HB)⟩
                    case round =>
                      clear H'
                      try clear c1
                      try clear p2
                      try clear c3
                      try clear p3
                      try clear q3
                      try clear hx3
                      try clear c4
                      try clear c4b0
                      try clear c5
                      try clear c5b0
                      try clear c6
                      try clear c6b0
                      try clear c11
                      try clear c19
                      try clear hcz13_0
                      try clear hcz13_1
                      try clear hcz13_2
                      try clear hcz13_3
                      try clear hcz13_4
                      try clear hcz13_5
                      try clear hcz13_6
                      try clear hcz13_7
                      try clear hcz15_0
                      try clear hcz15_1
                      try clear hcz15_2
                      try clear hcz15_3
                      try clear hcz15_4
                      try clear hcz15_5
                      try clear hcz15_6
                      try clear hcz15_7
                      try clear hcz17_0
                      try clear hcz17_1
                      try clear hcz17_2
                      try clear hcz17_3
                      try clear hcz17_4
                      try clear hcz17_5
                      try clear hcz17_6
                      try clear hcz17_7
                      try clear hcz20_0
                      try clear hcz20_1
                      try clear hcz20_2
                      try clear hcz20_3
                      try clear hcz20_4
                      try clear hcz20_5
                      try clear hcz20_6
                      try clear hcz20_7
                      try clear hcz9_0
                      try clear hcz9_1
                      try clear hcz9_2
                      try clear hcz9_3
                      try clear hcz9_4
                      try clear hcz9_5
                      try clear hcz9_6
                      try clear hcz9_7
                      try clear hfz13_0
                      try clear hfz13_1
                      try clear hfz13_2
                      try clear hfz13_3
                      try clear hfz13_4
                      try clear hfz13_5
                      try clear hfz13_6
                      try clear hfz13_7
                      try clear hfz15_0
                      try clear hfz15_1
                      try clear hfz15_2
                      try clear hfz15_3
                      try clear hfz15_4
                      try clear hfz15_5
                      try clear hfz15_6
                      try clear hfz15_7
                      try clear hfz17_0
                      try clear hfz17_1
                      try clear hfz17_2
                      try clear hfz17_3
                      try clear hfz17_4
                      try clear hfz17_5
                      try clear hfz17_6
                      try clear hfz17_7
                      try clear hfz20_0
                      try clear hfz20_1
                      try clear hfz20_2
                      try clear hfz20_3
                      try clear hfz20_4
                      try clear hfz20_5
                      try clear hfz20_6
                      try clear hfz20_7
                      try clear hfz9_0
                      try clear hfz9_1
                      try clear hfz9_2
                      try clear hfz9_3
                      try clear hfz9_4
                      try clear hfz9_5
                      try clear hfz9_6
                      try clear hfz9_7
                      try clear hx315_0
                      try clear hx315_1
                      try clear hx315_2
                      try clear hx315_3
                      try clear hx315_4
                      try clear hx315_5
                      try clear hx315_6
                      try clear hx315_7
                      try clear p2
                      try clear p3
                      try clear p315
                      try clear q3
                      try clear q315
                      obtain ⟨x35_3, rfl, HA, HK3, HO_33, BK316, HB⟩ := hrel
                      cases gk with
                      | zero => exact absurd HA.out (by simp [impl_RecOk.l1])
                      | succ k3 =>
                        have H := HA.out
                        clear HA
                        simp only [impl_RecOk.l1] at H
                        by_cases c24 : x35_3 < (y319.length : Int)
                        · rw [if_pos c24] at H
                          have c24b0 : decide (x35_3 < (y319.length : Int)) = true := decide_eq_true c24
                          clear c24
                          by_cases c25 : 0 ≤ x35_3
                          · rw [if_pos c25] at H
                            have c25b0 : decide (0 ≤ x35_3) = true := decide_eq_true c25
                            clear c25
                            by_cases c26 : x35_3 < (y319.length : Int)
                            · rw [if_pos c26] at H
                              have c26b0 : decide (x35_3 < (y319.length : Int)) = true := decide_eq_true c26
                              clear c26
                              replace H := Option.bind_eq_some_iff.mp H
                              obtain ⟨t323, A270, H⟩ := H
                              replace H : (if t323 = 0 then ((impl_at.f l0 (rdOf ByteArray.empty y319 x35_3)).bind fun t324 => (if t324 ≤ x13_1 then (some false) else (impl_RecOk.l1 k3 l0 x13_1 l0 (l0.length : Int) x13_1 y319 (y319.length : Int) (wrap64 (x35_3 + 1))))) else (impl_RecOk.l1 k3 l0 x13_1 l0 (l0.length : Int) x13_1 y319 (y319.length : Int) (wrap64 (x35_3 + 1)))) = some r := H
                              have A27 := Aside0.mk A270
                              clear A270
                              by_cases c28 : t323 = 0
                              · rw [if_pos c28] at H
                                have c28b0 : (t323 == 0) = true := beq_iff_eq.mpr c28
                                have c28b1 : (t323 != 0) = false := bne_eq_false_iff_eq.mpr c28
                                clear c28
                                replace H := Option.bind_eq_some_iff.mp H
                                obtain ⟨t324, A290, H⟩ := H
                                replace H : (if t324 ≤ x13_1 then (some false) else (impl_RecOk.l1 k3 l0 x13_1 l0 (l0.length : Int) x13_1 y319 (y319.length : Int) (wrap64 (x35_3 + 1)))) = some r := H
                                have A29 := Aside0.mk A290
                                clear A290
                                by_cases c30 : t324 ≤ x13_1
                                · rw [if_pos c30] at H
                                  have c30b0 : decide (t324 ≤ x13_1) = true := decide_eq_true c30
                                  clear c30
                                  obtain rfl := Option.some.inj H
                                  have p322 : 0 ≤ (x35_3 : Int) := of_decide_eq_true (by first | (with_reducible assumption) | assumption)
                                  have q322 : x35_3 < (y319.length : Int) := of_decide_eq_true (by first | (with_reducible assumption) | assumption)
                                  obtain ⟨ad322, e322, hx322_0⟩ := Kd.at_string (Kd.R_reads' HO_33.out).2.2 x35_3 p322 q322
                                  cases e322
                                  replace p322 := eq_true p322
                                  replace q322 := eq_true q322
                                  go_wp2_with (first | ((with_reducible refine gate_callee (f := 19) rfl ?_); refine goesL_ (some 40) rfl rfl Try.func19 (by kernel_rfl) rfl #[.string (rdOf ByteArray.empty y319 x35_3)] rfl mxp ?_; (with_reducible refine (impl_RecEnd.calls k3 (rdOf ByteArray.empty y319 x35_3) t323 _ A27.out).mono ?_); rintro e w31 ⟨rfl, hb⟩; refine ⟨_, rfl, ?_⟩; have n0_ := Aside0.mk (Kd.R_below (rx HO_33.out) hb); have n1_ := up BK316 hb; have n2_ := bs HB hb; clear HO_33; clear BK316; clear HB; have HO_33 := n0_; have BK316 := n1_; have HB := n2_; clear n0_ n1_ n2_; (try clear hb); (try clear hb2); (try clear hk); (try clear hi)) | (go_at_call 69; (with_reducible refine (impl_at.calls _ _ l0 (rdOf ByteArray.empty y319 x35_3) t324 _ ?side1 ?side2 A29.out).mono ?_); (case side1 => exact cx (Kd.C_below HR0.out HB.out)); (case side2 => exact HC0.out); rintro e w32 ⟨rfl, hb⟩; have n0_ := Aside0.mk (Kd.R_below (rx HO_33.out) hb); have n1_ := up BK316 hb; have n2_ := bs HB hb; clear HO_33; clear BK316; clear HB; have HO_33 := n0_; have BK316 := n1_; have HB := n2_; clear n0_ n1_ n2_; (try clear hb); (try clear hb2); (try clear hk); (try clear hi)))
                                  go_ret
                                  exact ⟨exq, bw HB.out⟩
                                · rw [if_neg c30] at H
                                  have c30b0 : decide (t324 ≤ x13_1) = false := decide_eq_false c30
                                  clear c30
                                  have H' := Aside0.mk H
                                  clear H
                                  have p322 : 0 ≤ (x35_3 : Int) := of_decide_eq_true (by first | (with_reducible assumption) | assumption)
                                  have q322 : x35_3 < (y319.length : Int) := of_decide_eq_true (by first | (with_reducible assumption) | assumption)
                                  obtain ⟨ad322, e322, hx322_0⟩ := Kd.at_string (Kd.R_reads' HO_33.out).2.2 x35_3 p322 q322
                                  cases e322
                                  replace p322 := eq_true p322
                                  replace q322 := eq_true q322
                                  go_wp2_with (first | ((with_reducible refine gate_callee (f := 19) rfl ?_); refine goesL_ (some 40) rfl rfl Try.func19 (by kernel_rfl) rfl #[.string (rdOf ByteArray.empty y319 x35_3)] rfl mxp ?_; (with_reducible refine (impl_RecEnd.calls k3 (rdOf ByteArray.empty y319 x35_3) t323 _ A27.out).mono ?_); rintro e w33 ⟨rfl, hb⟩; refine ⟨_, rfl, ?_⟩; have n0_ := Aside0.mk (Kd.R_below (rx HO_33.out) hb); have n1_ := up BK316 hb; have n2_ := bs HB hb; clear HO_33; clear BK316; clear HB; have HO_33 := n0_; have BK316 := n1_; have HB := n2_; clear n0_ n1_ n2_; (try clear hb); (try clear hb2); (try clear hk); (try clear hi)) | (go_at_call 69; (with_reducible refine (impl_at.calls _ _ l0 (rdOf ByteArray.empty y319 x35_3) t324 _ ?side1 ?side2 A29.out).mono ?_); (case side1 => exact cx (Kd.C_below HR0.out HB.out)); (case side2 => exact HC0.out); rintro e w34 ⟨rfl, hb⟩; have n0_ := Aside0.mk (Kd.R_below (rx HO_33.out) hb); have n1_ := up BK316 hb; have n2_ := bs HB hb; clear HO_33; clear BK316; clear HB; have HO_33 := n0_; have BK316 := n1_; have HB := n2_; clear n0_ n1_ n2_; (try clear hb); (try clear hb2); (try clear hk); (try clear hi)))
                                  go_roundg k3
                                  case measure => have := HK1.out; have := HJ6.out; have := HK3.out; omega
                                  case rel => exact ⟨(wrap64 (x35_3 + 1)), (by first | rfl | (simp; done) | (simp [*]; done)), H', ⟨by have := HK1.out; have := HJ6.out; have := HK3.out; omega⟩, ⟨by refine rx ?_; exact HO_33.out⟩, (bk BK316), (hbw HB)⟩
                              · rw [if_neg c28] at H
                                have c28b0 : (t323 == 0) = false := beq_eq_false_iff_ne.mpr c28
                                have c28b1 : (t323 != 0) = true := bne_iff_ne.mpr c28
                                have H' := Aside0.mk H
                                clear H
                                have p322 : 0 ≤ (x35_3 : Int) := of_decide_eq_true (by first | (with_reducible assumption) | assumption)
                                have q322 : x35_3 < (y319.length : Int) := of_decide_eq_true (by first | (with_reducible assumption) | assumption)
                                obtain ⟨ad322, e322, hx322_0⟩ := Kd.at_string (Kd.R_reads' HO_33.out).2.2 x35_3 p322 q322
                                cases e322
                                replace p322 := eq_true p322
                                replace q322 := eq_true q322
                                go_wp2_with (first | ((with_reducible refine gate_callee (f := 19) rfl ?_); refine goesL_ (some 40) rfl rfl Try.func19 (by kernel_rfl) rfl #[.string (rdOf ByteArray.empty y319 x35_3)] rfl mxp ?_; (with_reducible refine (impl_RecEnd.calls k3 (rdOf ByteArray.empty y319 x35_3) t323 _ A27.out).mono ?_); rintro e w35 ⟨rfl, hb⟩; refine ⟨_, rfl, ?_⟩; have n0_ := Aside0.mk (Kd.R_below (rx HO_33.out) hb); have n1_ := up BK316 hb; have n2_ := bs HB hb; clear HO_33; clear BK316; clear HB; have HO_33 := n0_; have BK316 := n1_; have HB := n2_; clear n0_ n1_ n2_; (try clear hb); (try clear hb2); (try clear hk); (try clear hi)))
                                go_roundg k3
                                case measure => have := HK1.out; have := HJ6.out; have := HK3.out; omega
                                case rel => exact ⟨(wrap64 (x35_3 + 1)), (by first | rfl | (simp; done) | (simp [*]; done)), H', ⟨by have := HK1.out; have := HJ6.out; have := HK3.out; omega⟩, ⟨by refine rx ?_; exact HO_33.out⟩, (bk BK316), (hbw HB)⟩
                            · rw [if_neg c26] at H
                              exact absurd H (by simp)
                          · rw [if_neg c25] at H
                            exact absurd H (by simp)
                        · rw [if_neg c24] at H
                          have c24b0 : decide (x35_3 < (y319.length : Int)) = false := decide_eq_false c24
                          clear c24
                          have H' := Aside0.mk H
                          clear H
                          go_wp2
                          go_roundg k3
                          case measure => have := HK1.out; have := HJ6.out; have := HK3.out; omega
                          case rel => exact ⟨(wrap64 (x13_1 + 1)), (by first | rfl | (simp; done) | (simp [*]; done)), H', ⟨by have := HK1.out; have := HJ6.out; have := HK3.out; omega⟩, (hbw HB)⟩
            · rw [if_neg c6] at H
              exact absurd H (by simp)
          · rw [if_neg c5] at H
            exact absurd H (by simp)
        · rw [if_neg c4] at H
          have c4b0 : decide (x13_1 < (l0.length : Int)) = false := decide_eq_false c4
          clear c4
          obtain rfl := Option.some.inj H
          go_wp2
          go_ret
          exact ⟨exq, bw HB.out⟩
  · replace c3 := Bool.eq_false_iff.mpr c3
    subst c3
    have H1 : (some false) = some r := by rw [if_neg (show ¬ (false = true) by decide)] at H; exact H
    clear H
    have H := H1
    clear H1
    obtain rfl := Option.some.inj H
    go_enter Try.func36, Try.ntmps36
    go_wp2_with (first | ((with_reducible refine gate_callee (f := 68) rfl ?_); refine goesL_ (some 9) rfl rfl Try.func68 (by kernel_rfl) rfl #[.int .i64 (l0.length : Int), .int .i64 1, .int .i64 12] rfl mxp ?_; (with_reducible refine (impl_in.calls (l0.length : Int) 1 12 false _ A2.out).mono ?_); rintro e w' ⟨rfl, ⟨nd, rfl⟩⟩; refine ⟨_, rfl, ?_⟩))
    go_ret
    exact ⟨exq, bw HB.out⟩

end Go.Proofs.Ytdkologncoofdaa.P
