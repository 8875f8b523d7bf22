/- Part 2 of the texts that the law FnTop reaches: contracts of the functions and plain lemmas. -/
import Derived.Test.YtdkologncoofdaaCFnTop1
import Derived.Test.YtdkologncoofdaaProg
import Derived.Below
import Derived.Deep.Draws
import Derived.Deep.AppendLies
import Derived.Maps.AppendAt
import Derived.OwnWalk
import Derived.Laws.BytesArg
import Derived.Laws.MakeOwn
import Derived.Laws.OwnMore
import Derived.Deep.OwnRows
import Derived.Tactics
import Derived.Lib.ConvBytes
import Derived.Laws.Slices
import Derived.WalkKit
import Derived.KernelRfl
import Derived.RowKit3
import Derived.Deep.LoopGhost
import Derived.Deep.QuietTactic
import Derived.BigQuiet
import Derived.WideLaws
import Derived.Deep.DeepCutAuto
import Derived.Deep.CutBlock
import Derived.Deep.RegionHeld3
import Derived.Laws.Rows
import Derived.Lib.AppendStr
import Derived.ArgAppend
import Derived.Laws.IdiomCopy
import Derived.OrdersHeld
import Derived.Laws.BitsLemmas
import Derived.RowKit
-- Px0
namespace Go.Proofs.Ytdkologncoofdaa.P
open Go.RowKit Go.Proofs.YtdkologncoofdaaW.PrintWords Go.Proofs.YtdkologncoofdaaW.PrintLast Go.Proofs.YtdkologncoofdaaW.PrintMore
attribute [local go_sem] max2_int min2_int max_two min_two max_three min_three max_four min_four   -- for this text's walks alone
set_option linter.unusedVariables false
set_option linter.unusedSimpArgs false



def errW : Option Int → Value
  | none => .nilIface
  | some c => .iface 0 (.int .i64 c)
theorem errW_none : errW none = .nilIface := rfl
theorem errW_some (c : Int) : errW (some c) = .iface 0 (.int .i64 c) := rfl

theorem info3 : (Try.prog.info? 3).map (fun i => (i.zero, i.size, i.bytes)) = some (some (.int .i64 0), 1, 8) := by kernel_rfl
theorem info5 : (Try.prog.info? 5).map (fun i => (i.zero, i.size, i.bytes)) = some (some (.int .u8 0), 1, 1) := by kernel_rfl
theorem info9 : (Try.prog.info? 9).map (fun i => (i.zero, i.size, i.bytes)) = some (some (.string ⟨#[]⟩), 1, 16) := by kernel_rfl
theorem info39 : (Try.prog.info? 39).map (fun i => (i.zero, i.size, i.bytes)) = some (some (.agg #[(.string ⟨#[]⟩), (.int .i64 0), (.string ⟨#[]⟩), (.string ⟨#[]⟩), (.int .i64 0), (.int .i64 0), (.string ⟨#[]⟩), (.string ⟨#[]⟩)]), 8, 104) := by kernel_rfl
theorem info43 : (Try.prog.info? 43).map (fun i => (i.zero, i.size, i.bytes)) = some (some (.agg #[(.int .i64 0), (.bool false)]), 2, 16) := by kernel_rfl
-- the values' own types
/-! #### struct type 39 -/
structure S39 where
  f0 : ByteArray
  f1 : Int
  f2 : ByteArray
  f3 : ByteArray
  f4 : Int
  f5 : Int
  f6 : ByteArray
  f7 : ByteArray
def z39 : S39 := ⟨(⟨#[]⟩ : ByteArray), (0 : Int), (⟨#[]⟩ : ByteArray), (⟨#[]⟩ : ByteArray), (0 : Int), (0 : Int), (⟨#[]⟩ : ByteArray), (⟨#[]⟩ : ByteArray)⟩
def k39 : Kd S39 := Kd.iso (Kd.pair Kd.string (Kd.pair (Kd.int .i64) (Kd.pair Kd.string (Kd.pair Kd.string (Kd.pair (Kd.int .i64) (Kd.pair (Kd.int .i64) (Kd.pair Kd.string Kd.string))))))) (fun x : S39 => (x.f0, x.f1, x.f2, x.f3, x.f4, x.f5, x.f6, x.f7))
theorem k39_open {w : World} {x : S39} {cs : List Value} (h : k39.K w x cs) : cs = [.string x.f0, .int .i64 x.f1, .string x.f2, .string x.f3, .int .i64 x.f4, .int .i64 x.f5, .string x.f6, .string x.f7] := by
  obtain ⟨_, _, rfl, rfl, ⟨_, _, rfl, rfl, ⟨_, _, rfl, rfl, ⟨_, _, rfl, rfl, ⟨_, _, rfl, rfl, ⟨_, _, rfl, rfl, ⟨_, _, rfl, rfl, rfl⟩⟩⟩⟩⟩⟩⟩ := h
  exact rfl
theorem k39_openM {w : World} {base : Nat} {ok : Nat → Prop} {x : S39} {cs : List Value} (h : k39.M w base ok x cs) : cs = [.string x.f0, .int .i64 x.f1, .string x.f2, .string x.f3, .int .i64 x.f4, .int .i64 x.f5, .string x.f6, .string x.f7] := by
  obtain ⟨_, _, rfl, rfl, ⟨_, _, rfl, rfl, ⟨_, _, rfl, rfl, ⟨_, _, rfl, rfl, ⟨_, _, rfl, rfl, ⟨_, _, rfl, rfl, ⟨_, _, rfl, rfl, rfl⟩⟩⟩⟩⟩⟩⟩ := h
  exact rfl
theorem k39_mk (w : World) (x : S39)  : k39.K w x [.string x.f0, .int .i64 x.f1, .string x.f2, .string x.f3, .int .i64 x.f4, .int .i64 x.f5, .string x.f6, .string x.f7] := ⟨[.string x.f0], [.int .i64 x.f1, .string x.f2, .string x.f3, .int .i64 x.f4, .int .i64 x.f5, .string x.f6, .string x.f7], rfl, rfl, ⟨[.int .i64 x.f1], [.string x.f2, .string x.f3, .int .i64 x.f4, .int .i64 x.f5, .string x.f6, .string x.f7], rfl, rfl, ⟨[.string x.f2], [.string x.f3, .int .i64 x.f4, .int .i64 x.f5, .string x.f6, .string x.f7], rfl, rfl, ⟨[.string x.f3], [.int .i64 x.f4, .int .i64 x.f5, .string x.f6, .string x.f7], rfl, rfl, ⟨[.int .i64 x.f4], [.int .i64 x.f5, .string x.f6, .string x.f7], rfl, rfl, ⟨[.int .i64 x.f5], [.string x.f6, .string x.f7], rfl, rfl, ⟨[.string x.f6], [.string x.f7], rfl, rfl, rfl⟩⟩⟩⟩⟩⟩⟩
theorem k39_mkM (w : World) (base : Nat) (ok : Nat → Prop) (x : S39)  : k39.M w base ok x [.string x.f0, .int .i64 x.f1, .string x.f2, .string x.f3, .int .i64 x.f4, .int .i64 x.f5, .string x.f6, .string x.f7] := ⟨[.string x.f0], [.int .i64 x.f1, .string x.f2, .string x.f3, .int .i64 x.f4, .int .i64 x.f5, .string x.f6, .string x.f7], rfl, rfl, ⟨[.int .i64 x.f1], [.string x.f2, .string x.f3, .int .i64 x.f4, .int .i64 x.f5, .string x.f6, .string x.f7], rfl, rfl, ⟨[.string x.f2], [.string x.f3, .int .i64 x.f4, .int .i64 x.f5, .string x.f6, .string x.f7], rfl, rfl, ⟨[.string x.f3], [.int .i64 x.f4, .int .i64 x.f5, .string x.f6, .string x.f7], rfl, rfl, ⟨[.int .i64 x.f4], [.int .i64 x.f5, .string x.f6, .string x.f7], rfl, rfl, ⟨[.int .i64 x.f5], [.string x.f6, .string x.f7], rfl, rfl, ⟨[.string x.f6], [.string x.f7], rfl, rfl, rfl⟩⟩⟩⟩⟩⟩⟩
def rd_T39 (xs : List S39) (i : Int) : S39 := xs.getD i.toNat z39
theorem at_T39 {w : World} {A : Option Addr} {n : Nat} {xs : List S39} (h : Kd.C k39 w A n xs) (i : Int) (h0 : 0 ≤ i) (h1 : i < n) : ∃ ad , A = some ad ∧ w.cell? (ad.add (i.toNat * 8)) = some (.string (rd_T39 xs i).f0) ∧ w.cell? ⟨(ad.add (i.toNat * 8)).block, (ad.add (i.toNat * 8)).off + 1, none⟩ = some (.int .i64 (rd_T39 xs i).f1) ∧ w.cell? ⟨(ad.add (i.toNat * 8)).block, (ad.add (i.toNat * 8)).off + 2, none⟩ = some (.string (rd_T39 xs i).f2) ∧ w.cell? ⟨(ad.add (i.toNat * 8)).block, (ad.add (i.toNat * 8)).off + 3, none⟩ = some (.string (rd_T39 xs i).f3) ∧ w.cell? ⟨(ad.add (i.toNat * 8)).block, (ad.add (i.toNat * 8)).off + 4, none⟩ = some (.int .i64 (rd_T39 xs i).f4) ∧ w.cell? ⟨(ad.add (i.toNat * 8)).block, (ad.add (i.toNat * 8)).off + 5, none⟩ = some (.int .i64 (rd_T39 xs i).f5) ∧ w.cell? ⟨(ad.add (i.toNat * 8)).block, (ad.add (i.toNat * 8)).off + 6, none⟩ = some (.string (rd_T39 xs i).f6) ∧ w.cell? ⟨(ad.add (i.toNat * 8)).block, (ad.add (i.toNat * 8)).off + 7, none⟩ = some (.string (rd_T39 xs i).f7) := by
  obtain ⟨ad, c, e, _, hK, hc0⟩ := Kd.C_get h z39 i h0 h1
  have hc : ∀ j u, c[j]? = some u → w.cell? (ad.add (i.toNat * 8 + j)) = some u := hc0
  obtain rfl := k39_open hK
  exact ⟨ad, e, hc 0 _ rfl, by rw [← add_field _ _ 1 (by omega)]; exact hc 1 _ rfl, by rw [← add_field _ _ 2 (by omega)]; exact hc 2 _ rfl, by rw [← add_field _ _ 3 (by omega)]; exact hc 3 _ rfl, by rw [← add_field _ _ 4 (by omega)]; exact hc 4 _ rfl, by rw [← add_field _ _ 5 (by omega)]; exact hc 5 _ rfl, by rw [← add_field _ _ 6 (by omega)]; exact hc 6 _ rfl, by rw [← add_field _ _ 7 (by omega)]; exact hc 7 _ rfl⟩

def rd_L4 (xs : List (List S39)) (i : Int) : (List S39) := xs.getD i.toNat ([] : List S39)
theorem at_L4 {w : World} {A : Option Addr} {n : Nat} {xs : List (List S39)} (h : Kd.C (Kd.slice 39 k39) w A n xs) (i : Int) (h0 : 0 ≤ i) (h1 : i < n) : ∃ ad A0 c0, A = some ad ∧ w.cell? (ad.add i.toNat) = some (.slice A0 (rd_L4 xs i).length c0) ∧ (rd_L4 xs i).length ≤ c0 ∧ k39.C w A0 (rd_L4 xs i).length (rd_L4 xs i) := by
  obtain ⟨ad, c, e, _, hK, hc0⟩ := Kd.C_get h ([] : List S39) i h0 h1
  have hc : ∀ j u, c[j]? = some u → w.cell? (ad.add (i.toNat * 1 + j)) = some u := hc0
  obtain ⟨A0, c0, rfl, l0, g0⟩ := hK
  exact ⟨ad, A0, c0, e, by have hq := hc 0 _ rfl; rwa [Nat.mul_one, Nat.add_zero] at hq, l0, g0⟩

/-! #### struct type 48 -/
structure S48 where
  f0 : ByteArray
  f1 : Int
  f2 : ByteArray
  f3 : ByteArray
  f4 : Int
  f5 : Int
  f6 : ByteArray
  f7 : ByteArray
def z48 : S48 := ⟨(⟨#[]⟩ : ByteArray), (0 : Int), (⟨#[]⟩ : ByteArray), (⟨#[]⟩ : ByteArray), (0 : Int), (0 : Int), (⟨#[]⟩ : ByteArray), (⟨#[]⟩ : ByteArray)⟩
def k48 : Kd S48 := Kd.iso (Kd.pair Kd.string (Kd.pair (Kd.int .i64) (Kd.pair Kd.string (Kd.pair Kd.string (Kd.pair (Kd.int .i64) (Kd.pair (Kd.int .i64) (Kd.pair Kd.string Kd.string))))))) (fun x : S48 => (x.f0, x.f1, x.f2, x.f3, x.f4, x.f5, x.f6, x.f7))
theorem k48_open {w : World} {x : S48} {cs : List Value} (h : k48.K w x cs) : cs = [.string x.f0, .int .i64 x.f1, .string x.f2, .string x.f3, .int .i64 x.f4, .int .i64 x.f5, .string x.f6, .string x.f7] := by
  obtain ⟨_, _, rfl, rfl, ⟨_, _, rfl, rfl, ⟨_, _, rfl, rfl, ⟨_, _, rfl, rfl, ⟨_, _, rfl, rfl, ⟨_, _, rfl, rfl, ⟨_, _, rfl, rfl, rfl⟩⟩⟩⟩⟩⟩⟩ := h
  exact rfl
theorem k48_openM {w : World} {base : Nat} {ok : Nat → Prop} {x : S48} {cs : List Value} (h : k48.M w base ok x cs) : cs = [.string x.f0, .int .i64 x.f1, .string x.f2, .string x.f3, .int .i64 x.f4, .int .i64 x.f5, .string x.f6, .string x.f7] := by
  obtain ⟨_, _, rfl, rfl, ⟨_, _, rfl, rfl, ⟨_, _, rfl, rfl, ⟨_, _, rfl, rfl, ⟨_, _, rfl, rfl, ⟨_, _, rfl, rfl, ⟨_, _, rfl, rfl, rfl⟩⟩⟩⟩⟩⟩⟩ := h
  exact rfl
theorem k48_mk (w : World) (x : S48)  : k48.K w x [.string x.f0, .int .i64 x.f1, .string x.f2, .string x.f3, .int .i64 x.f4, .int .i64 x.f5, .string x.f6, .string x.f7] := ⟨[.string x.f0], [.int .i64 x.f1, .string x.f2, .string x.f3, .int .i64 x.f4, .int .i64 x.f5, .string x.f6, .string x.f7], rfl, rfl, ⟨[.int .i64 x.f1], [.string x.f2, .string x.f3, .int .i64 x.f4, .int .i64 x.f5, .string x.f6, .string x.f7], rfl, rfl, ⟨[.string x.f2], [.string x.f3, .int .i64 x.f4, .int .i64 x.f5, .string x.f6, .string x.f7], rfl, rfl, ⟨[.string x.f3], [.int .i64 x.f4, .int .i64 x.f5, .string x.f6, .string x.f7], rfl, rfl, ⟨[.int .i64 x.f4], [.int .i64 x.f5, .string x.f6, .string x.f7], rfl, rfl, ⟨[.int .i64 x.f5], [.string x.f6, .string x.f7], rfl, rfl, ⟨[.string x.f6], [.string x.f7], rfl, rfl, rfl⟩⟩⟩⟩⟩⟩⟩
theorem k48_mkM (w : World) (base : Nat) (ok : Nat → Prop) (x : S48)  : k48.M w base ok x [.string x.f0, .int .i64 x.f1, .string x.f2, .string x.f3, .int .i64 x.f4, .int .i64 x.f5, .string x.f6, .string x.f7] := ⟨[.string x.f0], [.int .i64 x.f1, .string x.f2, .string x.f3, .int .i64 x.f4, .int .i64 x.f5, .string x.f6, .string x.f7], rfl, rfl, ⟨[.int .i64 x.f1], [.string x.f2, .string x.f3, .int .i64 x.f4, .int .i64 x.f5, .string x.f6, .string x.f7], rfl, rfl, ⟨[.string x.f2], [.string x.f3, .int .i64 x.f4, .int .i64 x.f5, .string x.f6, .string x.f7], rfl, rfl, ⟨[.string x.f3], [.int .i64 x.f4, .int .i64 x.f5, .string x.f6, .string x.f7], rfl, rfl, ⟨[.int .i64 x.f4], [.int .i64 x.f5, .string x.f6, .string x.f7], rfl, rfl, ⟨[.int .i64 x.f5], [.string x.f6, .string x.f7], rfl, rfl, ⟨[.string x.f6], [.string x.f7], rfl, rfl, rfl⟩⟩⟩⟩⟩⟩⟩
def rd_T48 (xs : List S48) (i : Int) : S48 := xs.getD i.toNat z48
theorem at_T48 {w : World} {A : Option Addr} {n : Nat} {xs : List S48} (h : Kd.C k48 w A n xs) (i : Int) (h0 : 0 ≤ i) (h1 : i < n) : ∃ ad , A = some ad ∧ w.cell? (ad.add (i.toNat * 8)) = some (.string (rd_T48 xs i).f0) ∧ w.cell? ⟨(ad.add (i.toNat * 8)).block, (ad.add (i.toNat * 8)).off + 1, none⟩ = some (.int .i64 (rd_T48 xs i).f1) ∧ w.cell? ⟨(ad.add (i.toNat * 8)).block, (ad.add (i.toNat * 8)).off + 2, none⟩ = some (.string (rd_T48 xs i).f2) ∧ w.cell? ⟨(ad.add (i.toNat * 8)).block, (ad.add (i.toNat * 8)).off + 3, none⟩ = some (.string (rd_T48 xs i).f3) ∧ w.cell? ⟨(ad.add (i.toNat * 8)).block, (ad.add (i.toNat * 8)).off + 4, none⟩ = some (.int .i64 (rd_T48 xs i).f4) ∧ w.cell? ⟨(ad.add (i.toNat * 8)).block, (ad.add (i.toNat * 8)).off + 5, none⟩ = some (.int .i64 (rd_T48 xs i).f5) ∧ w.cell? ⟨(ad.add (i.toNat * 8)).block, (ad.add (i.toNat * 8)).off + 6, none⟩ = some (.string (rd_T48 xs i).f6) ∧ w.cell? ⟨(ad.add (i.toNat * 8)).block, (ad.add (i.toNat * 8)).off + 7, none⟩ = some (.string (rd_T48 xs i).f7) := by
  obtain ⟨ad, c, e, _, hK, hc0⟩ := Kd.C_get h z48 i h0 h1
  have hc : ∀ j u, c[j]? = some u → w.cell? (ad.add (i.toNat * 8 + j)) = some u := hc0
  obtain rfl := k48_open hK
  exact ⟨ad, e, hc 0 _ rfl, by rw [← add_field _ _ 1 (by omega)]; exact hc 1 _ rfl, by rw [← add_field _ _ 2 (by omega)]; exact hc 2 _ rfl, by rw [← add_field _ _ 3 (by omega)]; exact hc 3 _ rfl, by rw [← add_field _ _ 4 (by omega)]; exact hc 4 _ rfl, by rw [← add_field _ _ 5 (by omega)]; exact hc 5 _ rfl, by rw [← add_field _ _ 6 (by omega)]; exact hc 6 _ rfl, by rw [← add_field _ _ 7 (by omega)]; exact hc 7 _ rfl⟩

/-! #### struct type 43 -/
structure S43 where
  f0 : Int
  f1 : Bool
def z43 : S43 := ⟨(0 : Int), false⟩
def k43 : Kd S43 := Kd.iso (Kd.pair (Kd.int .i64) Kd.bool) (fun x : S43 => (x.f0, x.f1))
theorem k43_open {w : World} {x : S43} {cs : List Value} (h : k43.K w x cs) : cs = [.int .i64 x.f0, .bool x.f1] := by
  obtain ⟨_, _, rfl, rfl, rfl⟩ := h
  exact rfl
theorem k43_openM {w : World} {base : Nat} {ok : Nat → Prop} {x : S43} {cs : List Value} (h : k43.M w base ok x cs) : cs = [.int .i64 x.f0, .bool x.f1] := by
  obtain ⟨_, _, rfl, rfl, rfl⟩ := h
  exact rfl
theorem k43_mk (w : World) (x : S43)  : k43.K w x [.int .i64 x.f0, .bool x.f1] := ⟨[.int .i64 x.f0], [.bool x.f1], rfl, rfl, rfl⟩
theorem k43_mkM (w : World) (base : Nat) (ok : Nat → Prop) (x : S43)  : k43.M w base ok x [.int .i64 x.f0, .bool x.f1] := ⟨[.int .i64 x.f0], [.bool x.f1], rfl, rfl, rfl⟩
def rd_T43 (xs : List S43) (i : Int) : S43 := xs.getD i.toNat z43
theorem at_T43 {w : World} {A : Option Addr} {n : Nat} {xs : List S43} (h : Kd.C k43 w A n xs) (i : Int) (h0 : 0 ≤ i) (h1 : i < n) : ∃ ad , A = some ad ∧ w.cell? (ad.add (i.toNat * 2)) = some (.int .i64 (rd_T43 xs i).f0) ∧ w.cell? ⟨(ad.add (i.toNat * 2)).block, (ad.add (i.toNat * 2)).off + 1, none⟩ = some (.bool (rd_T43 xs i).f1) := by
  obtain ⟨ad, c, e, _, hK, hc0⟩ := Kd.C_get h z43 i h0 h1
  have hc : ∀ j u, c[j]? = some u → w.cell? (ad.add (i.toNat * 2 + j)) = some u := hc0
  obtain rfl := k43_open hK
  exact ⟨ad, e, hc 0 _ rfl, by rw [← add_field _ _ 1 (by omega)]; exact hc 1 _ rfl⟩

/-! #### struct type 66 -/
structure S66 where
  f0 : Int
  f1 : Bool
def z66 : S66 := ⟨(0 : Int), false⟩
def k66 : Kd S66 := Kd.iso (Kd.pair (Kd.int .i64) Kd.bool) (fun x : S66 => (x.f0, x.f1))
theorem k66_open {w : World} {x : S66} {cs : List Value} (h : k66.K w x cs) : cs = [.int .i64 x.f0, .bool x.f1] := by
  obtain ⟨_, _, rfl, rfl, rfl⟩ := h
  exact rfl
theorem k66_openM {w : World} {base : Nat} {ok : Nat → Prop} {x : S66} {cs : List Value} (h : k66.M w base ok x cs) : cs = [.int .i64 x.f0, .bool x.f1] := by
  obtain ⟨_, _, rfl, rfl, rfl⟩ := h
  exact rfl
theorem k66_mk (w : World) (x : S66)  : k66.K w x [.int .i64 x.f0, .bool x.f1] := ⟨[.int .i64 x.f0], [.bool x.f1], rfl, rfl, rfl⟩
theorem k66_mkM (w : World) (base : Nat) (ok : Nat → Prop) (x : S66)  : k66.M w base ok x [.int .i64 x.f0, .bool x.f1] := ⟨[.int .i64 x.f0], [.bool x.f1], rfl, rfl, rfl⟩
def rd_T66 (xs : List S66) (i : Int) : S66 := xs.getD i.toNat z66
theorem at_T66 {w : World} {A : Option Addr} {n : Nat} {xs : List S66} (h : Kd.C k66 w A n xs) (i : Int) (h0 : 0 ≤ i) (h1 : i < n) : ∃ ad , A = some ad ∧ w.cell? (ad.add (i.toNat * 2)) = some (.int .i64 (rd_T66 xs i).f0) ∧ w.cell? ⟨(ad.add (i.toNat * 2)).block, (ad.add (i.toNat * 2)).off + 1, none⟩ = some (.bool (rd_T66 xs i).f1) := by
  obtain ⟨ad, c, e, _, hK, hc0⟩ := Kd.C_get h z66 i h0 h1
  have hc : ∀ j u, c[j]? = some u → w.cell? (ad.add (i.toNat * 2 + j)) = some u := hc0
  obtain rfl := k66_open hK
  exact ⟨ad, e, hc 0 _ rfl, by rw [← add_field _ _ 1 (by omega)]; exact hc 1 _ rfl⟩

def rd_L9 (xs : List (List ByteArray)) (i : Int) : (List ByteArray) := xs.getD i.toNat ([] : List ByteArray)
theorem at_L9 {w : World} {A : Option Addr} {n : Nat} {xs : List (List ByteArray)} (h : Kd.C (Kd.slice 9 Kd.string) w A n xs) (i : Int) (h0 : 0 ≤ i) (h1 : i < n) : ∃ ad A0 c0, A = some ad ∧ w.cell? (ad.add i.toNat) = some (.slice A0 (rd_L9 xs i).length c0) ∧ (rd_L9 xs i).length ≤ c0 ∧ Kd.string.C w A0 (rd_L9 xs i).length (rd_L9 xs i) := by
  obtain ⟨ad, c, e, _, hK, hc0⟩ := Kd.C_get h ([] : List ByteArray) i h0 h1
  have hc : ∀ j u, c[j]? = some u → w.cell? (ad.add (i.toNat * 1 + j)) = some u := hc0
  obtain ⟨A0, c0, rfl, l0, g0⟩ := hK
  exact ⟨ad, A0, c0, e, by have hq := hc 0 _ rfl; rwa [Nat.mul_one, Nat.add_zero] at hq, l0, g0⟩

end Go.Proofs.Ytdkologncoofdaa.P
-- Short
namespace Go.Proofs.Ytdkologncoofdaa.P
open Go.RowKit Go.Proofs.YtdkologncoofdaaW.PrintWords Go.Proofs.YtdkologncoofdaaW.PrintLast Go.Proofs.YtdkologncoofdaaW.PrintMore
/-! Short words for the phrases that printed walks repeat. -/
theorem bx {P Q : Prop} (h : Q) (f : Q → P := by intro h; (with_reducible repeat (first | refine blk_drewN ?_ _ | refine blk_drew ?_ | refine blk_alloc ?_ _)); exact h) : P := f h
theorem rx {P Q : Prop} (h : Q) (f : Q → P := by intro h; (with_reducible repeat (first | apply Kd.R_alloc | apply Kd.R_drewN | apply Kd.R_drew)); exact h) : P := f h
theorem cx {P Q : Prop} (h : Q) (f : Q → P := by intro h; repeat (first | exact h | (with_reducible refine Kd.C_alloc ?_ _) | (with_reducible refine Kd.C_drewN ?_ _) | (with_reducible refine Kd.C_drew ?_))) : P := f h
theorem bw {P Q : Prop} (h : Q) (f : Q → P := by intro h; repeat (first | (with_reducible first | exact h | apply below_alloc | apply pw_below_drewN | apply below_drew1 | refine below_set ?_ (Aside0.out (by assumption))) | exact h)) : P := f h
theorem hbw {P Q : Prop} (h : Aside0 Q) (f : Q → P := by intro h; repeat (first | (with_reducible first | exact h | apply below_alloc | apply pw_below_drewN | apply below_drew1 | refine below_set ?_ (Aside0.out (by assumption))) | exact h)) : Aside0 P := ⟨f h.out⟩
theorem up {w w' w1 : World} {g : Nat} {o : Obj} (h : Aside0 (w.heap[g]? = some o)) (hb : Below w'.heap.size w' w1) (f : w.heap[g]? = some o → w'.heap[g]? = some o := by intro h; (with_reducible repeat (first | refine blk_drewN ?_ _ | refine blk_drew ?_ | refine blk_alloc ?_ _)); exact h) : Aside0 (w1.heap[g]? = some o) := ⟨blk_below (f h.out) hb⟩
theorem bk {w w' : World} {g : Nat} {o : Obj} (h : Aside0 (w.heap[g]? = some o)) (f : w.heap[g]? = some o → w'.heap[g]? = some o := by intro h; (with_reducible repeat (first | refine blk_drewN ?_ _ | refine blk_drew ?_ | refine blk_alloc ?_ _)); exact h) : Aside0 (w'.heap[g]? = some o) := ⟨f h.out⟩
theorem bs {w W W' w2 : World} (h : Aside0 (Below w.heap.size w W)) (hb : Below W'.heap.size W' w2) (f : Below w.heap.size w W → Below w.heap.size w W' := by intro h; repeat (first | (with_reducible first | exact h | apply below_alloc | apply pw_below_drewN | apply below_drew1 | refine below_set ?_ (Aside0.out (by assumption))) | exact h)) : Aside0 (Below w.heap.size w w2) := ⟨below_step (f h.out) hb⟩
theorem oda {p : Prop} [Decidable p] (h : decide p = true := by first | (with_reducible assumption) | assumption) : p := of_decide_eq_true h
theorem nlt' {w W : World} {g b : Nat} {o : Obj} (hg : b = W.heap.size) (h : Aside0 (w.heap[g]? = some o)) (f : w.heap[g]? = some o → W.heap[g]? = some o := by intro h; (with_reducible repeat (first | refine blk_drewN ?_ _ | refine blk_drew ?_ | refine blk_alloc ?_ _)); exact h) : Aside0 (g ≠ b) := ⟨by rw [hg]; exact Nat.ne_of_lt (blk_lt (f h.out))⟩
theorem ngt' {w W : World} {g b : Nat} {o : Obj} (hg : b = W.heap.size) (h : Aside0 (w.heap[g]? = some o)) (f : w.heap[g]? = some o → W.heap[g]? = some o := by intro h; (with_reducible repeat (first | refine blk_drewN ?_ _ | refine blk_drew ?_ | refine blk_alloc ?_ _)); exact h) : Aside0 (b ≠ g) := ⟨by rw [hg]; exact Nat.ne_of_gt (blk_lt (f h.out))⟩
theorem gh {w W0 W : World} {b : Nat} (hg : b = W.heap.size) (h : Aside0 (Below w.heap.size w W0)) (f : Below w.heap.size w W0 → Below w.heap.size w W := by intro h; repeat (first | (with_reducible first | exact h | apply below_alloc | apply pw_below_drewN | apply below_drew1 | refine below_set ?_ (Aside0.out (by assumption))) | exact h)) : Aside0 (w.heap.size ≤ b) := ⟨by rw [hg]; exact below_size (f h.out)⟩
theorem mxp {P : Prop} (h : P := by (try simp only [List.map_toArray, List.map_cons, List.map_nil]); first | done | rfl | (simp only [List.length_drop, List.length_take]; rfl)) : P := h
theorem exq {P : Prop} (h : P := by first | rfl | (simp [errW_none, errW_some] <;> rfl) | (simp [*, errW_none, errW_some] <;> rfl)) : P := h
theorem bcl {n : Nat} {w w' : World} {p : Addr} {v : Value} (h : Aside0 (Below n w w')) (hx : w.cell? p = some v) (hn : n = w.heap.size := by rfl) : w'.cell? p = some v := by subst hn; exact (h.out.cell (World.block_lt_of_cell? w _ hx)).trans hx
theorem fz {w : World} {g : Nat} {t : TypeId} {cs : Array Value} (h : Aside0 (w.heap[g]? = some (.cells cs t (0, 0)))) (i : Nat) : w.frozen? ⟨g, i, none⟩ = false := blk_frozen h.out i
theorem kb {P Q : Prop} (h : Q) (f : Q → P := by intro h; repeat (first | (with_reducible first | exact h | apply KeepBut.set_ | apply keep_drewN | apply keep_drew | apply keep_alloc | refine keep_far ?_ (Aside0.out (by assumption)) _) | exact h)) : P := f h
theorem kt {w W W' w2 : World} {g : Nat} {row : Option Nat} (h : Aside0 (KeepBut w W g row)) (hk : KeepBut W' w2 g row) (f : KeepBut w W g row → KeepBut w W' g row := by intro h; repeat (first | (with_reducible first | exact h | apply KeepBut.set_ | apply keep_drewN | apply keep_drew | apply keep_alloc | refine keep_far ?_ (Aside0.out (by assumption)) _) | exact h)) : Aside0 (KeepBut w w2 g row) := ⟨KeepBut.trans (f h.out) hk (.inl rfl)⟩
theorem kp {w w' w1 : World} {g g' : Nat} {row : Option Nat} {o : Obj} (h : Aside0 (w.heap[g']? = some o)) (hk : KeepBut w' w1 g row) (hn : Aside0 (g' ≠ g)) (hr : some g' ≠ row := by simp) (f : w.heap[g']? = some o → w'.heap[g']? = some o := by intro h; (with_reducible repeat (first | refine blk_drewN ?_ _ | refine blk_drew ?_ | refine blk_alloc ?_ _)); exact h) : Aside0 (w1.heap[g']? = some o) := ⟨KeepBut.blk hk (f h.out) hn.out hr⟩
variable {w : World} {g : Nat} {t : TypeId} {x0 x1 x2 x3 x4 x5 x6 x7 : Value} {l : List Value}
theorem b0 (h : Aside0 (w.heap[g]? = some (.cells (List.toArray (x0 :: l)) t (0, 0)))) : w.cell? ⟨g, 0, none⟩ = some x0 := (blk_cell h.out 0).trans rfl
theorem b1 (h : Aside0 (w.heap[g]? = some (.cells (List.toArray (x0 :: x1 :: l)) t (0, 0)))) : w.cell? ⟨g, 1, none⟩ = some x1 := (blk_cell h.out 1).trans rfl
theorem b2 (h : Aside0 (w.heap[g]? = some (.cells (List.toArray (x0 :: x1 :: x2 :: l)) t (0, 0)))) : w.cell? ⟨g, 2, none⟩ = some x2 := (blk_cell h.out 2).trans rfl
theorem b3 (h : Aside0 (w.heap[g]? = some (.cells (List.toArray (x0 :: x1 :: x2 :: x3 :: l)) t (0, 0)))) : w.cell? ⟨g, 3, none⟩ = some x3 := (blk_cell h.out 3).trans rfl
theorem b4 (h : Aside0 (w.heap[g]? = some (.cells (List.toArray (x0 :: x1 :: x2 :: x3 :: x4 :: l)) t (0, 0)))) : w.cell? ⟨g, 4, none⟩ = some x4 := (blk_cell h.out 4).trans rfl
theorem b5 (h : Aside0 (w.heap[g]? = some (.cells (List.toArray (x0 :: x1 :: x2 :: x3 :: x4 :: x5 :: l)) t (0, 0)))) : w.cell? ⟨g, 5, none⟩ = some x5 := (blk_cell h.out 5).trans rfl
theorem b6 (h : Aside0 (w.heap[g]? = some (.cells (List.toArray (x0 :: x1 :: x2 :: x3 :: x4 :: x5 :: x6 :: l)) t (0, 0)))) : w.cell? ⟨g, 6, none⟩ = some x6 := (blk_cell h.out 6).trans rfl
theorem b7 (h : Aside0 (w.heap[g]? = some (.cells (List.toArray (x0 :: x1 :: x2 :: x3 :: x4 :: x5 :: x6 :: x7 :: l)) t (0, 0)))) : w.cell? ⟨g, 7, none⟩ = some x7 := (blk_cell h.out 7).trans rfl
end Go.Proofs.Ytdkologncoofdaa.P
-- Short3
namespace Go.Proofs.Ytdkologncoofdaa.P
open Go.RowKit Go.Proofs.YtdkologncoofdaaW.PrintWords Go.Proofs.YtdkologncoofdaaW.PrintLast Go.Proofs.YtdkologncoofdaaW.PrintMore
/-! Short words for the steps of a statement whose order is left open. -/
/-- n bits of m, the lowest first. -/
def lb (n m : Nat) : Array Bool := ((List.range n).map fun i => m.testBit i).toArray
theorem fw {P Q G : Prop} (h : Q) (g : G) (f : Q → G → P := by intro h g; first | exact Nat.ne_of_lt (Nat.lt_of_lt_of_le (by have := World.block_lt_of_cell? _ _ h; first | rwa [add_block] at this | exact this) g) | (rw [add_block]; exact Nat.ne_of_lt (Nat.lt_of_lt_of_le (by have := World.block_lt_of_cell? _ _ h; first | rwa [add_block] at this | exact this) g)) | (show (Addr.add _ _).block ≠ _; rw [add_block]; exact Nat.ne_of_lt (Nat.lt_of_lt_of_le (by have := World.block_lt_of_cell? _ _ h; first | rwa [add_block] at this | exact this) g)) | (dsimp only; exact Nat.ne_of_lt (Nat.lt_of_lt_of_le (by have := World.block_lt_of_cell? _ _ h; first | rwa [add_block] at this | exact this) g))) : P := f h g
theorem rpl {P Q E : Prop} (H : P) (hy : E) (f : P → E → Q := by intro H hy; first | (rw [hy]; with_reducible exact H) | (have H2_ := (Option.bind_some _ _).symm.trans H; rw [hy]; with_reducible exact H2_) | (have H2_ := (Option.bind_some _ _).symm.trans H; with_reducible exact H2_) | with_reducible exact H | (rw [hy]; exact H) | exact H) : Q := f H hy
section
variable {P : Program} {ops : Array Oper} {Q : Exit → Act → World → Prop} {md : Region.Mode} {S : World → Prop} {ds : List Nat} {T : Bool × List (List Nat × List Nat)} {B : List Nat} {oi : Oper} {v : Value} {fuel : Nat} {l : Array Bool} {a a' : Act} {w : World}
theorem pw (HT : Aside0 (rtab md ops = T)) (i : Nat) (N : Option Tmp) (l' : Array Bool) (h : wpAnyLast P md ops Q S ds fuel l' a' w)
    (hi : ops[i]? = some oi := by rfl) (hN : oi.dst = N := by rfl) (hc : anyT T l.toList l'.toList i = true := by kernel_rfl) (hQ : ∀ c a w, Q (.panic c) (a.put oi.dst v) w → Q (.panic c) a w := by exact fun _ _ _ h => h)
    (hy : Yields P ops oi v a := by refine Or.inl ⟨by rfl, ?_⟩; intro w'; go_simp; with_reducible rfl) (ha : a.put N v = a' := by simp only [Act.put, List.setIfInBounds_toArray, List.set_cons_zero, List.set_cons_succ, i64_w, i32_w]; rfl) : wpAnyLast P md ops Q S ds (fuel + 1) l a w :=
  pure_ l' hi hN (any_of HT.out hc) hQ hy ha h
theorem tw (HT : Aside0 (rtab md ops = T)) (HW : Aside0 (waitsOk T.2 B = true)) (hS : S w) (i : Nat) (N : Option Tmp) (l' : Array Bool) (h : wpAnyLast P md ops Q S ds fuel l' a' w)
    (hi : ops[i]? = some oi := by rfl) (hN : oi.dst = N := by rfl) (hc : takeW T B ds l.toList l'.toList i = true := by kernel_rfl) (hQ : ∀ c a w, Q (.panic c) (a.put oi.dst v) w → Q (.panic c) a w := by exact fun _ _ _ h => h)
    (hy : YieldsIf P ops S oi v a := by refine Or.inl ⟨by rfl, ?_⟩; intro w' hs; go_simp; with_reducible rfl) (ha : a.put N v = a' := by simp only [Act.put, List.setIfInBounds_toArray, List.set_cons_zero, List.set_cons_succ, i64_w, i32_w]; rfl) : wpAnyLast P md ops Q S ds (fuel + 1) l a w :=
  take_ l' hi hN (take_ofW HT.out HW.out hc) hQ hy hS ha h
end
end Go.Proofs.Ytdkologncoofdaa.P
-- Px4
namespace Go.Proofs.Ytdkologncoofdaa.P
open Go.RowKit Go.Proofs.YtdkologncoofdaaW.PrintWords Go.Proofs.YtdkologncoofdaaW.PrintLast Go.Proofs.YtdkologncoofdaaW.PrintMore
attribute [local go_sem] max2_int min2_int max_two min_two max_three min_three max_four min_four   -- for this text's walks alone
set_option linter.unusedVariables false
set_option linter.unusedSimpArgs false

/-! ### slices_Index_string_string: function 61 -/
def slices_Index_string_string.l0 : Nat → List ByteArray → ByteArray → Int → Int → Option (Int)
 | 0, _, _, _, _ => none
 | k + 1, x0, x1, x7, x8 => if x8 < x7 then (if 0 ≤ x8 then (if x8 < (x0.length : Int) then (if x1.toList = (rdOf ByteArray.empty x0 x8).toList then (some x8) else (slices_Index_string_string.l0 k x0 x1 x7 (wrap64 (x8 + 1)))) else (none)) else (none)) else (some (-1))
def slices_Index_string_string.f (k : Nat) (l0 : List ByteArray) (a1 : ByteArray) : Option (Int) := slices_Index_string_string.l0 k l0 a1 (l0.length : Int) 0
theorem slices_Index_string_string.mono_l : ∀ k, (∀ y0 y1 y2 y3, LeO (slices_Index_string_string.l0 k y0 y1 y2 y3) (slices_Index_string_string.l0 (k + 1) y0 y1 y2 y3))
 | 0 => fun _ _ _ _ r h => by simp [slices_Index_string_string.l0] at h
 | k + 1 => by
  have ih0 := slices_Index_string_string.mono_l k
  ·intro y0 y1 y2 y3
   unfold slices_Index_string_string.l0
   repeat' first
   | (with_reducible exact ih0 _ _ _ _)
   | (with_reducible exact LeO.refl _)
   | (with_reducible exact LeO.none _)
   | (with_reducible refine LeO.ite ?_ ?_)
   | (with_reducible refine LeO.bind ?_ (fun _ => ?_))
   | exact ih0 _ _ _ _
   | exact LeO.none _
   | refine LeO.ite ?_ ?_
   | refine LeO.bind ?_ (fun _ => ?_)
theorem slices_Index_string_string.mono : ∀ a0 a1 k, LeO (slices_Index_string_string.f k a0 a1) (slices_Index_string_string.f (k + 1) a0 a1) := by
 intro a0 a1 k
 have ih0 := slices_Index_string_string.mono_l k
 unfold slices_Index_string_string.f
 repeat' first
   | (with_reducible exact ih0 _ _ _ _)
   | (with_reducible exact LeO.refl _)
   | (with_reducible exact LeO.none _)
   | (with_reducible refine LeO.ite ?_ ?_)
   | (with_reducible refine LeO.bind ?_ (fun _ => ?_))
   | exact ih0 _ _ _ _
   | exact LeO.none _
   | refine LeO.ite ?_ ?_
   | refine LeO.bind ?_ (fun _ => ?_)
set_option maxHeartbeats 8000000 in
set_option maxRecDepth 100000 in
theorem slices_Index_string_string.calls (k : Nat) (A0 : Option Addr) (c0 : Nat) (l0 : List ByteArray) (a1 : ByteArray) (r : Int) (w : World) (hr0 : Kd.C Kd.string w A0 l0.length l0) (hc0 : l0.length ≤ c0) (h : slices_Index_string_string.f k l0 a1 = some r) :
  Calls Try.prog 61 #[.slice A0 l0.length c0, .string a1] w fun e w' => e = .returned (.int .i64 r) ∧ Drawn0 w w' := by
 have HR0 := Aside0.mk hr0
 have HC0 := Aside0.mk hc0
 clear hr0 hc0
 have H : (slices_Index_string_string.l0 k l0 a1 (l0.length : Int) 0) = some r := h
 clear h
 have H' := Aside0.mk H
 clear H
 go_enter Try.func61, Try.ntmps61
 go_wp2
 go_loopg [8] k (fun kq v8 w' => ∃ (x8_1 : Int), v8 = .int .i64 x8_1 ∧ Aside0 (slices_Index_string_string.l0 kq l0 a1 (l0.length : Int) x8_1 = some r) ∧ Aside0 (kq ≤ k) ∧ Drawn0 w w')
 case atStart => exact ⟨(0), (by first | rfl | (simp; done) | (simp [*]; done)), H', ⟨Nat.le_refl _⟩, by repeat (first | exact Drawn0.refl _ | apply Drawn0.step)⟩
 case round =>
  clear H'
  obtain ⟨x8_1, rfl, HA, HK1, ⟨m1, rfl⟩⟩ := hrel
  cases gk with
  | zero => exact absurd HA.out (by simp [slices_Index_string_string.l0])
  | succ k1 =>
   have H := HA.out
   clear HA
   simp only [slices_Index_string_string.l0] at H
   by_cases c3 : x8_1 < (l0.length : Int)
   ·rw [if_pos c3] at H
    have c3b0 : decide (x8_1 < (l0.length : Int)) = true := decide_eq_true c3
    clear c3
    by_cases c4 : 0 ≤ x8_1
    ·rw [if_pos c4] at H
     have c4b0 : decide (0 ≤ x8_1) = true := decide_eq_true c4
     clear c4
     by_cases c5 : x8_1 < (l0.length : Int)
     ·rw [if_pos c5] at H
      have c5b0 : decide (x8_1 < (l0.length : Int)) = true := decide_eq_true c5
      clear c5
      by_cases c6 : a1.toList = (rdOf ByteArray.empty l0 x8_1).toList
      ·rw [if_pos c6] at H
       have c6b0 : (a1.toList == (rdOf ByteArray.empty l0 x8_1).toList) = true := beq_iff_eq.mpr c6
       have c6b1 : (a1.toList != (rdOf ByteArray.empty l0 x8_1).toList) = false := bne_eq_false_iff_eq.mpr c6
       clear c6
       obtain rfl := Option.some.inj H
       have p101 : 0 ≤ (x8_1 : Int) := oda
       have q101 : x8_1 < (l0.length : Int) := oda
       obtain ⟨ad101, e101, hx101_0⟩ := Kd.at_string HR0.out x8_1 p101 q101
       cases e101
       replace p101 := eq_true p101
       replace q101 := eq_true q101
       go_wp2
       go_ret
       exact ⟨by first | rfl | (simp; done) | (simp [*]; done), by repeat (first | exact Drawn0.refl _ | apply Drawn0.step)⟩
      ·rw [if_neg c6] at H
       have c6b0 : (a1.toList == (rdOf ByteArray.empty l0 x8_1).toList) = false := beq_eq_false_iff_ne.mpr c6
       have c6b1 : (a1.toList != (rdOf ByteArray.empty l0 x8_1).toList) = true := bne_iff_ne.mpr c6
       have H' := Aside0.mk H
       clear H
       have p101 : 0 ≤ (x8_1 : Int) := oda
       have q101 : x8_1 < (l0.length : Int) := oda
       obtain ⟨ad101, e101, hx101_0⟩ := Kd.at_string HR0.out x8_1 p101 q101
       cases e101
       replace p101 := eq_true p101
       replace q101 := eq_true q101
       go_wp2
       go_roundg k1
       case measure => have := HK1.out; omega
       case rel => exact ⟨(wrap64 (x8_1 + 1)), (by first | rfl | (simp; done) | (simp [*]; done)), H', ⟨by have := HK1.out; omega⟩, by repeat (first | exact Drawn0.refl _ | apply Drawn0.step)⟩
     ·rw [if_neg c5] at H
      exact absurd H (by simp)
    ·rw [if_neg c4] at H
     exact absurd H (by simp)
   ·rw [if_neg c3] at H
    have c3b0 : decide (x8_1 < (l0.length : Int)) = false := decide_eq_false c3
    clear c3
    obtain rfl := Option.some.inj H
    go_wp2
    go_ret
    exact ⟨by first | rfl | (simp; done) | (simp [*]; done), by repeat (first | exact Drawn0.refl _ | apply Drawn0.step)⟩


/-! ### impl_RecEnd: function 19 -/
def impl_RecEnd.f (k : Nat) (a0 : ByteArray) : Option (Int) := (some (([(⟨#[]⟩ : ByteArray), (⟨#[103, 111, 111, 100]⟩ : ByteArray), (⟨#[115, 97, 118, 101, 100]⟩ : ByteArray), (⟨#[115, 99, 114, 97, 112, 112, 101, 100]⟩ : ByteArray)] : List ByteArray) : List ByteArray)).bind fun y102 => (if 1 ≤ (y102.length : Int) then ((slices_Index_string_string.f k (y102.drop 1) a0).bind fun t109 => (some (wrap64 (t109 + 1)))) else (none))
theorem impl_RecEnd.mono : ∀ a0 k, LeO (impl_RecEnd.f k a0) (impl_RecEnd.f (k + 1) a0) := by
 intro a0 k
 unfold impl_RecEnd.f
 repeat' first
   | (with_reducible exact slices_Index_string_string.mono _ _ _)
   | (with_reducible exact LeO.refl _)
   | (with_reducible exact LeO.none _)
   | (with_reducible refine LeO.ite ?_ ?_)
   | (with_reducible refine LeO.bind ?_ (fun _ => ?_))
   | exact slices_Index_string_string.mono _ _ _
   | exact LeO.none _
   | refine LeO.ite ?_ ?_
   | refine LeO.bind ?_ (fun _ => ?_)
set_option maxHeartbeats 8000000 in
set_option maxRecDepth 100000 in
theorem impl_RecEnd.calls (k : Nat) (a0 : ByteArray) (r : Int) (w : World) (h : impl_RecEnd.f k a0 = some r) :
  Calls Try.prog 19 #[.string a0] w fun e w' => e = .returned (.int .i64 r) ∧ Below w.heap.size w w' := by
 have HB := Aside0.mk (Below.refl w.heap.size w)
 have H : ((some (([(⟨#[]⟩ : ByteArray), (⟨#[103, 111, 111, 100]⟩ : ByteArray), (⟨#[115, 97, 118, 101, 100]⟩ : ByteArray), (⟨#[115, 99, 114, 97, 112, 112, 101, 100]⟩ : ByteArray)] : List ByteArray) : List ByteArray)).bind fun y102 => (if 1 ≤ (y102.length : Int) then ((slices_Index_string_string.f k (y102.drop 1) a0).bind fun t109 => (some (wrap64 (t109 + 1)))) else (none))) = some r := h
 clear h
 obtain ⟨y102, hy102⟩ : ∃ y_ : List ByteArray, y_ = (([(⟨#[]⟩ : ByteArray), (⟨#[103, 111, 111, 100]⟩ : ByteArray), (⟨#[115, 97, 118, 101, 100]⟩ : ByteArray), (⟨#[115, 99, 114, 97, 112, 112, 101, 100]⟩ : ByteArray)] : List ByteArray)) := ⟨_, rfl⟩
 replace H : (if 1 ≤ (y102.length : Int) then ((slices_Index_string_string.f k (y102.drop 1) a0).bind fun t109 => (some (wrap64 (t109 + 1)))) else (none)) = some r := rpl H hy102
 have Ny102 := Aside0.mk hy102
 clear hy102
 by_cases c2 : 1 ≤ (y102.length : Int)
 ·rw [if_pos c2] at H
  have c2b0 := eq_true c2
  have c2b1 : decide (1 ≤ (y102.length : Int)) = true := decide_eq_true c2
  clear c2
  obtain ⟨y105, hy105⟩ : ∃ y_ : List ByteArray, y_ = (y102.drop 1) := ⟨_, rfl⟩
  replace H : ((slices_Index_string_string.f k y105 a0).bind fun t109 => (some (wrap64 (t109 + 1)))) = some r := rpl H hy105
  have Ny105 := Aside0.mk hy105
  clear hy105
  replace H := Option.bind_eq_some_iff.mp H
  obtain ⟨t109, A30, H⟩ := H
  try dsimp only at H
  have A3 := Aside0.mk A30
  clear A30
  obtain rfl := Option.some.inj H
  go_enter Try.func19, Try.ntmps19
  go_wp2_with (first | ((with_reducible refine gate_dst (N := 3) rfl ?_); refine Kd.R_lit Kd.string _ 9 ?hg (N := 3) ?hd (xs := ([(⟨#[]⟩ : ByteArray), (⟨#[103, 111, 111, 100]⟩ : ByteArray), (⟨#[115, 97, 118, 101, 100]⟩ : ByteArray), (⟨#[115, 99, 114, 97, 112, 112, 101, 100]⟩ : ByteArray)] : List ByteArray)) (inner := [.string (⟨#[]⟩ : ByteArray), .string (⟨#[103, 111, 111, 100]⟩ : ByteArray), .string (⟨#[115, 97, 118, 101, 100]⟩ : ByteArray), .string (⟨#[115, 99, 114, 97, 112, 112, 101, 100]⟩ : ByteArray)]) (ok := fun _ => True) (okp := fun _ => True) ?hr ?hp (fun _ hk => hk) trivial (Below.refl _ _) (Nat.le_refl _) (by simp) ?_; (case hd => rfl); (case hg => rfl); (case hr => first | (go_simp; done) | (go_simp; rfl)); (case hp => exact (Reps.one (show Kd.M Kd.string _ _ _ (⟨#[]⟩ : ByteArray) [.string (⟨#[]⟩ : ByteArray)] from rfl) (Reps.one (show Kd.M Kd.string _ _ _ (⟨#[103, 111, 111, 100]⟩ : ByteArray) [.string (⟨#[103, 111, 111, 100]⟩ : ByteArray)] from rfl) (Reps.one (show Kd.M Kd.string _ _ _ (⟨#[115, 97, 118, 101, 100]⟩ : ByteArray) [.string (⟨#[115, 97, 118, 101, 100]⟩ : ByteArray)] from rfl) (Reps.one (show Kd.M Kd.string _ _ _ (⟨#[115, 99, 114, 97, 112, 112, 101, 100]⟩ : ByteArray) [.string (⟨#[115, 99, 114, 97, 112, 112, 101, 100]⟩ : ByteArray)] from rfl) (Reps.none _ _)))))); intro v103 w4 ho5 hb hg_ hnew_; clear hg_ hnew_; (first | rw [← Ny102.out] at ho5 | (simp only [Int.reduceToNat] at ho5; rw [← Ny102.out] at ho5)); have t_ := And.intro (Aside0.mk (Kd.R_lower ho5 (below_size (bw HB.out)))) <| (bs HB hb); clear HB; obtain ⟨HO104, HB⟩ := t_; clear hb ho5; obtain ⟨Ao7, co7, eo7⟩ := Kd.R_slice HO104.out; subst eo7; have q6 : (1 : Int) ≤ ((y102.length : Int) : Int) := oda; obtain ⟨i06, hi06, _, hsz6, _⟩ := info_parts info9; have hroom6 : y102.length ≤ co7 := (Kd.R_reads' HO104.out).2.1; have hC6 : Kd.C Kd.string _ Ao7 y102.length y102 := (Kd.R_reads' HO104.out).2.2; have hcut6 := cut_from (P := Try.prog) 32 9 .i64 Try.underlying32 hi06 1 hsz6 Ao7 y102.length co7 1 (by omega) q6; have hr6 := Kd.C_drop (m := (1 : Int).toNat) (c := co7) hC6 (by omega) hroom6; obtain ⟨A6, hA6⟩ : ∃ A1, A1 = (if co7 = (1 : Int).toNat then Ao7 else (Ao7 : Option Addr).map (·.add ((1 : Int).toNat * 1))) := ⟨_, rfl⟩; obtain ⟨c6, hc6⟩ : ∃ c1, c1 = co7 - (1 : Int).toNat := ⟨_, rfl⟩; have hy6 : y105.length = y102.length - (1 : Int).toNat := (by rw [Ny105.out, List.length_drop] <;> omega); rw [show (y102).drop (1 : Int).toNat = y105 from Ny105.out.symm] at hr6; replace hr6 : Kd.C Kd.string _ A6 y105.length y105 := (by rw [hA6]; exact hr6); rw [← hy6, ← hA6, ← hc6] at hcut6; have HR108 := Aside0.mk hr6; have HC108 := Aside0.mk (show y105.length ≤ c6 from by rw [hy6, hc6]; exact Nat.sub_le_sub_right hroom6 _); clear hr6 hC6 hroom6 hi06 hsz6 hc6; have KY6 := Aside0.mk hy6; have KA6 := Aside0.mk hA6; clear hy6 hA6; have KL6 := Aside0.mk (show 1 ≤ y102.length from by omega); replace q6 := eq_true q6) | ((with_reducible refine gate_callee (f := 61) rfl ?_); refine goesL_ (some 6) rfl rfl Try.func61 (by kernel_rfl) rfl #[.slice A6 y105.length c6, .string a0] rfl mxp ?_; (with_reducible refine (slices_Index_string_string.calls k _ _ y105 a0 t109 _ ?side1 ?side2 A3.out).mono ?_); (case side1 => repeat (first | exact (by repeat (first | (with_reducible exact HR108.out) | (with_reducible refine Kd.C_alloc ?_ _) | (with_reducible refine Kd.C_drewN ?_ _) | (with_reducible refine Kd.C_drew ?_) | exact HR108.out)) | (with_reducible refine Kd.C_alloc ?_ _) | (with_reducible refine Kd.C_drewN ?_ _) | (with_reducible refine Kd.C_drew ?_))); (case side2 => exact HC108.out); rintro e w' ⟨rfl, ⟨nd, rfl⟩⟩; refine ⟨_, rfl, ?_⟩))
  go_ret
  exact ⟨exq, bw HB.out⟩
 ·rw [if_neg c2] at H
  exact absurd H (by simp)


/-! ### spec_l1In: function 67 -/
def spec_l1In.f (a0 : Int) (a1 : Int) (a2 : Int) : Option (Bool) := if a0 ≥ a1 then (some (decide (a0 ≤ a2))) else (some false)
set_option maxHeartbeats 8000000 in
set_option maxRecDepth 100000 in
theorem spec_l1In.calls (a0 : Int) (a1 : Int) (a2 : Int) (r : Bool) (w : World) (h : spec_l1In.f a0 a1 a2 = some r) :
  Calls Try.prog 67 #[.int .i64 a0, .int .i64 a1, .int .i64 a2] w fun e w' => e = .returned (.bool r) ∧ Drawn0 w w' := by
 have H : (if a0 ≥ a1 then (some (decide (a0 ≤ a2))) else (some false)) = some r := h
 clear h
 by_cases c4 : a0 ≥ a1
 ·rw [if_pos c4] at H
  have c4b0 : decide (a1 ≤ a0) = true := decide_eq_true c4
  clear c4
  obtain rfl := Option.some.inj H
  go_enter Try.func67, Try.ntmps67
  go_wp2
  go_ret
  exact ⟨by first | rfl | (simp; done) | (simp [*]; done), by repeat (first | exact Drawn0.refl _ | apply Drawn0.step)⟩
 ·rw [if_neg c4] at H
  have c4b0 : decide (a1 ≤ a0) = false := decide_eq_false c4
  clear c4
  obtain rfl := Option.some.inj H
  go_enter Try.func67, Try.ntmps67
  go_wp2
  go_ret
  exact ⟨by first | rfl | (simp; done) | (simp [*]; done), by repeat (first | exact Drawn0.refl _ | apply Drawn0.step)⟩


/-! ### spec_l1NameOk: function 77 -/
def spec_l1NameOk.l0 : Nat → ByteArray → Int → Option (Bool)
 | 0, _, _ => none
 | k + 1, x0, x3 => if x3 < (x0.size : Int) then (if 0 ≤ x3 then (if (bt x0 x3) ≥ 97 then (if (bt x0 x3) ≤ 122 then (spec_l1NameOk.l0 k x0 (wrap64 (x3 + 1))) else (if (bt x0 x3) ≥ 48 then (if (bt x0 x3) ≤ 57 then (spec_l1NameOk.l0 k x0 (wrap64 (x3 + 1))) else (if ((bt x0 x3) = 45) then (spec_l1NameOk.l0 k x0 (wrap64 (x3 + 1))) else (some false))) else (if ((bt x0 x3) = 45) then (spec_l1NameOk.l0 k x0 (wrap64 (x3 + 1))) else (some false)))) else (if (bt x0 x3) ≥ 48 then (if (bt x0 x3) ≤ 57 then (spec_l1NameOk.l0 k x0 (wrap64 (x3 + 1))) else (if ((bt x0 x3) = 45) then (spec_l1NameOk.l0 k x0 (wrap64 (x3 + 1))) else (some false))) else (if ((bt x0 x3) = 45) then (spec_l1NameOk.l0 k x0 (wrap64 (x3 + 1))) else (some false)))) else (none)) else (some true)
def spec_l1NameOk.f (k : Nat) (a0 : ByteArray) : Option (Bool) := (spec_l1In.f (a0.size : Int) 1 8).bind fun t113 => (if t113 = true then (spec_l1NameOk.l0 k a0 0) else (some false))
theorem spec_l1NameOk.mono_l : ∀ k, (∀ y0 y1, LeO (spec_l1NameOk.l0 k y0 y1) (spec_l1NameOk.l0 (k + 1) y0 y1))
 | 0 => fun _ _ r h => by simp [spec_l1NameOk.l0] at h
 | k + 1 => by
  have ih0 := spec_l1NameOk.mono_l k
  ·intro y0 y1
   unfold spec_l1NameOk.l0
   repeat' first
   | (with_reducible exact ih0 _ _)
   | (with_reducible exact LeO.refl _)
   | (with_reducible exact LeO.none _)
   | (with_reducible refine LeO.ite ?_ ?_)
   | (with_reducible refine LeO.bind ?_ (fun _ => ?_))
   | exact ih0 _ _
   | exact LeO.none _
   | refine LeO.ite ?_ ?_
   | refine LeO.bind ?_ (fun _ => ?_)
theorem spec_l1NameOk.mono : ∀ a0 k, LeO (spec_l1NameOk.f k a0) (spec_l1NameOk.f (k + 1) a0) := by
 intro a0 k
 have ih0 := spec_l1NameOk.mono_l k
 unfold spec_l1NameOk.f
 repeat' first
   | (with_reducible exact ih0 _ _)
   | (with_reducible exact LeO.refl _)
   | (with_reducible exact LeO.none _)
   | (with_reducible refine LeO.ite ?_ ?_)
   | (with_reducible refine LeO.bind ?_ (fun _ => ?_))
   | exact ih0 _ _
   | exact LeO.none _
   | refine LeO.ite ?_ ?_
   | refine LeO.bind ?_ (fun _ => ?_)
set_option maxHeartbeats 8000000 in
set_option maxRecDepth 100000 in
theorem spec_l1NameOk.calls (k : Nat) (a0 : ByteArray) (r : Bool) (w : World) (h : spec_l1NameOk.f k a0 = some r) :
  Calls Try.prog 77 #[.string a0] w fun e w' => e = .returned (.bool r) ∧ Drawn0 w w' := by
 have H : ((spec_l1In.f (a0.size : Int) 1 8).bind fun t113 => (if t113 = true then (spec_l1NameOk.l0 k a0 0) else (some false))) = some r := h
 clear h
 replace H := Option.bind_eq_some_iff.mp H
 obtain ⟨t113, A20, H⟩ := H
 try dsimp only at H
 have A2 := Aside0.mk A20
 clear A20
 by_cases c3 : t113 = true
 ·subst c3
  rw [if_pos rfl] at H
  have H' := Aside0.mk H
  clear H
  go_enter Try.func77, Try.ntmps77
  go_wp2_with (first | ((with_reducible refine gate_callee (f := 67) rfl ?_); refine goesL_ (some 7) rfl rfl Try.func67 (by kernel_rfl) rfl #[.int .i64 (a0.size : Int), .int .i64 1, .int .i64 8] rfl mxp ?_; (with_reducible refine (spec_l1In.calls (a0.size : Int) 1 8 true _ A2.out).mono ?_); rintro e w' ⟨rfl, ⟨nd, rfl⟩⟩; refine ⟨_, rfl, ?_⟩))
  go_loopg [3] k (fun kq v3 w' => ∃ (x3_1 : Int), v3 = .int .i64 x3_1 ∧ Aside0 (spec_l1NameOk.l0 kq a0 x3_1 = some r) ∧ Aside0 (kq ≤ k) ∧ Drawn0 w w')
  case atStart => exact ⟨(0), (by first | rfl | (simp; done) | (simp [*]; done)), H', ⟨Nat.le_refl _⟩, by repeat (first | exact Drawn0.refl _ | apply Drawn0.step)⟩
  case round =>
   clear H'
   obtain ⟨x3_1, rfl, HA, HK1, ⟨m1, rfl⟩⟩ := hrel
   cases gk with
   | zero => exact absurd HA.out (by simp [spec_l1NameOk.l0])
   | succ k1 =>
    have H := HA.out
    clear HA
    simp only [spec_l1NameOk.l0] at H
    by_cases c4 : x3_1 < (a0.size : Int)
    ·rw [if_pos c4] at H
     have c4b0 : decide (x3_1 < (a0.size : Int)) = true := decide_eq_true c4
     clear c4
     by_cases c5 : 0 ≤ x3_1
     ·rw [if_pos c5] at H
      have c5b0 : decide (0 ≤ x3_1) = true := decide_eq_true c5
      clear c5
      by_cases c7 : (bt a0 x3_1) ≥ 97
      ·rw [if_pos c7] at H
       have c7b0 : decide (97 ≤ (bt a0 x3_1)) = true := decide_eq_true c7
       clear c7
       by_cases c8 : (bt a0 x3_1) ≤ 122
       ·rw [if_pos c8] at H
        have c8b0 : decide ((bt a0 x3_1) ≤ 122) = true := decide_eq_true c8
        clear c8
        have H' := Aside0.mk H
        clear H
        have p6 : 0 ≤ (x3_1 : Int) := oda
        have q6 : x3_1 < (a0.size : Int) := oda
        have hx6 := bt_at a0 x3_1
        replace p6 := eq_true p6
        replace q6 := eq_true q6
        go_wp2
        go_roundg k1
        case measure => have := HK1.out; omega
        case rel => exact ⟨(wrap64 (x3_1 + 1)), (by first | rfl | (simp; done) | (simp [*]; done)), H', ⟨by have := HK1.out; omega⟩, by repeat (first | exact Drawn0.refl _ | apply Drawn0.step)⟩
       ·rw [if_neg c8] at H
        have c8b0 : decide ((bt a0 x3_1) ≤ 122) = false := decide_eq_false c8
        clear c8
        by_cases c9 : (bt a0 x3_1) ≥ 48
        ·rw [if_pos c9] at H
         have c9b0 : decide (48 ≤ (bt a0 x3_1)) = true := decide_eq_true c9
         clear c9
         by_cases c10 : (bt a0 x3_1) ≤ 57
         ·rw [if_pos c10] at H
          have c10b0 : decide ((bt a0 x3_1) ≤ 57) = true := decide_eq_true c10
          clear c10
          have H' := Aside0.mk H
          clear H
          have p6 : 0 ≤ (x3_1 : Int) := oda
          have q6 : x3_1 < (a0.size : Int) := oda
          have hx6 := bt_at a0 x3_1
          replace p6 := eq_true p6
          replace q6 := eq_true q6
          go_wp2
          go_roundg k1
          case measure => have := HK1.out; omega
          case rel => exact ⟨(wrap64 (x3_1 + 1)), (by first | rfl | (simp; done) | (simp [*]; done)), H', ⟨by have := HK1.out; omega⟩, by repeat (first | exact Drawn0.refl _ | apply Drawn0.step)⟩
         ·rw [if_neg c10] at H
          have c10b0 : decide ((bt a0 x3_1) ≤ 57) = false := decide_eq_false c10
          clear c10
          by_cases c11 : ((bt a0 x3_1) = 45)
          ·rw [if_pos c11] at H
           have c11b0 : ((bt a0 x3_1) == 45) = true := beq_iff_eq.mpr c11
           have c11b1 : ((bt a0 x3_1) != 45) = false := bne_eq_false_iff_eq.mpr c11
           clear c11
           have H' := Aside0.mk H
           clear H
           have p6 : 0 ≤ (x3_1 : Int) := oda
           have q6 : x3_1 < (a0.size : Int) := oda
           have hx6 := bt_at a0 x3_1
           replace p6 := eq_true p6
           replace q6 := eq_true q6
           go_wp2
           go_roundg k1
           case measure => have := HK1.out; omega
           case rel => exact ⟨(wrap64 (x3_1 + 1)), (by first | rfl | (simp; done) | (simp [*]; done)), H', ⟨by have := HK1.out; omega⟩, by repeat (first | exact Drawn0.refl _ | apply Drawn0.step)⟩
          ·rw [if_neg c11] at H
           have c11b0 : ((bt a0 x3_1) == 45) = false := beq_eq_false_iff_ne.mpr c11
           have c11b1 : ((bt a0 x3_1) != 45) = true := bne_iff_ne.mpr c11
           obtain rfl := Option.some.inj H
           have p6 : 0 ≤ (x3_1 : Int) := oda
           have q6 : x3_1 < (a0.size : Int) := oda
           have hx6 := bt_at a0 x3_1
           replace p6 := eq_true p6
           replace q6 := eq_true q6
           go_wp2
           go_ret
           exact ⟨by first | rfl | (simp; done) | (simp [*]; done), by repeat (first | exact Drawn0.refl _ | apply Drawn0.step)⟩
        ·rw [if_neg c9] at H
         have c9b0 : decide (48 ≤ (bt a0 x3_1)) = false := decide_eq_false c9
         clear c9
         by_cases c12 : ((bt a0 x3_1) = 45)
         ·rw [if_pos c12] at H
          have c12b0 : ((bt a0 x3_1) == 45) = true := beq_iff_eq.mpr c12
          have c12b1 : ((bt a0 x3_1) != 45) = false := bne_eq_false_iff_eq.mpr c12
          clear c12
          have H' := Aside0.mk H
          clear H
          have p6 : 0 ≤ (x3_1 : Int) := oda
          have q6 : x3_1 < (a0.size : Int) := oda
          have hx6 := bt_at a0 x3_1
          replace p6 := eq_true p6
          replace q6 := eq_true q6
          go_wp2
          go_roundg k1
          case measure => have := HK1.out; omega
          case rel => exact ⟨(wrap64 (x3_1 + 1)), (by first | rfl | (simp; done) | (simp [*]; done)), H', ⟨by have := HK1.out; omega⟩, by repeat (first | exact Drawn0.refl _ | apply Drawn0.step)⟩
         ·rw [if_neg c12] at H
          have c12b0 : ((bt a0 x3_1) == 45) = false := beq_eq_false_iff_ne.mpr c12
          have c12b1 : ((bt a0 x3_1) != 45) = true := bne_iff_ne.mpr c12
          obtain rfl := Option.some.inj H
          have p6 : 0 ≤ (x3_1 : Int) := oda
          have q6 : x3_1 < (a0.size : Int) := oda
          have hx6 := bt_at a0 x3_1
          replace p6 := eq_true p6
          replace q6 := eq_true q6
          go_wp2
          go_ret
          exact ⟨by first | rfl | (simp; done) | (simp [*]; done), by repeat (first | exact Drawn0.refl _ | apply Drawn0.step)⟩
      ·rw [if_neg c7] at H
       have c7b0 : decide (97 ≤ (bt a0 x3_1)) = false := decide_eq_false c7
       clear c7
       by_cases c13 : (bt a0 x3_1) ≥ 48
       ·rw [if_pos c13] at H
        have c13b0 : decide (48 ≤ (bt a0 x3_1)) = true := decide_eq_true c13
        clear c13
        by_cases c14 : (bt a0 x3_1) ≤ 57
        ·rw [if_pos c14] at H
         have c14b0 : decide ((bt a0 x3_1) ≤ 57) = true := decide_eq_true c14
         clear c14
         have H' := Aside0.mk H
         clear H
         have p6 : 0 ≤ (x3_1 : Int) := oda
         have q6 : x3_1 < (a0.size : Int) := oda
         have hx6 := bt_at a0 x3_1
         replace p6 := eq_true p6
         replace q6 := eq_true q6
         go_wp2
         go_roundg k1
         case measure => have := HK1.out; omega
         case rel => exact ⟨(wrap64 (x3_1 + 1)), (by first | rfl | (simp; done) | (simp [*]; done)), H', ⟨by have := HK1.out; omega⟩, by repeat (first | exact Drawn0.refl _ | apply Drawn0.step)⟩
        ·rw [if_neg c14] at H
         have c14b0 : decide ((bt a0 x3_1) ≤ 57) = false := decide_eq_false c14
         clear c14
         by_cases c15 : ((bt a0 x3_1) = 45)
         ·rw [if_pos c15] at H
          have c15b0 : ((bt a0 x3_1) == 45) = true := beq_iff_eq.mpr c15
          have c15b1 : ((bt a0 x3_1) != 45) = false := bne_eq_false_iff_eq.mpr c15
          clear c15
          have H' := Aside0.mk H
          clear H
          have p6 : 0 ≤ (x3_1 : Int) := oda
          have q6 : x3_1 < (a0.size : Int) := oda
          have hx6 := bt_at a0 x3_1
          replace p6 := eq_true p6
          replace q6 := eq_true q6
          go_wp2
          go_roundg k1
          case measure => have := HK1.out; omega
          case rel => exact ⟨(wrap64 (x3_1 + 1)), (by first | rfl | (simp; done) | (simp [*]; done)), H', ⟨by have := HK1.out; omega⟩, by repeat (first | exact Drawn0.refl _ | apply Drawn0.step)⟩
         ·rw [if_neg c15] at H
          have c15b0 : ((bt a0 x3_1) == 45) = false := beq_eq_false_iff_ne.mpr c15
          have c15b1 : ((bt a0 x3_1) != 45) = true := bne_iff_ne.mpr c15
          obtain rfl := Option.some.inj H
          have p6 : 0 ≤ (x3_1 : Int) := oda
          have q6 : x3_1 < (a0.size : Int) := oda
          have hx6 := bt_at a0 x3_1
          replace p6 := eq_true p6
          replace q6 := eq_true q6
          go_wp2
          go_ret
          exact ⟨by first | rfl | (simp; done) | (simp [*]; done), by repeat (first | exact Drawn0.refl _ | apply Drawn0.step)⟩
       ·rw [if_neg c13] at H
        have c13b0 : decide (48 ≤ (bt a0 x3_1)) = false := decide_eq_false c13
        clear c13
        by_cases c16 : ((bt a0 x3_1) = 45)
        ·rw [if_pos c16] at H
         have c16b0 : ((bt a0 x3_1) == 45) = true := beq_iff_eq.mpr c16
         have c16b1 : ((bt a0 x3_1) != 45) = false := bne_eq_false_iff_eq.mpr c16
         clear c16
         have H' := Aside0.mk H
         clear H
         have p6 : 0 ≤ (x3_1 : Int) := oda
         have q6 : x3_1 < (a0.size : Int) := oda
         have hx6 := bt_at a0 x3_1
         replace p6 := eq_true p6
         replace q6 := eq_true q6
         go_wp2
         go_roundg k1
         case measure => have := HK1.out; omega
         case rel => exact ⟨(wrap64 (x3_1 + 1)), (by first | rfl | (simp; done) | (simp [*]; done)), H', ⟨by have := HK1.out; omega⟩, by repeat (first | exact Drawn0.refl _ | apply Drawn0.step)⟩
        ·rw [if_neg c16] at H
         have c16b0 : ((bt a0 x3_1) == 45) = false := beq_eq_false_iff_ne.mpr c16
         have c16b1 : ((bt a0 x3_1) != 45) = true := bne_iff_ne.mpr c16
         obtain rfl := Option.some.inj H
         have p6 : 0 ≤ (x3_1 : Int) := oda
         have q6 : x3_1 < (a0.size : Int) := oda
         have hx6 := bt_at a0 x3_1
         replace p6 := eq_true p6
         replace q6 := eq_true q6
         go_wp2
         go_ret
         exact ⟨by first | rfl | (simp; done) | (simp [*]; done), by repeat (first | exact Drawn0.refl _ | apply Drawn0.step)⟩
     ·rw [if_neg c5] at H
      exact absurd H (by simp)
    ·rw [if_neg c4] at H
     have c4b0 : decide (x3_1 < (a0.size : Int)) = false := decide_eq_false c4
     clear c4
     obtain rfl := Option.some.inj H
     go_wp2
     go_ret
     exact ⟨by first | rfl | (simp; done) | (simp [*]; done), by repeat (first | exact Drawn0.refl _ | apply Drawn0.step)⟩
 ·replace c3 := Bool.eq_false_iff.mpr c3
  subst c3
  rw [if_neg (show ¬ (false = true) by decide)] at H
  obtain rfl := Option.some.inj H
  go_enter Try.func77, Try.ntmps77
  go_wp2_with (first | ((with_reducible refine gate_callee (f := 67) rfl ?_); refine goesL_ (some 7) rfl rfl Try.func67 (by kernel_rfl) rfl #[.int .i64 (a0.size : Int), .int .i64 1, .int .i64 8] rfl mxp ?_; (with_reducible refine (spec_l1In.calls (a0.size : Int) 1 8 false _ A2.out).mono ?_); rintro e w' ⟨rfl, ⟨nd, rfl⟩⟩; refine ⟨_, rfl, ?_⟩))
  go_ret
  exact ⟨by first | rfl | (simp; done) | (simp [*]; done), by repeat (first | exact Drawn0.refl _ | apply Drawn0.step)⟩


/-! ### spec_RecEnd: function 18 -/
def spec_RecEnd.f (a0 : ByteArray) : Option (Int) := if a0.toList = ([103, 111, 111, 100] : List UInt8) then (some 1) else (if a0.toList = ([115, 97, 118, 101, 100] : List UInt8) then (some 2) else (if a0.toList = ([115, 99, 114, 97, 112, 112, 101, 100] : List UInt8) then (some 3) else (some 0)))
set_option maxHeartbeats 8000000 in
set_option maxRecDepth 100000 in
theorem spec_RecEnd.calls (a0 : ByteArray) (r : Int) (w : World) (h : spec_RecEnd.f a0 = some r) :
  Calls Try.prog 18 #[.string a0] w fun e w' => e = .returned (.int .i64 r) ∧ Drawn0 w w' := by
 have H : (if a0.toList = ([103, 111, 111, 100] : List UInt8) then (some 1) else (if a0.toList = ([115, 97, 118, 101, 100] : List UInt8) then (some 2) else (if a0.toList = ([115, 99, 114, 97, 112, 112, 101, 100] : List UInt8) then (some 3) else (some 0)))) = some r := h
 clear h
 by_cases c2 : a0.toList = ([103, 111, 111, 100] : List UInt8)
 ·rw [if_pos c2] at H
  have c2b0 : (a0.toList == ([103, 111, 111, 100] : List UInt8)) = true := beq_iff_eq.mpr c2
  have c2b1 : (a0.toList != ([103, 111, 111, 100] : List UInt8)) = false := bne_eq_false_iff_eq.mpr c2
  clear c2
  obtain rfl := Option.some.inj H
  go_enter Try.func18, Try.ntmps18
  go_wp2
  go_ret
  exact ⟨by first | rfl | (simp; done) | (simp [*]; done), by repeat (first | exact Drawn0.refl _ | apply Drawn0.step)⟩
 ·rw [if_neg c2] at H
  have c2b0 : (a0.toList == ([103, 111, 111, 100] : List UInt8)) = false := beq_eq_false_iff_ne.mpr c2
  have c2b1 : (a0.toList != ([103, 111, 111, 100] : List UInt8)) = true := bne_iff_ne.mpr c2
  by_cases c3 : a0.toList = ([115, 97, 118, 101, 100] : List UInt8)
  ·rw [if_pos c3] at H
   have c3b0 : (a0.toList == ([115, 97, 118, 101, 100] : List UInt8)) = true := beq_iff_eq.mpr c3
   have c3b1 : (a0.toList != ([115, 97, 118, 101, 100] : List UInt8)) = false := bne_eq_false_iff_eq.mpr c3
   clear c3
   obtain rfl := Option.some.inj H
   go_enter Try.func18, Try.ntmps18
   go_wp2
   go_ret
   exact ⟨by first | rfl | (simp; done) | (simp [*]; done), by repeat (first | exact Drawn0.refl _ | apply Drawn0.step)⟩
  ·rw [if_neg c3] at H
   have c3b0 : (a0.toList == ([115, 97, 118, 101, 100] : List UInt8)) = false := beq_eq_false_iff_ne.mpr c3
   have c3b1 : (a0.toList != ([115, 97, 118, 101, 100] : List UInt8)) = true := bne_iff_ne.mpr c3
   by_cases c4 : a0.toList = ([115, 99, 114, 97, 112, 112, 101, 100] : List UInt8)
   ·rw [if_pos c4] at H
    have c4b0 : (a0.toList == ([115, 99, 114, 97, 112, 112, 101, 100] : List UInt8)) = true := beq_iff_eq.mpr c4
    have c4b1 : (a0.toList != ([115, 99, 114, 97, 112, 112, 101, 100] : List UInt8)) = false := bne_eq_false_iff_eq.mpr c4
    clear c4
    obtain rfl := Option.some.inj H
    go_enter Try.func18, Try.ntmps18
    go_wp2
    go_ret
    exact ⟨by first | rfl | (simp; done) | (simp [*]; done), by repeat (first | exact Drawn0.refl _ | apply Drawn0.step)⟩
   ·rw [if_neg c4] at H
    have c4b0 : (a0.toList == ([115, 99, 114, 97, 112, 112, 101, 100] : List UInt8)) = false := beq_eq_false_iff_ne.mpr c4
    have c4b1 : (a0.toList != ([115, 99, 114, 97, 112, 112, 101, 100] : List UInt8)) = true := bne_iff_ne.mpr c4
    obtain rfl := Option.some.inj H
    go_enter Try.func18, Try.ntmps18
    go_wp2
    go_ret
    exact ⟨by first | rfl | (simp; done) | (simp [*]; done), by repeat (first | exact Drawn0.refl _ | apply Drawn0.step)⟩


/-! ### spec_l1PlainOk: function 75 -/
def spec_l1PlainOk.f (k : Nat) (a0 : ByteArray) : Option (Bool) := (spec_l1NameOk.f k a0).bind fun t114 => (if t114 = true then ((spec_RecEnd.f a0).bind fun t115 => (some (t115 == 0))) else (some false))
theorem spec_l1PlainOk.mono : ∀ a0 k, LeO (spec_l1PlainOk.f k a0) (spec_l1PlainOk.f (k + 1) a0) := by
 intro a0 k
 unfold spec_l1PlainOk.f
 repeat' first
   | (with_reducible exact spec_l1NameOk.mono _ _)
   | (with_reducible exact LeO.refl _)
   | (with_reducible exact LeO.none _)
   | (with_reducible refine LeO.ite ?_ ?_)
   | (with_reducible refine LeO.bind ?_ (fun _ => ?_))
   | exact spec_l1NameOk.mono _ _
   | exact LeO.none _
   | refine LeO.ite ?_ ?_
   | refine LeO.bind ?_ (fun _ => ?_)
set_option maxHeartbeats 8000000 in
set_option maxRecDepth 100000 in
theorem spec_l1PlainOk.calls (k : Nat) (a0 : ByteArray) (r : Bool) (w : World) (h : spec_l1PlainOk.f k a0 = some r) :
  Calls Try.prog 75 #[.string a0] w fun e w' => e = .returned (.bool r) ∧ Drawn0 w w' := by
 have H : ((spec_l1NameOk.f k a0).bind fun t114 => (if t114 = true then ((spec_RecEnd.f a0).bind fun t115 => (some (t115 == 0))) else (some false))) = some r := h
 clear h
 replace H := Option.bind_eq_some_iff.mp H
 obtain ⟨t114, A20, H⟩ := H
 try dsimp only at H
 have A2 := Aside0.mk A20
 clear A20
 by_cases c3 : t114 = true
 ·subst c3
  rw [if_pos rfl] at H
  replace H := Option.bind_eq_some_iff.mp H
  obtain ⟨t115, A40, H⟩ := H
  try dsimp only at H
  have A4 := Aside0.mk A40
  clear A40
  obtain rfl := Option.some.inj H
  go_enter Try.func75, Try.ntmps75
  go_wp2_with (first | ((with_reducible refine gate_callee (f := 77) rfl ?_); refine goesL_ (some 4) rfl rfl Try.func77 (by kernel_rfl) rfl #[.string a0] rfl mxp ?_; (with_reducible refine (spec_l1NameOk.calls k a0 true _ A2.out).mono ?_); rintro e w' ⟨rfl, ⟨nd, rfl⟩⟩; refine ⟨_, rfl, ?_⟩) | (go_at_call 18; (with_reducible refine (spec_RecEnd.calls a0 t115 _ A4.out).mono ?_); rintro e w' ⟨rfl, ⟨nd, rfl⟩⟩))
  go_ret
  exact ⟨by first | rfl | (simp; done) | (simp [*]; done), by repeat (first | exact Drawn0.refl _ | apply Drawn0.step)⟩
 ·replace c3 := Bool.eq_false_iff.mpr c3
  subst c3
  rw [if_neg (show ¬ (false = true) by decide)] at H
  obtain rfl := Option.some.inj H
  go_enter Try.func75, Try.ntmps75
  go_wp2_with (first | ((with_reducible refine gate_callee (f := 77) rfl ?_); refine goesL_ (some 4) rfl rfl Try.func77 (by kernel_rfl) rfl #[.string a0] rfl mxp ?_; (with_reducible refine (spec_l1NameOk.calls k a0 false _ A2.out).mono ?_); rintro e w' ⟨rfl, ⟨nd, rfl⟩⟩; refine ⟨_, rfl, ?_⟩))
  go_ret
  exact ⟨by first | rfl | (simp; done) | (simp [*]; done), by repeat (first | exact Drawn0.refl _ | apply Drawn0.step)⟩


/-! ### spec_l1ArgsOk: function 76 -/
def spec_l1ArgsOk.f (k : Nat) (a0_0 : ByteArray) (a0_1 : Int) (a0_2 : ByteArray) (a0_3 : ByteArray) (a0_4 : Int) (a0_5 : Int) (a0_6 : ByteArray) (a0_7 : ByteArray) : Option (Bool) := if a0_1 = 1 then ((spec_l1NameOk.f k a0_2).bind fun t117 => (if t117 = true then ((spec_l1NameOk.f k a0_3).bind fun t118 => (if t118 = true then ((spec_l1In.f a0_4 1 1000).bind fun t119 => (some t119)) else (some false))) else (some false))) else (if a0_1 = 2 then ((spec_l1NameOk.f k a0_2).bind fun t120 => (if t120 = true then ((spec_l1NameOk.f k a0_3).bind fun t121 => (if t121 = true then (if a0_2.toList = a0_3.toList then (some false) else ((spec_l1In.f a0_4 1 1000).bind fun t122 => (some t122))) else (some false))) else (some false))) else (if a0_1 = 3 then ((spec_l1NameOk.f k a0_2).bind fun t123 => (if t123 = true then (if a0_3.toList = ([] : List UInt8) then ((spec_l1In.f a0_4 1 a0_5).bind fun t124 => (some t124)) else (some false)) else (some false))) else (if a0_1 = 4 then ((spec_l1NameOk.f k a0_2).bind fun t125 => (if t125 = true then (if a0_3.toList = ([] : List UInt8) then (some (a0_4 == 0)) else (some false)) else (some false))) else (if a0_1 = 5 then ((spec_l1NameOk.f k a0_2).bind fun t126 => (if t126 = true then (if a0_3.toList = ([] : List UInt8) then (some (a0_4 == 0)) else (some false)) else (some false))) else (some false)))))
theorem spec_l1ArgsOk.mono : ∀ a0 a1 a2 a3 a4 a5 a6 a7 k, LeO (spec_l1ArgsOk.f k a0 a1 a2 a3 a4 a5 a6 a7) (spec_l1ArgsOk.f (k + 1) a0 a1 a2 a3 a4 a5 a6 a7) := by
 intro a0 a1 a2 a3 a4 a5 a6 a7 k
 unfold spec_l1ArgsOk.f
 repeat' first
   | (with_reducible exact spec_l1NameOk.mono _ _)
   | (with_reducible exact LeO.refl _)
   | (with_reducible exact LeO.none _)
   | (with_reducible refine LeO.ite ?_ ?_)
   | (with_reducible refine LeO.bind ?_ (fun _ => ?_))
   | exact spec_l1NameOk.mono _ _
   | exact LeO.none _
   | refine LeO.ite ?_ ?_
   | refine LeO.bind ?_ (fun _ => ?_)

/-! ### spec_RecPhaseOk: function 32 -/
def spec_RecPhaseOk.f (k : Nat) (a0_0 : ByteArray) (a0_1 : Int) (a0_2 : ByteArray) (a0_3 : ByteArray) (a0_4 : Int) (a0_5 : Int) (a0_6 : ByteArray) (a0_7 : ByteArray) : Option (Bool) := (spec_l1PlainOk.f k a0_0).bind fun t128 => (if t128 = true then ((spec_l1In.f a0_5 1 1000).bind fun t129 => (if t129 = true then ((spec_l1ArgsOk.f k a0_0 a0_1 a0_2 a0_3 a0_4 a0_5 a0_6 a0_7).bind fun t130 => (if t130 = true then ((spec_l1NameOk.f k a0_6).bind fun t131 => (if t131 = true then ((spec_l1NameOk.f k a0_7).bind fun t132 => (some t132)) else (some false))) else (some false))) else (some false))) else (some false))
theorem spec_RecPhaseOk.mono : ∀ a0 a1 a2 a3 a4 a5 a6 a7 k, LeO (spec_RecPhaseOk.f k a0 a1 a2 a3 a4 a5 a6 a7) (spec_RecPhaseOk.f (k + 1) a0 a1 a2 a3 a4 a5 a6 a7) := by
 intro a0 a1 a2 a3 a4 a5 a6 a7 k
 unfold spec_RecPhaseOk.f
 repeat' first
   | (with_reducible exact spec_l1ArgsOk.mono _ _ _ _ _ _ _ _ _)
   | (with_reducible exact spec_l1NameOk.mono _ _)
   | (with_reducible exact spec_l1PlainOk.mono _ _)
   | (with_reducible exact LeO.refl _)
   | (with_reducible exact LeO.none _)
   | (with_reducible refine LeO.ite ?_ ?_)
   | (with_reducible refine LeO.bind ?_ (fun _ => ?_))
   | exact spec_l1ArgsOk.mono _ _ _ _ _ _ _ _ _
   | exact spec_l1NameOk.mono _ _
   | exact spec_l1PlainOk.mono _ _
   | exact LeO.none _
   | refine LeO.ite ?_ ?_
   | refine LeO.bind ?_ (fun _ => ?_)

/-! ### impl_in: function 68 -/
def impl_in.f (a0 : Int) (a1 : Int) (a2 : Int) : Option (Bool) := if a0 ≥ a1 then (some (decide (a0 ≤ a2))) else (some false)
set_option maxHeartbeats 8000000 in
set_option maxRecDepth 100000 in
theorem impl_in.calls (a0 : Int) (a1 : Int) (a2 : Int) (r : Bool) (w : World) (h : impl_in.f a0 a1 a2 = some r) :
  Calls Try.prog 68 #[.int .i64 a0, .int .i64 a1, .int .i64 a2] w fun e w' => e = .returned (.bool r) ∧ Drawn0 w w' := by
 have H : (if a0 ≥ a1 then (some (decide (a0 ≤ a2))) else (some false)) = some r := h
 clear h
 by_cases c4 : a0 ≥ a1
 ·rw [if_pos c4] at H
  have c4b0 : decide (a1 ≤ a0) = true := decide_eq_true c4
  clear c4
  obtain rfl := Option.some.inj H
  go_enter Try.func68, Try.ntmps68
  go_wp2
  go_ret
  exact ⟨by first | rfl | (simp; done) | (simp [*]; done), by repeat (first | exact Drawn0.refl _ | apply Drawn0.step)⟩
 ·rw [if_neg c4] at H
  have c4b0 : decide (a1 ≤ a0) = false := decide_eq_false c4
  clear c4
  obtain rfl := Option.some.inj H
  go_enter Try.func68, Try.ntmps68
  go_wp2
  go_ret
  exact ⟨by first | rfl | (simp; done) | (simp [*]; done), by repeat (first | exact Drawn0.refl _ | apply Drawn0.step)⟩


/-! ### impl_name: function 78 -/
def impl_name.l0 : Nat → ByteArray → Int → Option (Bool)
 | 0, _, _ => none
 | k + 1, x0, x3 => if x3 < (x0.size : Int) then (if 0 ≤ x3 then (if (bt x0 x3) ≥ 97 then (if (bt x0 x3) ≤ 122 then (impl_name.l0 k x0 (wrap64 (x3 + 1))) else (if (bt x0 x3) ≥ 48 then (if (bt x0 x3) ≤ 57 then (impl_name.l0 k x0 (wrap64 (x3 + 1))) else (if ((bt x0 x3) = 45) then (impl_name.l0 k x0 (wrap64 (x3 + 1))) else (some false))) else (if ((bt x0 x3) = 45) then (impl_name.l0 k x0 (wrap64 (x3 + 1))) else (some false)))) else (if (bt x0 x3) ≥ 48 then (if (bt x0 x3) ≤ 57 then (impl_name.l0 k x0 (wrap64 (x3 + 1))) else (if ((bt x0 x3) = 45) then (impl_name.l0 k x0 (wrap64 (x3 + 1))) else (some false))) else (if ((bt x0 x3) = 45) then (impl_name.l0 k x0 (wrap64 (x3 + 1))) else (some false)))) else (none)) else (some true)
def impl_name.f (k : Nat) (a0 : ByteArray) : Option (Bool) := (impl_in.f (a0.size : Int) 1 8).bind fun t136 => (if t136 = true then (impl_name.l0 k a0 0) else (some false))
theorem impl_name.mono_l : ∀ k, (∀ y0 y1, LeO (impl_name.l0 k y0 y1) (impl_name.l0 (k + 1) y0 y1))
 | 0 => fun _ _ r h => by simp [impl_name.l0] at h
 | k + 1 => by
  have ih0 := impl_name.mono_l k
  ·intro y0 y1
   unfold impl_name.l0
   repeat' first
   | (with_reducible exact ih0 _ _)
   | (with_reducible exact LeO.refl _)
   | (with_reducible exact LeO.none _)
   | (with_reducible refine LeO.ite ?_ ?_)
   | (with_reducible refine LeO.bind ?_ (fun _ => ?_))
   | exact ih0 _ _
   | exact LeO.none _
   | refine LeO.ite ?_ ?_
   | refine LeO.bind ?_ (fun _ => ?_)
theorem impl_name.mono : ∀ a0 k, LeO (impl_name.f k a0) (impl_name.f (k + 1) a0) := by
 intro a0 k
 have ih0 := impl_name.mono_l k
 unfold impl_name.f
 repeat' first
   | (with_reducible exact ih0 _ _)
   | (with_reducible exact LeO.refl _)
   | (with_reducible exact LeO.none _)
   | (with_reducible refine LeO.ite ?_ ?_)
   | (with_reducible refine LeO.bind ?_ (fun _ => ?_))
   | exact ih0 _ _
   | exact LeO.none _
   | refine LeO.ite ?_ ?_
   | refine LeO.bind ?_ (fun _ => ?_)
set_option maxHeartbeats 8000000 in
set_option maxRecDepth 100000 in
theorem impl_name.calls (k : Nat) (a0 : ByteArray) (r : Bool) (w : World) (h : impl_name.f k a0 = some r) :
  Calls Try.prog 78 #[.string a0] w fun e w' => e = .returned (.bool r) ∧ Drawn0 w w' := by
 have H : ((impl_in.f (a0.size : Int) 1 8).bind fun t136 => (if t136 = true then (impl_name.l0 k a0 0) else (some false))) = some r := h
 clear h
 replace H := Option.bind_eq_some_iff.mp H
 obtain ⟨t136, A20, H⟩ := H
 try dsimp only at H
 have A2 := Aside0.mk A20
 clear A20
 by_cases c3 : t136 = true
 ·subst c3
  rw [if_pos rfl] at H
  have H' := Aside0.mk H
  clear H
  go_enter Try.func78, Try.ntmps78
  go_wp2_with (first | ((with_reducible refine gate_callee (f := 68) rfl ?_); refine goesL_ (some 7) rfl rfl Try.func68 (by kernel_rfl) rfl #[.int .i64 (a0.size : Int), .int .i64 1, .int .i64 8] rfl mxp ?_; (with_reducible refine (impl_in.calls (a0.size : Int) 1 8 true _ A2.out).mono ?_); rintro e w' ⟨rfl, ⟨nd, rfl⟩⟩; refine ⟨_, rfl, ?_⟩))
  go_loopg [3] k (fun kq v3 w' => ∃ (x3_1 : Int), v3 = .int .i64 x3_1 ∧ Aside0 (impl_name.l0 kq a0 x3_1 = some r) ∧ Aside0 (kq ≤ k) ∧ Drawn0 w w')
  case atStart => exact ⟨(0), (by first | rfl | (simp; done) | (simp [*]; done)), H', ⟨Nat.le_refl _⟩, by repeat (first | exact Drawn0.refl _ | apply Drawn0.step)⟩
  case round =>
   clear H'
   obtain ⟨x3_1, rfl, HA, HK1, ⟨m1, rfl⟩⟩ := hrel
   cases gk with
   | zero => exact absurd HA.out (by simp [impl_name.l0])
   | succ k1 =>
    have H := HA.out
    clear HA
    simp only [impl_name.l0] at H
    by_cases c4 : x3_1 < (a0.size : Int)
    ·rw [if_pos c4] at H
     have c4b0 : decide (x3_1 < (a0.size : Int)) = true := decide_eq_true c4
     clear c4
     by_cases c5 : 0 ≤ x3_1
     ·rw [if_pos c5] at H
      have c5b0 : decide (0 ≤ x3_1) = true := decide_eq_true c5
      clear c5
      by_cases c7 : (bt a0 x3_1) ≥ 97
      ·rw [if_pos c7] at H
       have c7b0 : decide (97 ≤ (bt a0 x3_1)) = true := decide_eq_true c7
       clear c7
       by_cases c8 : (bt a0 x3_1) ≤ 122
       ·rw [if_pos c8] at H
        have c8b0 : decide ((bt a0 x3_1) ≤ 122) = true := decide_eq_true c8
        clear c8
        have H' := Aside0.mk H
        clear H
        have p6 : 0 ≤ (x3_1 : Int) := oda
        have q6 : x3_1 < (a0.size : Int) := oda
        have hx6 := bt_at a0 x3_1
        replace p6 := eq_true p6
        replace q6 := eq_true q6
        go_wp2
        go_roundg k1
        case measure => have := HK1.out; omega
        case rel => exact ⟨(wrap64 (x3_1 + 1)), (by first | rfl | (simp; done) | (simp [*]; done)), H', ⟨by have := HK1.out; omega⟩, by repeat (first | exact Drawn0.refl _ | apply Drawn0.step)⟩
       ·rw [if_neg c8] at H
        have c8b0 : decide ((bt a0 x3_1) ≤ 122) = false := decide_eq_false c8
        clear c8
        by_cases c9 : (bt a0 x3_1) ≥ 48
        ·rw [if_pos c9] at H
         have c9b0 : decide (48 ≤ (bt a0 x3_1)) = true := decide_eq_true c9
         clear c9
         by_cases c10 : (bt a0 x3_1) ≤ 57
         ·rw [if_pos c10] at H
          have c10b0 : decide ((bt a0 x3_1) ≤ 57) = true := decide_eq_true c10
          clear c10
          have H' := Aside0.mk H
          clear H
          have p6 : 0 ≤ (x3_1 : Int) := oda
          have q6 : x3_1 < (a0.size : Int) := oda
          have hx6 := bt_at a0 x3_1
          replace p6 := eq_true p6
          replace q6 := eq_true q6
          go_wp2
          go_roundg k1
          case measure => have := HK1.out; omega
          case rel => exact ⟨(wrap64 (x3_1 + 1)), (by first | rfl | (simp; done) | (simp [*]; done)), H', ⟨by have := HK1.out; omega⟩, by repeat (first | exact Drawn0.refl _ | apply Drawn0.step)⟩
         ·rw [if_neg c10] at H
          have c10b0 : decide ((bt a0 x3_1) ≤ 57) = false := decide_eq_false c10
          clear c10
          by_cases c11 : ((bt a0 x3_1) = 45)
          ·rw [if_pos c11] at H
           have c11b0 : ((bt a0 x3_1) == 45) = true := beq_iff_eq.mpr c11
           have c11b1 : ((bt a0 x3_1) != 45) = false := bne_eq_false_iff_eq.mpr c11
           clear c11
           have H' := Aside0.mk H
           clear H
           have p6 : 0 ≤ (x3_1 : Int) := oda
           have q6 : x3_1 < (a0.size : Int) := oda
           have hx6 := bt_at a0 x3_1
           replace p6 := eq_true p6
           replace q6 := eq_true q6
           go_wp2
           go_roundg k1
           case measure => have := HK1.out; omega
           case rel => exact ⟨(wrap64 (x3_1 + 1)), (by first | rfl | (simp; done) | (simp [*]; done)), H', ⟨by have := HK1.out; omega⟩, by repeat (first | exact Drawn0.refl _ | apply Drawn0.step)⟩
          ·rw [if_neg c11] at H
           have c11b0 : ((bt a0 x3_1) == 45) = false := beq_eq_false_iff_ne.mpr c11
           have c11b1 : ((bt a0 x3_1) != 45) = true := bne_iff_ne.mpr c11
           obtain rfl := Option.some.inj H
           have p6 : 0 ≤ (x3_1 : Int) := oda
           have q6 : x3_1 < (a0.size : Int) := oda
           have hx6 := bt_at a0 x3_1
           replace p6 := eq_true p6
           replace q6 := eq_true q6
           go_wp2
           go_ret
           exact ⟨by first | rfl | (simp; done) | (simp [*]; done), by repeat (first | exact Drawn0.refl _ | apply Drawn0.step)⟩
        ·rw [if_neg c9] at H
         have c9b0 : decide (48 ≤ (bt a0 x3_1)) = false := decide_eq_false c9
         clear c9
         by_cases c12 : ((bt a0 x3_1) = 45)
         ·rw [if_pos c12] at H
          have c12b0 : ((bt a0 x3_1) == 45) = true := beq_iff_eq.mpr c12
          have c12b1 : ((bt a0 x3_1) != 45) = false := bne_eq_false_iff_eq.mpr c12
          clear c12
          have H' := Aside0.mk H
          clear H
          have p6 : 0 ≤ (x3_1 : Int) := oda
          have q6 : x3_1 < (a0.size : Int) := oda
          have hx6 := bt_at a0 x3_1
          replace p6 := eq_true p6
          replace q6 := eq_true q6
          go_wp2
          go_roundg k1
          case measure => have := HK1.out; omega
          case rel => exact ⟨(wrap64 (x3_1 + 1)), (by first | rfl | (simp; done) | (simp [*]; done)), H', ⟨by have := HK1.out; omega⟩, by repeat (first | exact Drawn0.refl _ | apply Drawn0.step)⟩
         ·rw [if_neg c12] at H
          have c12b0 : ((bt a0 x3_1) == 45) = false := beq_eq_false_iff_ne.mpr c12
          have c12b1 : ((bt a0 x3_1) != 45) = true := bne_iff_ne.mpr c12
          obtain rfl := Option.some.inj H
          have p6 : 0 ≤ (x3_1 : Int) := oda
          have q6 : x3_1 < (a0.size : Int) := oda
          have hx6 := bt_at a0 x3_1
          replace p6 := eq_true p6
          replace q6 := eq_true q6
          go_wp2
          go_ret
          exact ⟨by first | rfl | (simp; done) | (simp [*]; done), by repeat (first | exact Drawn0.refl _ | apply Drawn0.step)⟩
      ·rw [if_neg c7] at H
       have c7b0 : decide (97 ≤ (bt a0 x3_1)) = false := decide_eq_false c7
       clear c7
       by_cases c13 : (bt a0 x3_1) ≥ 48
       ·rw [if_pos c13] at H
        have c13b0 : decide (48 ≤ (bt a0 x3_1)) = true := decide_eq_true c13
        clear c13
        by_cases c14 : (bt a0 x3_1) ≤ 57
        ·rw [if_pos c14] at H
         have c14b0 : decide ((bt a0 x3_1) ≤ 57) = true := decide_eq_true c14
         clear c14
         have H' := Aside0.mk H
         clear H
         have p6 : 0 ≤ (x3_1 : Int) := oda
         have q6 : x3_1 < (a0.size : Int) := oda
         have hx6 := bt_at a0 x3_1
         replace p6 := eq_true p6
         replace q6 := eq_true q6
         go_wp2
         go_roundg k1
         case measure => have := HK1.out; omega
         case rel => exact ⟨(wrap64 (x3_1 + 1)), (by first | rfl | (simp; done) | (simp [*]; done)), H', ⟨by have := HK1.out; omega⟩, by repeat (first | exact Drawn0.refl _ | apply Drawn0.step)⟩
        ·rw [if_neg c14] at H
         have c14b0 : decide ((bt a0 x3_1) ≤ 57) = false := decide_eq_false c14
         clear c14
         by_cases c15 : ((bt a0 x3_1) = 45)
         ·rw [if_pos c15] at H
          have c15b0 : ((bt a0 x3_1) == 45) = true := beq_iff_eq.mpr c15
          have c15b1 : ((bt a0 x3_1) != 45) = false := bne_eq_false_iff_eq.mpr c15
          clear c15
          have H' := Aside0.mk H
          clear H
          have p6 : 0 ≤ (x3_1 : Int) := oda
          have q6 : x3_1 < (a0.size : Int) := oda
          have hx6 := bt_at a0 x3_1
          replace p6 := eq_true p6
          replace q6 := eq_true q6
          go_wp2
          go_roundg k1
          case measure => have := HK1.out; omega
          case rel => exact ⟨(wrap64 (x3_1 + 1)), (by first | rfl | (simp; done) | (simp [*]; done)), H', ⟨by have := HK1.out; omega⟩, by repeat (first | exact Drawn0.refl _ | apply Drawn0.step)⟩
         ·rw [if_neg c15] at H
          have c15b0 : ((bt a0 x3_1) == 45) = false := beq_eq_false_iff_ne.mpr c15
          have c15b1 : ((bt a0 x3_1) != 45) = true := bne_iff_ne.mpr c15
          obtain rfl := Option.some.inj H
          have p6 : 0 ≤ (x3_1 : Int) := oda
          have q6 : x3_1 < (a0.size : Int) := oda
          have hx6 := bt_at a0 x3_1
          replace p6 := eq_true p6
          replace q6 := eq_true q6
          go_wp2
          go_ret
          exact ⟨by first | rfl | (simp; done) | (simp [*]; done), by repeat (first | exact Drawn0.refl _ | apply Drawn0.step)⟩
       ·rw [if_neg c13] at H
        have c13b0 : decide (48 ≤ (bt a0 x3_1)) = false := decide_eq_false c13
        clear c13
        by_cases c16 : ((bt a0 x3_1) = 45)
        ·rw [if_pos c16] at H
         have c16b0 : ((bt a0 x3_1) == 45) = true := beq_iff_eq.mpr c16
         have c16b1 : ((bt a0 x3_1) != 45) = false := bne_eq_false_iff_eq.mpr c16
         clear c16
         have H' := Aside0.mk H
         clear H
         have p6 : 0 ≤ (x3_1 : Int) := oda
         have q6 : x3_1 < (a0.size : Int) := oda
         have hx6 := bt_at a0 x3_1
         replace p6 := eq_true p6
         replace q6 := eq_true q6
         go_wp2
         go_roundg k1
         case measure => have := HK1.out; omega
         case rel => exact ⟨(wrap64 (x3_1 + 1)), (by first | rfl | (simp; done) | (simp [*]; done)), H', ⟨by have := HK1.out; omega⟩, by repeat (first | exact Drawn0.refl _ | apply Drawn0.step)⟩
        ·rw [if_neg c16] at H
         have c16b0 : ((bt a0 x3_1) == 45) = false := beq_eq_false_iff_ne.mpr c16
         have c16b1 : ((bt a0 x3_1) != 45) = true := bne_iff_ne.mpr c16
         obtain rfl := Option.some.inj H
         have p6 : 0 ≤ (x3_1 : Int) := oda
         have q6 : x3_1 < (a0.size : Int) := oda
         have hx6 := bt_at a0 x3_1
         replace p6 := eq_true p6
         replace q6 := eq_true q6
         go_wp2
         go_ret
         exact ⟨by first | rfl | (simp; done) | (simp [*]; done), by repeat (first | exact Drawn0.refl _ | apply Drawn0.step)⟩
     ·rw [if_neg c5] at H
      exact absurd H (by simp)
    ·rw [if_neg c4] at H
     have c4b0 : decide (x3_1 < (a0.size : Int)) = false := decide_eq_false c4
     clear c4
     obtain rfl := Option.some.inj H
     go_wp2
     go_ret
     exact ⟨by first | rfl | (simp; done) | (simp [*]; done), by repeat (first | exact Drawn0.refl _ | apply Drawn0.step)⟩
 ·replace c3 := Bool.eq_false_iff.mpr c3
  subst c3
  rw [if_neg (show ¬ (false = true) by decide)] at H
  obtain rfl := Option.some.inj H
  go_enter Try.func78, Try.ntmps78
  go_wp2_with (first | ((with_reducible refine gate_callee (f := 68) rfl ?_); refine goesL_ (some 7) rfl rfl Try.func68 (by kernel_rfl) rfl #[.int .i64 (a0.size : Int), .int .i64 1, .int .i64 8] rfl mxp ?_; (with_reducible refine (impl_in.calls (a0.size : Int) 1 8 false _ A2.out).mono ?_); rintro e w' ⟨rfl, ⟨nd, rfl⟩⟩; refine ⟨_, rfl, ?_⟩))
  go_ret
  exact ⟨by first | rfl | (simp; done) | (simp [*]; done), by repeat (first | exact Drawn0.refl _ | apply Drawn0.step)⟩


/-! ### impl_RecPhaseOk: function 34 -/
mutual
def impl_RecPhaseOk.j0 : Nat → Bool → ByteArray → Int → ByteArray → ByteArray → Int → Int → ByteArray → ByteArray → Option (Bool)
 | 0, _, _, _, _, _, _, _, _, _ => none
 | k + 1, x36, x138000, x138001, x138002, x138003, x138004, x138005, x138006, x138007 => if x36 = true then (some false) else (if x138001 = 1 then (impl_RecPhaseOk.j1 k x138001 (x138001 == 1) x138000 x138001 x138002 x138003 x138004 x138005 x138006 x138007) else (impl_RecPhaseOk.j1 k x138001 (x138001 == 2) x138000 x138001 x138002 x138003 x138004 x138005 x138006 x138007))
def impl_RecPhaseOk.j1 : Nat → Int → Bool → ByteArray → Int → ByteArray → ByteArray → Int → Int → ByteArray → ByteArray → Option (Bool)
 | 0, _, _, _, _, _, _, _, _, _, _ => none
 | k + 1, x38, x39, x138000, x138001, x138002, x138003, x138004, x138005, x138006, x138007 => if x39 = true then ((impl_name.f k x138003).bind fun t144 => (if t144 = true then ((impl_in.f x138004 1 1000).bind fun t145 => (if t145 = true then (if x138001 = 1 then (some true) else (some (x138002.toList != x138003.toList))) else (some false))) else (some false))) else (if x38 = 3 then (if x138003.toList = ([] : List UInt8) then ((impl_in.f x138004 1 x138005).bind fun t146 => (some t146)) else (some false)) else (if x38 = 4 then (if x138003.toList = ([] : List UInt8) then (some (x138004 == 0)) else (some false)) else (if x38 = 5 then (if x138003.toList = ([] : List UInt8) then (some (x138004 == 0)) else (some false)) else (some false))))
end
def impl_RecPhaseOk.f (k : Nat) (a0_0 : ByteArray) (a0_1 : Int) (a0_2 : ByteArray) (a0_3 : ByteArray) (a0_4 : Int) (a0_5 : Int) (a0_6 : ByteArray) (a0_7 : ByteArray) : Option (Bool) := (impl_name.f k a0_0).bind fun t138 => (if t138 = true then ((impl_RecEnd.f k a0_0).bind fun t139 => (if t139 > 0 then (impl_RecPhaseOk.j0 k true a0_0 a0_1 a0_2 a0_3 a0_4 a0_5 a0_6 a0_7) else ((impl_in.f a0_5 1 1000).bind fun t140 => (if t140 = true then ((impl_name.f k a0_2).bind fun t141 => (if t141 = true then ((impl_name.f k a0_6).bind fun t142 => (if t142 = true then ((impl_name.f k a0_7).bind fun t143 => (impl_RecPhaseOk.j0 k (!t143) a0_0 a0_1 a0_2 a0_3 a0_4 a0_5 a0_6 a0_7)) else (impl_RecPhaseOk.j0 k true a0_0 a0_1 a0_2 a0_3 a0_4 a0_5 a0_6 a0_7))) else (impl_RecPhaseOk.j0 k true a0_0 a0_1 a0_2 a0_3 a0_4 a0_5 a0_6 a0_7))) else (impl_RecPhaseOk.j0 k true a0_0 a0_1 a0_2 a0_3 a0_4 a0_5 a0_6 a0_7))))) else (impl_RecPhaseOk.j0 k true a0_0 a0_1 a0_2 a0_3 a0_4 a0_5 a0_6 a0_7))
theorem impl_RecPhaseOk.mono_l : ∀ k, (∀ y0 y1 y2 y3 y4 y5 y6 y7 y8, LeO (impl_RecPhaseOk.j0 k y0 y1 y2 y3 y4 y5 y6 y7 y8) (impl_RecPhaseOk.j0 (k + 1) y0 y1 y2 y3 y4 y5 y6 y7 y8)) ∧ (∀ y0 y1 y2 y3 y4 y5 y6 y7 y8 y9, LeO (impl_RecPhaseOk.j1 k y0 y1 y2 y3 y4 y5 y6 y7 y8 y9) (impl_RecPhaseOk.j1 (k + 1) y0 y1 y2 y3 y4 y5 y6 y7 y8 y9))
 | 0 => ⟨fun _ _ _ _ _ _ _ _ _ r h => by simp [impl_RecPhaseOk.j0] at h, fun _ _ _ _ _ _ _ _ _ _ r h => by simp [impl_RecPhaseOk.j1] at h⟩
 | k + 1 => by
  obtain ⟨ih0, ih1⟩ := impl_RecPhaseOk.mono_l k
  refine ⟨?_, ?_⟩
  ·intro y0 y1 y2 y3 y4 y5 y6 y7 y8
   unfold impl_RecPhaseOk.j0
   repeat' first
   | (with_reducible exact ih0 _ _ _ _ _ _ _ _ _)
   | (with_reducible exact ih1 _ _ _ _ _ _ _ _ _ _)
   | (with_reducible exact impl_RecEnd.mono _ _)
   | (with_reducible exact impl_name.mono _ _)
   | (with_reducible exact LeO.refl _)
   | (with_reducible exact LeO.none _)
   | (with_reducible refine LeO.ite ?_ ?_)
   | (with_reducible refine LeO.bind ?_ (fun _ => ?_))
   | exact ih0 _ _ _ _ _ _ _ _ _
   | exact ih1 _ _ _ _ _ _ _ _ _ _
   | exact impl_RecEnd.mono _ _
   | exact impl_name.mono _ _
   | exact LeO.none _
   | refine LeO.ite ?_ ?_
   | refine LeO.bind ?_ (fun _ => ?_)
  ·intro y0 y1 y2 y3 y4 y5 y6 y7 y8 y9
   unfold impl_RecPhaseOk.j1
   repeat' first
   | (with_reducible exact ih0 _ _ _ _ _ _ _ _ _)
   | (with_reducible exact ih1 _ _ _ _ _ _ _ _ _ _)
   | (with_reducible exact impl_RecEnd.mono _ _)
   | (with_reducible exact impl_name.mono _ _)
   | (with_reducible exact LeO.refl _)
   | (with_reducible exact LeO.none _)
   | (with_reducible refine LeO.ite ?_ ?_)
   | (with_reducible refine LeO.bind ?_ (fun _ => ?_))
   | exact ih0 _ _ _ _ _ _ _ _ _
   | exact ih1 _ _ _ _ _ _ _ _ _ _
   | exact impl_RecEnd.mono _ _
   | exact impl_name.mono _ _
   | exact LeO.none _
   | refine LeO.ite ?_ ?_
   | refine LeO.bind ?_ (fun _ => ?_)
theorem impl_RecPhaseOk.mono : ∀ a0 a1 a2 a3 a4 a5 a6 a7 k, LeO (impl_RecPhaseOk.f k a0 a1 a2 a3 a4 a5 a6 a7) (impl_RecPhaseOk.f (k + 1) a0 a1 a2 a3 a4 a5 a6 a7) := by
 intro a0 a1 a2 a3 a4 a5 a6 a7 k
 obtain ⟨ih0, ih1⟩ := impl_RecPhaseOk.mono_l k
 unfold impl_RecPhaseOk.f
 repeat' first
   | (with_reducible exact ih0 _ _ _ _ _ _ _ _ _)
   | (with_reducible exact ih1 _ _ _ _ _ _ _ _ _ _)
   | (with_reducible exact impl_RecEnd.mono _ _)
   | (with_reducible exact impl_name.mono _ _)
   | (with_reducible exact LeO.refl _)
   | (with_reducible exact LeO.none _)
   | (with_reducible refine LeO.ite ?_ ?_)
   | (with_reducible refine LeO.bind ?_ (fun _ => ?_))
   | exact ih0 _ _ _ _ _ _ _ _ _
   | exact ih1 _ _ _ _ _ _ _ _ _ _
   | exact impl_RecEnd.mono _ _
   | exact impl_name.mono _ _
   | exact LeO.none _
   | refine LeO.ite ?_ ?_
   | refine LeO.bind ?_ (fun _ => ?_)

/-! ### spec_l2At: function 66 -/
def spec_l2At.l0 : Nat → List (S39) → ByteArray → Int → Option (Int)
 | 0, _, _, _ => none
 | k + 1, x0, x1, x5 => if x5 < (x0.length : Int) then (if 0 ≤ x5 then (if ((rd_T39 x0 x5).f0).toList = x1.toList then (some x5) else (spec_l2At.l0 k x0 x1 (wrap64 (x5 + 1)))) else (none)) else (some (-1))
def spec_l2At.f (k : Nat) (l0 : List (S39)) (a1 : ByteArray) : Option (Int) := spec_l2At.l0 k l0 a1 0
theorem spec_l2At.mono_l : ∀ k, (∀ y0 y1 y2, LeO (spec_l2At.l0 k y0 y1 y2) (spec_l2At.l0 (k + 1) y0 y1 y2))
 | 0 => fun _ _ _ r h => by simp [spec_l2At.l0] at h
 | k + 1 => by
  have ih0 := spec_l2At.mono_l k
  ·intro y0 y1 y2
   unfold spec_l2At.l0
   repeat' first
   | (with_reducible exact ih0 _ _ _)
   | (with_reducible exact LeO.refl _)
   | (with_reducible exact LeO.none _)
   | (with_reducible refine LeO.ite ?_ ?_)
   | (with_reducible refine LeO.bind ?_ (fun _ => ?_))
   | exact ih0 _ _ _
   | exact LeO.none _
   | refine LeO.ite ?_ ?_
   | refine LeO.bind ?_ (fun _ => ?_)
theorem spec_l2At.mono : ∀ a0 a1 k, LeO (spec_l2At.f k a0 a1) (spec_l2At.f (k + 1) a0 a1) := by
 intro a0 a1 k
 have ih0 := spec_l2At.mono_l k
 unfold spec_l2At.f
 repeat' first
   | (with_reducible exact ih0 _ _ _)
   | (with_reducible exact LeO.refl _)
   | (with_reducible exact LeO.none _)
   | (with_reducible refine LeO.ite ?_ ?_)
   | (with_reducible refine LeO.bind ?_ (fun _ => ?_))
   | exact ih0 _ _ _
   | exact LeO.none _
   | refine LeO.ite ?_ ?_
   | refine LeO.bind ?_ (fun _ => ?_)
set_option maxHeartbeats 8000000 in
set_option maxRecDepth 100000 in
theorem spec_l2At.calls (k : Nat) (A0 : Option Addr) (c0 : Nat) (l0 : List (S39)) (a1 : ByteArray) (r : Int) (w : World) (hr0 : Kd.C k39 w A0 l0.length l0) (hc0 : l0.length ≤ c0) (h : spec_l2At.f k l0 a1 = some r) :
  Calls Try.prog 66 #[.slice A0 l0.length c0, .string a1] w fun e w' => e = .returned (.int .i64 r) ∧ Drawn0 w w' := by
 have HR0 := Aside0.mk hr0
 have HC0 := Aside0.mk hc0
 clear hr0 hc0
 have H : (spec_l2At.l0 k l0 a1 0) = some r := h
 clear h
 have H' := Aside0.mk H
 clear H
 go_enter Try.func66, Try.ntmps66
 go_wp2
 go_loopg [5] k (fun kq v5 w' => ∃ (x5_1 : Int), v5 = .int .i64 x5_1 ∧ Aside0 (spec_l2At.l0 kq l0 a1 x5_1 = some r) ∧ Aside0 (kq ≤ k) ∧ Drawn0 w w')
 case atStart => exact ⟨(0), (by first | rfl | (simp; done) | (simp [*]; done)), H', ⟨Nat.le_refl _⟩, by repeat (first | exact Drawn0.refl _ | apply Drawn0.step)⟩
 case round =>
  clear H'
  obtain ⟨x5_1, rfl, HA, HK1, ⟨m1, rfl⟩⟩ := hrel
  cases gk with
  | zero => exact absurd HA.out (by simp [spec_l2At.l0])
  | succ k1 =>
   have H := HA.out
   clear HA
   simp only [spec_l2At.l0] at H
   by_cases c3 : x5_1 < (l0.length : Int)
   ·rw [if_pos c3] at H
    have c3b0 : decide (x5_1 < (l0.length : Int)) = true := decide_eq_true c3
    clear c3
    by_cases c4 : 0 ≤ x5_1
    ·rw [if_pos c4] at H
     have c4b0 : decide (0 ≤ x5_1) = true := decide_eq_true c4
     clear c4
     by_cases c5 : ((rd_T39 l0 x5_1).f0).toList = a1.toList
     ·rw [if_pos c5] at H
      have c5b0 : (((rd_T39 l0 x5_1).f0).toList == a1.toList) = true := beq_iff_eq.mpr c5
      have c5b1 : (((rd_T39 l0 x5_1).f0).toList != a1.toList) = false := bne_eq_false_iff_eq.mpr c5
      clear c5
      obtain rfl := Option.some.inj H
      have p167 : 0 ≤ (x5_1 : Int) := oda
      have q167 : x5_1 < (l0.length : Int) := oda
      obtain ⟨ad167, e167, hx167_0, hx167_1, hx167_2, hx167_3, hx167_4, hx167_5, hx167_6, hx167_7⟩ := at_T39 HR0.out x5_1 p167 q167
      cases e167
      replace p167 := eq_true p167
      replace q167 := eq_true q167
      go_wp2
      go_ret
      exact ⟨by first | rfl | (simp; done) | (simp [*]; done), by repeat (first | exact Drawn0.refl _ | apply Drawn0.step)⟩
     ·rw [if_neg c5] at H
      have c5b0 : (((rd_T39 l0 x5_1).f0).toList == a1.toList) = false := beq_eq_false_iff_ne.mpr c5
      have c5b1 : (((rd_T39 l0 x5_1).f0).toList != a1.toList) = true := bne_iff_ne.mpr c5
      have H' := Aside0.mk H
      clear H
      have p167 : 0 ≤ (x5_1 : Int) := oda
      have q167 : x5_1 < (l0.length : Int) := oda
      obtain ⟨ad167, e167, hx167_0, hx167_1, hx167_2, hx167_3, hx167_4, hx167_5, hx167_6, hx167_7⟩ := at_T39 HR0.out x5_1 p167 q167
      cases e167
      replace p167 := eq_true p167
      replace q167 := eq_true q167
      go_wp2
      go_roundg k1
      case measure => have := HK1.out; omega
      case rel => exact ⟨(wrap64 (x5_1 + 1)), (by first | rfl | (simp; done) | (simp [*]; done)), H', ⟨by have := HK1.out; omega⟩, by repeat (first | exact Drawn0.refl _ | apply Drawn0.step)⟩
    ·rw [if_neg c4] at H
     exact absurd H (by simp)
   ·rw [if_neg c3] at H
    have c3b0 : decide (x5_1 < (l0.length : Int)) = false := decide_eq_false c3
    clear c3
    obtain rfl := Option.some.inj H
    go_wp2
    go_ret
    exact ⟨by first | rfl | (simp; done) | (simp [*]; done), by repeat (first | exact Drawn0.refl _ | apply Drawn0.step)⟩


/-! ### spec_RecOk: function 24 -/
mutual
def spec_RecOk.l0 : Nat → List (S39) → Int → Option (Bool)
 | 0, _, _ => none
 | k + 1, x0, x3 => if x3 < (x0.length : Int) then (if 0 ≤ x3 then ((spec_RecPhaseOk.f k ((rd_T39 x0 x3).f0) ((rd_T39 x0 x3).f1) ((rd_T39 x0 x3).f2) ((rd_T39 x0 x3).f3) ((rd_T39 x0 x3).f4) ((rd_T39 x0 x3).f5) ((rd_T39 x0 x3).f6) ((rd_T39 x0 x3).f7)).bind fun t170 => (if t170 = true then ((spec_l2At.f k x0 ((rd_T39 x0 x3).f0)).bind fun t172 => (spec_RecOk.j1 k x0 x3 (t172 != x3))) else (spec_RecOk.j1 k x0 x3 true))) else (none)) else (some true)
def spec_RecOk.j1 : Nat → List (S39) → Int → Bool → Option (Bool)
 | 0, _, _, _ => none
 | k + 1, x0, x3, x30 => if x30 = true then (some false) else (if 0 ≤ x3 then (if x3 < (x0.length : Int) then ((spec_RecEnd.f ((rd_T39 x0 x3).f6)).bind fun t174 => (if t174 = 0 then ((spec_l2At.f k x0 ((rd_T39 x0 x3).f6)).bind fun t176 => (if t176 ≤ x3 then (some false) else ((spec_RecEnd.f ((rd_T39 x0 x3).f7)).bind fun t178 => (if t178 = 0 then ((spec_l2At.f k x0 ((rd_T39 x0 x3).f7)).bind fun t180 => (if t180 ≤ x3 then (some false) else (spec_RecOk.l0 k x0 (wrap64 (x3 + 1))))) else (spec_RecOk.l0 k x0 (wrap64 (x3 + 1))))))) else ((spec_RecEnd.f ((rd_T39 x0 x3).f7)).bind fun t182 => (if t182 = 0 then ((spec_l2At.f k x0 ((rd_T39 x0 x3).f7)).bind fun t184 => (if t184 ≤ x3 then (some false) else (spec_RecOk.l0 k x0 (wrap64 (x3 + 1))))) else (spec_RecOk.l0 k x0 (wrap64 (x3 + 1))))))) else (none)) else (none))
end
def spec_RecOk.f (k : Nat) (l0 : List (S39)) : Option (Bool) := (spec_l1In.f (l0.length : Int) 1 12).bind fun t168 => (if t168 = true then (spec_RecOk.l0 k l0 0) else (some false))
theorem spec_RecOk.mono_l : ∀ k, (∀ y0 y1, LeO (spec_RecOk.l0 k y0 y1) (spec_RecOk.l0 (k + 1) y0 y1)) ∧ (∀ y0 y1 y2, LeO (spec_RecOk.j1 k y0 y1 y2) (spec_RecOk.j1 (k + 1) y0 y1 y2))
 | 0 => ⟨fun _ _ r h => by simp [spec_RecOk.l0] at h, fun _ _ _ r h => by simp [spec_RecOk.j1] at h⟩
 | k + 1 => by
  obtain ⟨ih0, ih1⟩ := spec_RecOk.mono_l k
  refine ⟨?_, ?_⟩
  ·intro y0 y1
   unfold spec_RecOk.l0
   repeat' first
   | (with_reducible exact ih0 _ _)
   | (with_reducible exact ih1 _ _ _)
   | (with_reducible exact spec_RecPhaseOk.mono _ _ _ _ _ _ _ _ _)
   | (with_reducible exact spec_l2At.mono _ _ _)
   | (with_reducible exact LeO.refl _)
   | (with_reducible exact LeO.none _)
   | (with_reducible refine LeO.ite ?_ ?_)
   | (with_reducible refine LeO.bind ?_ (fun _ => ?_))
   | exact ih0 _ _
   | exact ih1 _ _ _
   | exact spec_RecPhaseOk.mono _ _ _ _ _ _ _ _ _
   | exact spec_l2At.mono _ _ _
   | exact LeO.none _
   | refine LeO.ite ?_ ?_
   | refine LeO.bind ?_ (fun _ => ?_)
  ·intro y0 y1 y2
   unfold spec_RecOk.j1
   repeat' first
   | (with_reducible exact ih0 _ _)
   | (with_reducible exact ih1 _ _ _)
   | (with_reducible exact spec_RecPhaseOk.mono _ _ _ _ _ _ _ _ _)
   | (with_reducible exact spec_l2At.mono _ _ _)
   | (with_reducible exact LeO.refl _)
   | (with_reducible exact LeO.none _)
   | (with_reducible refine LeO.ite ?_ ?_)
   | (with_reducible refine LeO.bind ?_ (fun _ => ?_))
   | exact ih0 _ _
   | exact ih1 _ _ _
   | exact spec_RecPhaseOk.mono _ _ _ _ _ _ _ _ _
   | exact spec_l2At.mono _ _ _
   | exact LeO.none _
   | refine LeO.ite ?_ ?_
   | refine LeO.bind ?_ (fun _ => ?_)
theorem spec_RecOk.mono : ∀ a0 k, LeO (spec_RecOk.f k a0) (spec_RecOk.f (k + 1) a0) := by
 intro a0 k
 obtain ⟨ih0, ih1⟩ := spec_RecOk.mono_l k
 unfold spec_RecOk.f
 repeat' first
   | (with_reducible exact ih0 _ _)
   | (with_reducible exact ih1 _ _ _)
   | (with_reducible exact spec_RecPhaseOk.mono _ _ _ _ _ _ _ _ _)
   | (with_reducible exact spec_l2At.mono _ _ _)
   | (with_reducible exact LeO.refl _)
   | (with_reducible exact LeO.none _)
   | (with_reducible refine LeO.ite ?_ ?_)
   | (with_reducible refine LeO.bind ?_ (fun _ => ?_))
   | exact ih0 _ _
   | exact ih1 _ _ _
   | exact spec_RecPhaseOk.mono _ _ _ _ _ _ _ _ _
   | exact spec_l2At.mono _ _ _
   | exact LeO.none _
   | refine LeO.ite ?_ ?_
   | refine LeO.bind ?_ (fun _ => ?_)
end Go.Proofs.Ytdkologncoofdaa.P
-- Q1
namespace Go.Proofs.Ytdkologncoofdaa.P
open Go.RowKit Go.Proofs.YtdkologncoofdaaW.PrintWords Go.Proofs.YtdkologncoofdaaW.PrintLast
set_option linter.unusedVariables false
set_option linter.unusedSimpArgs false

/-- With enough rounds, and from there on, the answer is r. -/
def Evn {α : Type} (g : Nat → Option α) (r : α) : Prop := ∃ K, ∀ k, K ≤ k → g k = some r
theorem Evn.pure {α : Type} (r : α) : Evn (fun _ => some r) r := ⟨0, fun _ _ => rfl⟩
theorem Evn.bind {α β : Type} {g : Nat → Option α} {r : α} {h : Nat → α → Option β} {s : β} (h1 : Evn g r) (h2 : Evn (fun k => h k r) s) : Evn (fun k => (g k).bind (h k)) s := by
  obtain ⟨K1, h1⟩ := h1
  obtain ⟨K2, h2⟩ := h2
  exact ⟨max K1 K2, fun k hk => by show (g k).bind (h k) = some s; rw [h1 k (by omega)]; exact h2 k (by omega)⟩
theorem Evn.bind' {α β : Type} {r : α} {h : Nat → α → Option β} {s : β} (h2 : Evn (fun k => h k r) s) : Evn (fun k => (some r).bind (h k)) s := h2
theorem Evn.succ {α : Type} {g f : Nat → Option α} {r : α} (h : Evn f r) (e : ∀ k, g (k + 1) = f k) : Evn g r := by
  obtain ⟨K, h⟩ := h
  refine ⟨K + 1, fun k hk => ?_⟩
  obtain ⟨k, rfl⟩ : ∃ m, k = m + 1 := ⟨k - 1, by omega⟩
  rw [e]
  exact h k (by omega)
theorem Evn.congr {α : Type} {g f : Nat → Option α} {r : α} (h : Evn f r) (e : ∀ k, g k = f k) : Evn g r := by
  obtain ⟨K, h⟩ := h
  exact ⟨K, fun k hk => by rw [e]; exact h k hk⟩
theorem Evn.of {α : Type} {g : Nat → Option α} {r s : α} (h : Evn g r) (e : r = s) : Evn g s := e ▸ h
theorem Evn.yes {α : Type} {c : Prop} [Decidable c] {f g : Nat → Option α} {r : α} (hc : c) (h : Evn f r) : Evn (fun k => if c then f k else g k) r := h.congr fun k => if_pos hc
theorem Evn.no {α : Type} {c : Prop} [Decidable c] {f g : Nat → Option α} {r : α} (hc : ¬ c) (h : Evn g r) : Evn (fun k => if c then f k else g k) r := h.congr fun k => if_neg hc
theorem Evn.ite {α : Type} {c : Prop} [Decidable c] {f g : Nat → Option α} {r s : α} (h1 : c → Evn f r) (h2 : ¬ c → Evn g s) : Evn (fun k => if c then f k else g k) (if c then r else s) := by
  by_cases hc : c
  · rw [if_pos hc]; exact Evn.yes hc (h1 hc)
  · rw [if_neg hc]; exact Evn.no hc (h2 hc)
theorem Evn.ends {α : Type} {g : Nat → Option α} {r : α} (h : Evn g r) : ∃ k, g k = some r := by
  obtain ⟨K, h⟩ := h
  exact ⟨K, h K (Nat.le_refl _)⟩
/-- Of two answers there is one. -/
theorem Evn.one {α : Type} {g : Nat → Option α} {r s : α} (h : Evn g r) (h' : Evn g s) : r = s := by
  obtain ⟨K, h⟩ := h
  obtain ⟨K', h'⟩ := h'
  have := (h (max K K') (by omega)).symm.trans (h' (max K K') (by omega))
  exact Option.some.inj this

theorem wrap_id {x : Int} (h1 : -9223372036854775808 ≤ x) (h2 : x ≤ 9223372036854775807) : wrap64 x = x := by unfold wrap64; omega

/-! ### Ends -/
def endOf (a : ByteArray) : Int := if a.toList = ([103, 111, 111, 100] : List UInt8) then 1 else if a.toList = ([115, 97, 118, 101, 100] : List UInt8) then 2 else if a.toList = ([115, 99, 114, 97, 112, 112, 101, 100] : List UInt8) then 3 else 0
theorem endOf_range (a : ByteArray) : 0 ≤ endOf a ∧ endOf a ≤ 3 := by unfold endOf; split <;> (try split) <;> (try split) <;> omega
theorem spec_end (a : ByteArray) : spec_RecEnd.f a = some (endOf a) := by
  unfold spec_RecEnd.f endOf
  split <;> (try split) <;> (try split) <;> rfl
theorem impl_end (a : ByteArray) (k : Nat) : impl_RecEnd.f (k + 4) a = some (endOf a) := by
  have w0 : wrap64 1 = 1 := wrap_id (by omega) (by omega)
  have w1 : wrap64 2 = 2 := wrap_id (by omega) (by omega)
  have w2 : wrap64 3 = 3 := wrap_id (by omega) (by omega)
  have w3 : wrap64 0 = 0 := wrap_id (by omega) (by omega)
  unfold endOf impl_RecEnd.f slices_Index_string_string.f
  simp only [slices_Index_string_string.l0, rdOf, Option.bind_some, List.drop, List.length_cons, List.length_nil]
  by_cases c1 : a.toList = ([103, 111, 111, 100] : List UInt8)
  · simp [c1, w0]
  · by_cases c2 : a.toList = ([115, 97, 118, 101, 100] : List UInt8)
    · simp [c2, w0, w1]
    · by_cases c3 : a.toList = ([115, 99, 114, 97, 112, 112, 101, 100] : List UInt8)
      · simp [c3, w0, w1, w2]
      · simp [c1, c2, c3, w0, w1, w2, w3]
theorem impl_endE (a : ByteArray) : Evn (fun k => impl_RecEnd.f k a) (endOf a) := ⟨4, fun k hk => by
  obtain ⟨k, rfl⟩ : ∃ m, k = m + 4 := ⟨k - 4, by omega⟩
  exact impl_end a k⟩

/-! ### Between two bounds -/
def inB (a b c : Int) : Bool := decide (b ≤ a) && decide (a ≤ c)
theorem spec_in (a b c : Int) : spec_l1In.f a b c = some (inB a b c) := by
  unfold spec_l1In.f inB
  by_cases h : a ≥ b
  · rw [if_pos h]; simp [h]
  · rw [if_neg h]; simp [show ¬ b ≤ a from h]
theorem impl_in' (a b c : Int) : impl_in.f a b c = some (inB a b c) := by
  unfold impl_in.f inB
  by_cases h : a ≥ b
  · rw [if_pos h]; simp [h]
  · rw [if_neg h]; simp [show ¬ b ≤ a from h]
theorem inB_iff {a b c : Int} : inB a b c = true ↔ b ≤ a ∧ a ≤ c := by simp [inB]

/-! ### Names -/
def byteOk (x : Int) : Bool := (decide (97 ≤ x) && decide (x ≤ 122)) || (decide (48 ≤ x) && decide (x ≤ 57)) || decide (x = 45)
/-- All bytes from place i on are those of a name. -/
def tailOk (s : ByteArray) (i : Nat) : Bool := (List.range (s.size - i)).all fun j => byteOk (bt s ((i + j : Nat) : Int))
def nmOk (s : ByteArray) : Bool := inB (s.size : Int) 1 8 && tailOk s 0
theorem tailOk_end (s : ByteArray) (i : Nat) (h : s.size ≤ i) : tailOk s i = true := by
  unfold tailOk; rw [show s.size - i = 0 from by omega]; rfl
theorem tailOk_step (s : ByteArray) (i : Nat) (h : i < s.size) : tailOk s i = (byteOk (bt s (i : Int)) && tailOk s (i + 1)) := by
  unfold tailOk
  rw [show s.size - i = (s.size - (i + 1)) + 1 from by omega, List.range_succ_eq_map, List.all_cons, List.all_map]
  congr 1
  apply congrArg
  funext j
  simp only [Function.comp_apply, Nat.succ_eq_add_one]
  rw [show i + (j + 1) = i + 1 + j from by omega]

theorem nm_loop (s : ByteArray) (hs : s.size ≤ 8) (d : Nat) : ∀ (i : Nat) (k : Nat), i ≤ s.size → s.size - i = d → d < k →
    spec_l1NameOk.l0 k s (i : Int) = some (tailOk s i) ∧ impl_name.l0 k s (i : Int) = some (tailOk s i) := by
  induction d with
  | zero =>
    intro i k hi hd hk
    obtain ⟨k, rfl⟩ : ∃ m, k = m + 1 := ⟨k - 1, by omega⟩
    rw [tailOk_end s i (by omega)]
    simp only [spec_l1NameOk.l0, impl_name.l0]
    exact ⟨by rw [if_neg (by omega)], by rw [if_neg (by omega)]⟩
  | succ d ih =>
    intro i k hi hd hk
    obtain ⟨k, rfl⟩ : ∃ m, k = m + 1 := ⟨k - 1, by omega⟩
    obtain ⟨h1, h2⟩ := ih (i + 1) k (by omega) (by omega) (by omega)
    rw [tailOk_step s i (by omega)]
    simp only [spec_l1NameOk.l0, impl_name.l0]
    rw [show wrap64 ((i : Int) + 1) = ((i + 1 : Nat) : Int) from by rw [wrap_id (by omega) (by omega)]; omega, h1, h2]
    have key : ∀ (x : Int) (b : Bool), (if x ≥ 97 then (if x ≤ 122 then (some b) else (if x ≥ 48 then (if x ≤ 57 then (some b) else (if (x = 45) then (some b) else (some false))) else (if (x = 45) then (some b) else (some false)))) else (if x ≥ 48 then (if x ≤ 57 then (some b) else (if (x = 45) then (some b) else (some false))) else (if (x = 45) then (some b) else (some false)))) = some (byteOk x && b) := by
      intro x b
      unfold byteOk
      by_cases a1 : 97 ≤ x <;> by_cases a2 : x ≤ 122 <;> by_cases a3 : 48 ≤ x <;> by_cases a4 : x ≤ 57 <;> by_cases a5 : x = 45 <;> simp [a1, a2, a3, a4, a5] <;> omega
    exact ⟨by rw [if_pos (by omega), if_pos (by omega)]; exact key _ _, by rw [if_pos (by omega), if_pos (by omega)]; exact key _ _⟩
theorem spec_nm (s : ByteArray) (k : Nat) : spec_l1NameOk.f (k + 9) s = some (nmOk s) := by
  unfold spec_l1NameOk.f nmOk
  rw [spec_in, Option.bind_some]
  by_cases h : inB (s.size : Int) 1 8 = true
  · rw [if_pos h, h]
    have := inB_iff.1 h
    exact (nm_loop s (by omega) s.size 0 (k + 9) (by omega) (by omega) (by omega)).1
  · rw [if_neg h, Bool.eq_false_iff.2 h]; rfl
theorem impl_nm (s : ByteArray) (k : Nat) : impl_name.f (k + 9) s = some (nmOk s) := by
  unfold impl_name.f nmOk
  rw [impl_in', Option.bind_some]
  by_cases h : inB (s.size : Int) 1 8 = true
  · rw [if_pos h, h]
    have := inB_iff.1 h
    exact (nm_loop s (by omega) s.size 0 (k + 9) (by omega) (by omega) (by omega)).2
  · rw [if_neg h, Bool.eq_false_iff.2 h]; rfl

/-! ### Phases -/
def argsOk (x : S39) : Bool :=
  if x.f1 = 1 then nmOk x.f2 && nmOk x.f3 && inB x.f4 1 1000 else
  if x.f1 = 2 then nmOk x.f2 && nmOk x.f3 && (x.f2.toList != x.f3.toList) && inB x.f4 1 1000 else
  if x.f1 = 3 then nmOk x.f2 && decide (x.f3.toList = []) && inB x.f4 1 x.f5 else
  if x.f1 = 4 ∨ x.f1 = 5 then nmOk x.f2 && decide (x.f3.toList = []) && (x.f4 == 0) else false
def phOk (x : S39) : Bool := nmOk x.f0 && (endOf x.f0 == 0) && inB x.f5 1 1000 && argsOk x && nmOk x.f6 && nmOk x.f7

theorem spec_args (x : S39) (k : Nat) : spec_l1ArgsOk.f (k + 9) x.f0 x.f1 x.f2 x.f3 x.f4 x.f5 x.f6 x.f7 = some (argsOk x) := by
  unfold spec_l1ArgsOk.f argsOk
  simp only [spec_nm, spec_in, Option.bind_some]
  by_cases c1 : x.f1 = 1
  · rw [if_pos c1, if_pos c1]
    cases nmOk x.f2 <;> cases nmOk x.f3 <;> simp
  · rw [if_neg c1, if_neg c1]
    by_cases c2 : x.f1 = 2
    · rw [if_pos c2, if_pos c2]
      cases nmOk x.f2 <;> cases nmOk x.f3 <;> simp
      by_cases e : x.f2.toList = x.f3.toList <;> simp [e]
    · rw [if_neg c2, if_neg c2]
      by_cases c3 : x.f1 = 3
      · rw [if_pos c3, if_pos c3]
        cases nmOk x.f2 <;> simp
        by_cases e : x.f3.toList = [] <;> simp [e]
      · rw [if_neg c3, if_neg c3]
        by_cases c4 : x.f1 = 4
        · rw [if_pos c4, if_pos (Or.inl c4)]
          cases nmOk x.f2 <;> simp
          by_cases e : x.f3.toList = [] <;> simp [e]
        · rw [if_neg c4]
          by_cases c5 : x.f1 = 5
          · rw [if_pos c5, if_pos (Or.inr c5)]
            cases nmOk x.f2 <;> simp
            by_cases e : x.f3.toList = [] <;> simp [e]
          · rw [if_neg c5, if_neg (by omega)]
theorem spec_ph (x : S39) (k : Nat) : spec_RecPhaseOk.f (k + 9) x.f0 x.f1 x.f2 x.f3 x.f4 x.f5 x.f6 x.f7 = some (phOk x) := by
  unfold spec_RecPhaseOk.f phOk spec_l1PlainOk.f
  simp only [spec_nm, spec_in, spec_args, spec_end, Option.bind_some]
  generalize (endOf x.f0 == 0) = b
  cases nmOk x.f0 <;> cases b <;> cases inB x.f5 1 1000 <;> cases argsOk x <;> cases nmOk x.f6 <;> simp
theorem impl_j1 (x : S39) (c : Int) (b : Bool) (k : Nat) (hc : c = x.f1) (hb : b = (decide (x.f1 = 1) || decide (x.f1 = 2))) (hA : nmOk x.f2 = true) :
    impl_RecPhaseOk.j1 (k + 10) c b x.f0 x.f1 x.f2 x.f3 x.f4 x.f5 x.f6 x.f7 = some (argsOk x) := by
  subst hc
  simp only [impl_RecPhaseOk.j1]
  unfold argsOk
  simp only [impl_nm, impl_in', Option.bind_some, hA, Bool.true_and]
  by_cases c1 : x.f1 = 1
  · have : b = true := by rw [hb]; simp [c1]
    subst this
    cases nmOk x.f3 <;> cases inB x.f4 1 1000 <;> simp [c1]
  · by_cases c2 : x.f1 = 2
    · have : b = true := by rw [hb]; simp [c2]
      subst this
      cases nmOk x.f3 <;> cases inB x.f4 1 1000 <;> simp [c2]
    · have : b = false := by rw [hb]; simp [c1, c2]
      subst this
      by_cases c3 : x.f1 = 3
      · by_cases e : x.f3.toList = [] <;> simp [e, c3]
      · by_cases c4 : x.f1 = 4
        · by_cases e : x.f3.toList = [] <;> simp [e, c4]
        · by_cases c5 : x.f1 = 5
          · by_cases e : x.f3.toList = [] <;> simp [e, c5]
          · simp [c1, c2, c3, c4, c5]
theorem impl_j0F (x : S39) (k : Nat) : impl_RecPhaseOk.j0 (k + 1) true x.f0 x.f1 x.f2 x.f3 x.f4 x.f5 x.f6 x.f7 = some false := by
  simp [impl_RecPhaseOk.j0]
theorem impl_j0T (x : S39) (k : Nat) (hA : nmOk x.f2 = true) : impl_RecPhaseOk.j0 (k + 11) false x.f0 x.f1 x.f2 x.f3 x.f4 x.f5 x.f6 x.f7 = some (argsOk x) := by
  simp only [impl_RecPhaseOk.j0]
  rw [if_neg (by decide)]
  by_cases c1 : x.f1 = 1
  · rw [if_pos c1]
    exact impl_j1 x _ _ k rfl (by simp [c1]) hA
  · rw [if_neg c1]
    exact impl_j1 x _ _ k rfl (by rw [show decide (x.f1 = 1) = false from decide_eq_false c1]; rfl) hA
theorem argsOk_A (x : S39) (h : nmOk x.f2 = false) : argsOk x = false := by
  unfold argsOk; simp [h]
theorem impl_ph (x : S39) (k : Nat) : impl_RecPhaseOk.f (k + 11) x.f0 x.f1 x.f2 x.f3 x.f4 x.f5 x.f6 x.f7 = some (phOk x) := by
  unfold impl_RecPhaseOk.f phOk
  have e0 : ∀ s, impl_name.f (k + 11) s = some (nmOk s) := fun s => impl_nm s (k + 2)
  have e1 : impl_RecEnd.f (k + 11) x.f0 = some (endOf x.f0) := impl_end _ (k + 7)
  simp only [e0, e1, impl_in', Option.bind_some, impl_j0F x (k + 10)]
  cases h0 : nmOk x.f0
  · simp
  · rw [if_pos rfl]
    have hr := endOf_range x.f0
    by_cases he : endOf x.f0 > 0
    · rw [if_pos he, show (endOf x.f0 == 0) = false from beq_eq_false_iff_ne.2 (by omega)]; simp
    · rw [if_neg he, show (endOf x.f0 == 0) = true from beq_iff_eq.2 (by omega)]
      cases inB x.f5 1 1000
      · simp
      · rw [if_pos rfl]
        cases h2 : nmOk x.f2
        · rw [argsOk_A x h2]; simp
        · rw [if_pos rfl]
          cases h6 : nmOk x.f6
          · simp
          · rw [if_pos rfl]
            cases h7 : nmOk x.f7
            · simp [impl_j0F x (k + 10)]
            · simp [impl_j0T x k h2]

end Go.Proofs.Ytdkologncoofdaa.P
-- K11
namespace Go.Proofs.Ytdkologncoofdaa.P
open Go.RowKit Go.Proofs.YtdkologncoofdaaW.PrintWords Go.Proofs.YtdkologncoofdaaW.PrintLast Go.Proofs.YtdkologncoofdaaW.PrintMore
attribute [local go_sem] max2_int min2_int max_two min_two max_three min_three max_four min_four
theorem rOf {α : Type} {f : Nat → Option α} (mono : ∀ k, LeO (f k) (f (k + 1))) {k : Nat} {r s : α} (n : Nat) (h : f k = some r) (h2 : f (k + n) = some s) : r = s := by
  have : ∀ n, f (k + n) = some r := by
    intro n
    induction n with
    | zero => exact h
    | succ n ih => exact mono (k + n) r ih
  rw [this n] at h2
  exact Option.some.inj h2
set_option maxHeartbeats 8000000 in
set_option maxRecDepth 100000 in
theorem spec_l1ArgsOk.calls (k : Nat) (a0_0 : ByteArray) (a0_1 : Int) (a0_2 : ByteArray) (a0_3 : ByteArray) (a0_4 : Int) (a0_5 : Int) (a0_6 : ByteArray) (a0_7 : ByteArray) (r : Bool) (w : World) (h : spec_l1ArgsOk.f k a0_0 a0_1 a0_2 a0_3 a0_4 a0_5 a0_6 a0_7 = some r) :
    Calls Try.prog 76 #[.agg #[.string a0_0, .int .i64 a0_1, .string a0_2, .string a0_3, .int .i64 a0_4, .int .i64 a0_5, .string a0_6, .string a0_7]] w fun e w' => e = .returned (.bool r) ∧ Below w.heap.size w w' := by
  have e := rOf (fun k => spec_l1ArgsOk.mono a0_0 a0_1 a0_2 a0_3 a0_4 a0_5 a0_6 a0_7 k) 9 h (spec_args ⟨a0_0, a0_1, a0_2, a0_3, a0_4, a0_5, a0_6, a0_7⟩ k)
  have H := Aside0.mk e
  clear h e
  go_enter Try.func76, Try.ntmps76
  go_wp2_with (first | (go_at_call 77; refine (spec_l1NameOk.calls 9 _ _ _ (spec_nm _ 0)).mono ?_; rintro e w' ⟨rfl, ⟨nd, rfl⟩⟩) | (go_at_call 67; refine (spec_l1In.calls _ _ _ _ _ (spec_in _ _ _)).mono ?_; rintro e w' ⟨rfl, ⟨nd, rfl⟩⟩))
  all_goals
    go_ret
    refine ⟨?_, by repeat (first | exact Below.refl _ _ | apply below_alloc | apply pw_below_drewN | apply below_drew1)⟩
    have h := H.out
    simp_all [argsOk, inB, bne]
end Go.Proofs.Ytdkologncoofdaa.P
-- K12
namespace Go.Proofs.Ytdkologncoofdaa.P
open Go.RowKit Go.Proofs.YtdkologncoofdaaW.PrintWords Go.Proofs.YtdkologncoofdaaW.PrintLast Go.Proofs.YtdkologncoofdaaW.PrintMore
attribute [local go_sem] max2_int min2_int max_two min_two max_three min_three max_four min_four   -- for this text's walks alone
set_option linter.unusedVariables false
set_option linter.unusedSimpArgs false

set_option maxHeartbeats 8000000 in
set_option maxRecDepth 100000 in
theorem spec_RecPhaseOk.calls (k : Nat) (a0_0 : ByteArray) (a0_1 : Int) (a0_2 : ByteArray) (a0_3 : ByteArray) (a0_4 : Int) (a0_5 : Int) (a0_6 : ByteArray) (a0_7 : ByteArray) (r : Bool) (w : World) (h : spec_RecPhaseOk.f k a0_0 a0_1 a0_2 a0_3 a0_4 a0_5 a0_6 a0_7 = some r) :
  Calls Try.prog 32 #[.agg #[.string a0_0, .int .i64 a0_1, .string a0_2, .string a0_3, .int .i64 a0_4, .int .i64 a0_5, .string a0_6, .string a0_7]] w fun e w' => e = .returned (.bool r) ∧ Below w.heap.size w w' := by
 have hu39 := Try.underlying39
 have HB := Aside0.mk (Below.refl w.heap.size w)
 have H : ((spec_l1PlainOk.f k a0_0).bind fun t128 => (if t128 = true then ((spec_l1In.f a0_5 1 1000).bind fun t129 => (if t129 = true then ((spec_l1ArgsOk.f k a0_0 a0_1 a0_2 a0_3 a0_4 a0_5 a0_6 a0_7).bind fun t130 => (if t130 = true then ((spec_l1NameOk.f k a0_6).bind fun t131 => (if t131 = true then ((spec_l1NameOk.f k a0_7).bind fun t132 => (some t132)) else (some false))) else (some false))) else (some false))) else (some false))) = some r := h
 clear h
 replace H := Option.bind_eq_some_iff.mp H
 obtain ⟨t128, A20, H⟩ := H
 try dsimp only at H
 have A2 := Aside0.mk A20
 clear A20
 by_cases c3 : t128 = true
 ·subst c3
  rw [if_pos rfl] at H
  replace H := Option.bind_eq_some_iff.mp H
  obtain ⟨t129, A40, H⟩ := H
  try dsimp only at H
  have A4 := Aside0.mk A40
  clear A40
  by_cases c5 : t129 = true
  ·subst c5
   rw [if_pos rfl] at H
   replace H := Option.bind_eq_some_iff.mp H
   obtain ⟨t130, A60, H⟩ := H
   try dsimp only at H
   have A6 := Aside0.mk A60
   clear A60
   by_cases c7 : t130 = true
   ·subst c7
    rw [if_pos rfl] at H
    replace H := Option.bind_eq_some_iff.mp H
    obtain ⟨t131, A80, H⟩ := H
    try dsimp only at H
    have A8 := Aside0.mk A80
    clear A80
    by_cases c9 : t131 = true
    ·subst c9
     rw [if_pos rfl] at H
     replace H := Option.bind_eq_some_iff.mp H
     obtain ⟨t132, A100, H⟩ := H
     try dsimp only at H
     have A10 := Aside0.mk A100
     clear A100
     obtain rfl := Option.some.inj H
     go_enter Try.func32, Try.ntmps32
     go_wp2_with (first | ((with_reducible refine gate_dst (N := 1) rfl ?_); refine box_event ?hg (N := 1) ?hd (cs := #[.string a0_0, .int .i64 a0_1, .string a0_2, .string a0_3, .int .i64 a0_4, .int .i64 a0_5, .string a0_6, .string a0_7]) (t := 39) ?hr ?_; (case hd => rfl); (case hg => rfl); (case hr => first | (go_simp; done) | (go_simp; rfl)); intro gb127 hg w11 hbox hb; have t_ := And.intro (bs HB hb) <| And.intro (Aside0.mk (hbox)) <| And.intro (gh hg HB) <| (gh hg HB); clear HB; obtain ⟨HB, BK127, GW127, GE127⟩ := t_; clear hb hbox hg; have hcz12_0 := b0 BK127; have hcz12_1 := b1 BK127; have hcz12_2 := b2 BK127; have hcz12_3 := b3 BK127; have hcz12_4 := b4 BK127; have hcz12_5 := b5 BK127; have hcz12_6 := b6 BK127; have hcz12_7 := b7 BK127; have hfz12_0 := fz BK127 0; have hfz12_1 := fz BK127 1; have hfz12_2 := fz BK127 2; have hfz12_3 := fz BK127 3; have hfz12_4 := fz BK127 4; have hfz12_5 := fz BK127 5; have hfz12_6 := fz BK127 6; have hfz12_7 := fz BK127 7) | ((with_reducible refine gate_callee (f := 75) rfl ?_); refine goesL_ (some 5) rfl rfl Try.func75 (by kernel_rfl) rfl #[.string a0_0] rfl mxp ?_; (with_reducible refine (spec_l1PlainOk.calls k a0_0 true _ A2.out).mono ?_); rintro e w' ⟨rfl, ⟨nd, rfl⟩⟩; refine ⟨_, rfl, ?_⟩) | (go_at_call 67; (with_reducible refine (spec_l1In.calls a0_5 1 1000 true _ A4.out).mono ?_); rintro e w' ⟨rfl, ⟨nd, rfl⟩⟩) | (go_at_call 76; (with_reducible refine (spec_l1ArgsOk.calls k a0_0 a0_1 a0_2 a0_3 a0_4 a0_5 a0_6 a0_7 true _ A6.out).mono ?_); rintro e w13 ⟨rfl, hb⟩; replace BK127 := up BK127 hb; replace HB := bs HB hb; (try clear hb); (try clear hb2); (try clear hk); (try clear hi); have hcz14_0 := b0 BK127; have hcz14_1 := b1 BK127; have hcz14_2 := b2 BK127; have hcz14_3 := b3 BK127; have hcz14_4 := b4 BK127; have hcz14_5 := b5 BK127; have hcz14_6 := b6 BK127; have hcz14_7 := b7 BK127; have hfz14_0 := fz BK127 0; have hfz14_1 := fz BK127 1; have hfz14_2 := fz BK127 2; have hfz14_3 := fz BK127 3; have hfz14_4 := fz BK127 4; have hfz14_5 := fz BK127 5; have hfz14_6 := fz BK127 6; have hfz14_7 := fz BK127 7) | (go_at_call 77; (with_reducible refine (spec_l1NameOk.calls k a0_6 true _ A8.out).mono ?_); rintro e w' ⟨rfl, ⟨nd, rfl⟩⟩) | (go_at_call 77; (with_reducible refine (spec_l1NameOk.calls k a0_7 t132 _ A10.out).mono ?_); rintro e w' ⟨rfl, ⟨nd, rfl⟩⟩))
     go_ret
     exact ⟨exq, bw HB.out⟩
    ·replace c9 := Bool.eq_false_iff.mpr c9
     subst c9
     rw [if_neg (show ¬ (false = true) by decide)] at H
     obtain rfl := Option.some.inj H
     go_enter Try.func32, Try.ntmps32
     go_wp2_with (first | ((with_reducible refine gate_dst (N := 1) rfl ?_); refine box_event ?hg (N := 1) ?hd (cs := #[.string a0_0, .int .i64 a0_1, .string a0_2, .string a0_3, .int .i64 a0_4, .int .i64 a0_5, .string a0_6, .string a0_7]) (t := 39) ?hr ?_; (case hd => rfl); (case hg => rfl); (case hr => first | (go_simp; done) | (go_simp; rfl)); intro gb127 hg w15 hbox hb; have t_ := And.intro (bs HB hb) <| And.intro (Aside0.mk (hbox)) <| And.intro (gh hg HB) <| (gh hg HB); clear HB; obtain ⟨HB, BK127, GW127, GE127⟩ := t_; clear hb hbox hg; have hcz16_0 := b0 BK127; have hcz16_1 := b1 BK127; have hcz16_2 := b2 BK127; have hcz16_3 := b3 BK127; have hcz16_4 := b4 BK127; have hcz16_5 := b5 BK127; have hcz16_6 := b6 BK127; have hcz16_7 := b7 BK127; have hfz16_0 := fz BK127 0; have hfz16_1 := fz BK127 1; have hfz16_2 := fz BK127 2; have hfz16_3 := fz BK127 3; have hfz16_4 := fz BK127 4; have hfz16_5 := fz BK127 5; have hfz16_6 := fz BK127 6; have hfz16_7 := fz BK127 7) | ((with_reducible refine gate_callee (f := 75) rfl ?_); refine goesL_ (some 5) rfl rfl Try.func75 (by kernel_rfl) rfl #[.string a0_0] rfl mxp ?_; (with_reducible refine (spec_l1PlainOk.calls k a0_0 true _ A2.out).mono ?_); rintro e w' ⟨rfl, ⟨nd, rfl⟩⟩; refine ⟨_, rfl, ?_⟩) | (go_at_call 67; (with_reducible refine (spec_l1In.calls a0_5 1 1000 true _ A4.out).mono ?_); rintro e w' ⟨rfl, ⟨nd, rfl⟩⟩) | (go_at_call 76; (with_reducible refine (spec_l1ArgsOk.calls k a0_0 a0_1 a0_2 a0_3 a0_4 a0_5 a0_6 a0_7 true _ A6.out).mono ?_); rintro e w17 ⟨rfl, hb⟩; replace BK127 := up BK127 hb; replace HB := bs HB hb; (try clear hb); (try clear hb2); (try clear hk); (try clear hi); have hcz18_0 := b0 BK127; have hcz18_1 := b1 BK127; have hcz18_2 := b2 BK127; have hcz18_3 := b3 BK127; have hcz18_4 := b4 BK127; have hcz18_5 := b5 BK127; have hcz18_6 := b6 BK127; have hcz18_7 := b7 BK127; have hfz18_0 := fz BK127 0; have hfz18_1 := fz BK127 1; have hfz18_2 := fz BK127 2; have hfz18_3 := fz BK127 3; have hfz18_4 := fz BK127 4; have hfz18_5 := fz BK127 5; have hfz18_6 := fz BK127 6; have hfz18_7 := fz BK127 7) | (go_at_call 77; (with_reducible refine (spec_l1NameOk.calls k a0_6 false _ A8.out).mono ?_); rintro e w' ⟨rfl, ⟨nd, rfl⟩⟩))
     go_ret
     exact ⟨exq, bw HB.out⟩
   ·replace c7 := Bool.eq_false_iff.mpr c7
    subst c7
    rw [if_neg (show ¬ (false = true) by decide)] at H
    obtain rfl := Option.some.inj H
    go_enter Try.func32, Try.ntmps32
    go_wp2_with (first | ((with_reducible refine gate_dst (N := 1) rfl ?_); refine box_event ?hg (N := 1) ?hd (cs := #[.string a0_0, .int .i64 a0_1, .string a0_2, .string a0_3, .int .i64 a0_4, .int .i64 a0_5, .string a0_6, .string a0_7]) (t := 39) ?hr ?_; (case hd => rfl); (case hg => rfl); (case hr => first | (go_simp; done) | (go_simp; rfl)); intro gb127 hg w19 hbox hb; have t_ := And.intro (bs HB hb) <| And.intro (Aside0.mk (hbox)) <| And.intro (gh hg HB) <| (gh hg HB); clear HB; obtain ⟨HB, BK127, GW127, GE127⟩ := t_; clear hb hbox hg; have hcz20_0 := b0 BK127; have hcz20_1 := b1 BK127; have hcz20_2 := b2 BK127; have hcz20_3 := b3 BK127; have hcz20_4 := b4 BK127; have hcz20_5 := b5 BK127; have hcz20_6 := b6 BK127; have hcz20_7 := b7 BK127; have hfz20_0 := fz BK127 0; have hfz20_1 := fz BK127 1; have hfz20_2 := fz BK127 2; have hfz20_3 := fz BK127 3; have hfz20_4 := fz BK127 4; have hfz20_5 := fz BK127 5; have hfz20_6 := fz BK127 6; have hfz20_7 := fz BK127 7) | ((with_reducible refine gate_callee (f := 75) rfl ?_); refine goesL_ (some 5) rfl rfl Try.func75 (by kernel_rfl) rfl #[.string a0_0] rfl mxp ?_; (with_reducible refine (spec_l1PlainOk.calls k a0_0 true _ A2.out).mono ?_); rintro e w' ⟨rfl, ⟨nd, rfl⟩⟩; refine ⟨_, rfl, ?_⟩) | (go_at_call 67; (with_reducible refine (spec_l1In.calls a0_5 1 1000 true _ A4.out).mono ?_); rintro e w' ⟨rfl, ⟨nd, rfl⟩⟩) | (go_at_call 76; (with_reducible refine (spec_l1ArgsOk.calls k a0_0 a0_1 a0_2 a0_3 a0_4 a0_5 a0_6 a0_7 false _ A6.out).mono ?_); rintro e w21 ⟨rfl, hb⟩; replace BK127 := up BK127 hb; replace HB := bs HB hb; (try clear hb); (try clear hb2); (try clear hk); (try clear hi)))
    go_ret
    exact ⟨exq, bw HB.out⟩
  ·replace c5 := Bool.eq_false_iff.mpr c5
   subst c5
   rw [if_neg (show ¬ (false = true) by decide)] at H
   obtain rfl := Option.some.inj H
   go_enter Try.func32, Try.ntmps32
   go_wp2_with (first | ((with_reducible refine gate_dst (N := 1) rfl ?_); refine box_event ?hg (N := 1) ?hd (cs := #[.string a0_0, .int .i64 a0_1, .string a0_2, .string a0_3, .int .i64 a0_4, .int .i64 a0_5, .string a0_6, .string a0_7]) (t := 39) ?hr ?_; (case hd => rfl); (case hg => rfl); (case hr => first | (go_simp; done) | (go_simp; rfl)); intro gb127 hg w22 hbox hb; have t_ := And.intro (bs HB hb) <| And.intro (Aside0.mk (hbox)) <| And.intro (gh hg HB) <| (gh hg HB); clear HB; obtain ⟨HB, BK127, GW127, GE127⟩ := t_; clear hb hbox hg; have hcz23_0 := b0 BK127; have hcz23_1 := b1 BK127; have hcz23_2 := b2 BK127; have hcz23_3 := b3 BK127; have hcz23_4 := b4 BK127; have hcz23_5 := b5 BK127; have hcz23_6 := b6 BK127; have hcz23_7 := b7 BK127; have hfz23_0 := fz BK127 0; have hfz23_1 := fz BK127 1; have hfz23_2 := fz BK127 2; have hfz23_3 := fz BK127 3; have hfz23_4 := fz BK127 4; have hfz23_5 := fz BK127 5; have hfz23_6 := fz BK127 6; have hfz23_7 := fz BK127 7) | ((with_reducible refine gate_callee (f := 75) rfl ?_); refine goesL_ (some 5) rfl rfl Try.func75 (by kernel_rfl) rfl #[.string a0_0] rfl mxp ?_; (with_reducible refine (spec_l1PlainOk.calls k a0_0 true _ A2.out).mono ?_); rintro e w' ⟨rfl, ⟨nd, rfl⟩⟩; refine ⟨_, rfl, ?_⟩) | (go_at_call 67; (with_reducible refine (spec_l1In.calls a0_5 1 1000 false _ A4.out).mono ?_); rintro e w' ⟨rfl, ⟨nd, rfl⟩⟩))
   go_ret
   exact ⟨exq, bw HB.out⟩
 ·replace c3 := Bool.eq_false_iff.mpr c3
  subst c3
  rw [if_neg (show ¬ (false = true) by decide)] at H
  obtain rfl := Option.some.inj H
  go_enter Try.func32, Try.ntmps32
  go_wp2_with (first | ((with_reducible refine gate_dst (N := 1) rfl ?_); refine box_event ?hg (N := 1) ?hd (cs := #[.string a0_0, .int .i64 a0_1, .string a0_2, .string a0_3, .int .i64 a0_4, .int .i64 a0_5, .string a0_6, .string a0_7]) (t := 39) ?hr ?_; (case hd => rfl); (case hg => rfl); (case hr => first | (go_simp; done) | (go_simp; rfl)); intro gb127 hg w24 hbox hb; have t_ := And.intro (bs HB hb) <| And.intro (Aside0.mk (hbox)) <| And.intro (gh hg HB) <| (gh hg HB); clear HB; obtain ⟨HB, BK127, GW127, GE127⟩ := t_; clear hb hbox hg; have hcz25_0 := b0 BK127; have hcz25_1 := b1 BK127; have hcz25_2 := b2 BK127; have hcz25_3 := b3 BK127; have hcz25_4 := b4 BK127; have hcz25_5 := b5 BK127; have hcz25_6 := b6 BK127; have hcz25_7 := b7 BK127; have hfz25_0 := fz BK127 0; have hfz25_1 := fz BK127 1; have hfz25_2 := fz BK127 2; have hfz25_3 := fz BK127 3; have hfz25_4 := fz BK127 4; have hfz25_5 := fz BK127 5; have hfz25_6 := fz BK127 6; have hfz25_7 := fz BK127 7) | ((with_reducible refine gate_callee (f := 75) rfl ?_); refine goesL_ (some 5) rfl rfl Try.func75 (by kernel_rfl) rfl #[.string a0_0] rfl mxp ?_; (with_reducible refine (spec_l1PlainOk.calls k a0_0 false _ A2.out).mono ?_); rintro e w' ⟨rfl, ⟨nd, rfl⟩⟩; refine ⟨_, rfl, ?_⟩))
  go_ret
  exact ⟨exq, bw HB.out⟩

end Go.Proofs.Ytdkologncoofdaa.P
-- K19
namespace Go.Proofs.Ytdkologncoofdaa.P
open Go.RowKit Go.Proofs.YtdkologncoofdaaW.PrintWords Go.Proofs.YtdkologncoofdaaW.PrintLast Go.Proofs.YtdkologncoofdaaW.PrintMore
attribute [local go_sem] max2_int min2_int max_two min_two max_three min_three max_four min_four   -- for this text's walks alone
set_option linter.unusedVariables false
set_option linter.unusedSimpArgs false

set_option maxHeartbeats 8000000 in
set_option maxRecDepth 100000 in
theorem spec_RecOk.calls (k : Nat) (A0 : Option Addr) (c0 : Nat) (l0 : List (S39)) (r : Bool) (w : World) (hr0 : Kd.C k39 w A0 l0.length l0) (hc0 : l0.length ≤ c0) (h : spec_RecOk.f k l0 = some r) :
  Calls Try.prog 24 #[.slice A0 l0.length c0] w fun e w' => e = .returned (.bool r) ∧ Below w.heap.size w w' := by
 have hu39 := Try.underlying39
 have HR0 := Aside0.mk hr0
 have HC0 := Aside0.mk hc0
 clear hr0 hc0
 have HB := Aside0.mk (Below.refl w.heap.size w)
 have H : ((spec_l1In.f (l0.length : Int) 1 12).bind fun t168 => (if t168 = true then (spec_RecOk.l0 k l0 0) else (some false))) = some r := h
 clear h
 replace H := Option.bind_eq_some_iff.mp H
 obtain ⟨t168, A20, H⟩ := H
 try dsimp only at H
 have A2 := Aside0.mk A20
 clear A20
 by_cases c3 : t168 = true
 ·subst c3
  rw [if_pos rfl] at H
  have H' := Aside0.mk H
  clear H
  go_enter Try.func24, Try.ntmps24
  go_wp2_with (first | ((with_reducible refine gate_callee (f := 67) rfl ?_); refine goesL_ (some 6) rfl rfl Try.func67 (by kernel_rfl) rfl #[.int .i64 (l0.length : Int), .int .i64 1, .int .i64 12] rfl mxp ?_; (with_reducible refine (spec_l1In.calls (l0.length : Int) 1 12 true _ A2.out).mono ?_); rintro e w' ⟨rfl, ⟨nd, rfl⟩⟩; refine ⟨_, rfl, ?_⟩))
  go_loopg [3] k (fun kq v3 w' => ∃ (x3_1 : Int), v3 = .int .i64 x3_1 ∧ Aside0 (spec_RecOk.l0 kq l0 x3_1 = some r) ∧ Aside0 (kq ≤ k) ∧ Aside0 (Below w.heap.size w w'))
  case atStart => exact ⟨(0), (by first | rfl | (simp; done) | (simp [*]; done)), H', ⟨Nat.le_refl _⟩, (hbw HB)⟩
  case round =>
   clear H'
   obtain ⟨x3_1, rfl, HA, HK1, HB⟩ := hrel
   cases gk with
   | zero => exact absurd HA.out (by simp [spec_RecOk.l0])
   | succ k1 =>
    have H := HA.out
    clear HA
    simp only [spec_RecOk.l0] at H
    by_cases c4 : x3_1 < (l0.length : Int)
    ·rw [if_pos c4] at H
     have c4b0 : decide (x3_1 < (l0.length : Int)) = true := decide_eq_true c4
     clear c4
     have HC5 := Aside0.mk H
     clear H
     go_upto_region 6 with (fail)
     go_cut [30] (fun v30 wc => ∃ (kq : Nat) (x30_4 : Bool), v30 = .bool x30_4 ∧ Aside0 (spec_RecOk.j1 kq l0 x3_1 x30_4 = some r) ∧ Aside0 (kq ≤ k1) ∧ Aside0 (Below w.heap.size w wc))
     case first =>
      have H := HC5.out
      clear HC5
      by_cases c6 : 0 ≤ x3_1
      ·rw [if_pos c6] at H
       have c6b0 : decide (0 ≤ x3_1) = true := decide_eq_true c6
       clear c6
       (first | rw [c6b0] | (simp only [i64_w, i32_w]; rw [c6b0]) | skip)
       replace H := Option.bind_eq_some_iff.mp H
       obtain ⟨t170, A70, H⟩ := H
       try dsimp only at H
       have A7 := Aside0.mk A70
       clear A70
       by_cases c8 : t170 = true
       ·subst c8
        rw [if_pos rfl] at H
        replace H := Option.bind_eq_some_iff.mp H
        obtain ⟨t172, A90, H⟩ := H
        try dsimp only at H
        have A9 := Aside0.mk A90
        clear A90
        have H' := Aside0.mk H
        clear H
        have p169 : 0 ≤ (x3_1 : Int) := oda
        have q169 : x3_1 < (l0.length : Int) := oda
        obtain ⟨ad169, e169, hx169_0, hx169_1, hx169_2, hx169_3, hx169_4, hx169_5, hx169_6, hx169_7⟩ := at_T39 HR0.out x3_1 p169 q169
        cases e169
        replace hx169_0 := bcl HB hx169_0
        replace hx169_1 := bcl HB hx169_1
        replace hx169_2 := bcl HB hx169_2
        replace hx169_3 := bcl HB hx169_3
        replace hx169_4 := bcl HB hx169_4
        replace hx169_5 := bcl HB hx169_5
        replace hx169_6 := bcl HB hx169_6
        replace hx169_7 := bcl HB hx169_7
        replace p169 := eq_true p169
        replace q169 := eq_true q169
        go_wp2_with (first | ((with_reducible refine gate_callee (f := 32) rfl ?_); refine goesL_ (some 18) rfl rfl Try.func32 (by kernel_rfl) rfl #[.agg #[.string ((rd_T39 l0 x3_1).f0), .int .i64 ((rd_T39 l0 x3_1).f1), .string ((rd_T39 l0 x3_1).f2), .string ((rd_T39 l0 x3_1).f3), .int .i64 ((rd_T39 l0 x3_1).f4), .int .i64 ((rd_T39 l0 x3_1).f5), .string ((rd_T39 l0 x3_1).f6), .string ((rd_T39 l0 x3_1).f7)]] rfl mxp ?_; (with_reducible refine (spec_RecPhaseOk.calls k1 ((rd_T39 l0 x3_1).f0) ((rd_T39 l0 x3_1).f1) ((rd_T39 l0 x3_1).f2) ((rd_T39 l0 x3_1).f3) ((rd_T39 l0 x3_1).f4) ((rd_T39 l0 x3_1).f5) ((rd_T39 l0 x3_1).f6) ((rd_T39 l0 x3_1).f7) true _ A7.out).mono ?_); rintro e w10 ⟨rfl, hb⟩; refine ⟨_, rfl, ?_⟩; replace HB := bs HB hb; (try clear hb); (try clear hb2); (try clear hk); (try clear hi); have p171 : 0 ≤ (x3_1 : Int) := oda; have q171 : x3_1 < (l0.length : Int) := oda; obtain ⟨ad171, e171, hx171_0, hx171_1, hx171_2, hx171_3, hx171_4, hx171_5, hx171_6, hx171_7⟩ := at_T39 HR0.out x3_1 p171 q171; obtain rfl : ad169 = ad171 := (by injection e171); replace hx171_0 := bcl HB hx171_0; replace hx171_1 := bcl HB hx171_1; replace hx171_2 := bcl HB hx171_2; replace hx171_3 := bcl HB hx171_3; replace hx171_4 := bcl HB hx171_4; replace hx171_5 := bcl HB hx171_5; replace hx171_6 := bcl HB hx171_6; replace hx171_7 := bcl HB hx171_7; replace p171 := eq_true p171; replace q171 := eq_true q171) | (go_at_call 66; (with_reducible refine (spec_l2At.calls k1 _ _ l0 ((rd_T39 l0 x3_1).f0) t172 _ ?side1 ?side2 A9.out).mono ?_); (case side1 => exact cx (Kd.C_below HR0.out HB.out)); (case side2 => exact HC0.out); rintro e w' ⟨rfl, ⟨nd, rfl⟩⟩))
        go_meet
        case rel => exact ⟨_, ((t172 != x3_1)), (by first | rfl | (simp; done) | (simp [*]; done)), H', ⟨by have := HK1.out; first | omega | exact Nat.le_refl _⟩, (hbw HB)⟩
       ·replace c8 := Bool.eq_false_iff.mpr c8
        subst c8
        rw [if_neg (show ¬ (false = true) by decide)] at H
        have H' := Aside0.mk H
        clear H
        have p169 : 0 ≤ (x3_1 : Int) := oda
        have q169 : x3_1 < (l0.length : Int) := oda
        obtain ⟨ad169, e169, hx169_0, hx169_1, hx169_2, hx169_3, hx169_4, hx169_5, hx169_6, hx169_7⟩ := at_T39 HR0.out x3_1 p169 q169
        cases e169
        replace hx169_0 := bcl HB hx169_0
        replace hx169_1 := bcl HB hx169_1
        replace hx169_2 := bcl HB hx169_2
        replace hx169_3 := bcl HB hx169_3
        replace hx169_4 := bcl HB hx169_4
        replace hx169_5 := bcl HB hx169_5
        replace hx169_6 := bcl HB hx169_6
        replace hx169_7 := bcl HB hx169_7
        replace p169 := eq_true p169
        replace q169 := eq_true q169
        go_wp2_with (first | ((with_reducible refine gate_callee (f := 32) rfl ?_); refine goesL_ (some 18) rfl rfl Try.func32 (by kernel_rfl) rfl #[.agg #[.string ((rd_T39 l0 x3_1).f0), .int .i64 ((rd_T39 l0 x3_1).f1), .string ((rd_T39 l0 x3_1).f2), .string ((rd_T39 l0 x3_1).f3), .int .i64 ((rd_T39 l0 x3_1).f4), .int .i64 ((rd_T39 l0 x3_1).f5), .string ((rd_T39 l0 x3_1).f6), .string ((rd_T39 l0 x3_1).f7)]] rfl mxp ?_; (with_reducible refine (spec_RecPhaseOk.calls k1 ((rd_T39 l0 x3_1).f0) ((rd_T39 l0 x3_1).f1) ((rd_T39 l0 x3_1).f2) ((rd_T39 l0 x3_1).f3) ((rd_T39 l0 x3_1).f4) ((rd_T39 l0 x3_1).f5) ((rd_T39 l0 x3_1).f6) ((rd_T39 l0 x3_1).f7) false _ A7.out).mono ?_); rintro e w11 ⟨rfl, hb⟩; refine ⟨_, rfl, ?_⟩; replace HB := bs HB hb; (try clear hb); (try clear hb2); (try clear hk); (try clear hi)))
        go_meet
        case rel => exact ⟨_, (true), (by first | rfl | (simp; done) | (simp [*]; done)), H', ⟨by have := HK1.out; first | omega | exact Nat.le_refl _⟩, (hbw HB)⟩
      ·rw [if_neg c6] at H
       exact absurd H (by simp)
     case rest =>
      clear HC5
      obtain ⟨kq, x30_4, rfl, HA, HJ4, HB⟩ := hcut
      cases kq with
      | zero => exact absurd HA.out (by simp [spec_RecOk.j1])
      | succ kj4 =>
       have H := HA.out
       clear HA
       simp only [spec_RecOk.j1] at H
       by_cases c12 : x30_4 = true
       ·subst c12
        rw [if_pos rfl] at H
        obtain rfl := Option.some.inj H
        go_wp2
        go_ret
        exact ⟨exq, bw HB.out⟩
       ·replace c12 := Bool.eq_false_iff.mpr c12
        subst c12
        rw [if_neg (show ¬ (false = true) by decide)] at H
        by_cases c13 : 0 ≤ x3_1
        ·rw [if_pos c13] at H
         have c13b0 : decide (0 ≤ x3_1) = true := decide_eq_true c13
         clear c13
         by_cases c14 : x3_1 < (l0.length : Int)
         ·rw [if_pos c14] at H
          have c14b0 : decide (x3_1 < (l0.length : Int)) = true := decide_eq_true c14
          clear c14
          replace H := Option.bind_eq_some_iff.mp H
          obtain ⟨t174, A150, H⟩ := H
          try dsimp only at H
          have A15 := Aside0.mk A150
          clear A150
          by_cases c16 : t174 = 0
          ·rw [if_pos c16] at H
           have c16b0 : (t174 == 0) = true := beq_iff_eq.mpr c16
           have c16b1 : (t174 != 0) = false := bne_eq_false_iff_eq.mpr c16
           clear c16
           replace H := Option.bind_eq_some_iff.mp H
           obtain ⟨t176, A170, H⟩ := H
           try dsimp only at H
           have A17 := Aside0.mk A170
           clear A170
           by_cases c18 : t176 ≤ x3_1
           ·rw [if_pos c18] at H
            have c18b0 : decide (t176 ≤ x3_1) = true := decide_eq_true c18
            clear c18
            obtain rfl := Option.some.inj H
            have p173 : 0 ≤ (x3_1 : Int) := oda
            have q173 : x3_1 < (l0.length : Int) := oda
            obtain ⟨ad173, e173, hx173_0, hx173_1, hx173_2, hx173_3, hx173_4, hx173_5, hx173_6, hx173_7⟩ := at_T39 HR0.out x3_1 p173 q173
            cases e173
            replace hx173_0 := bcl HB hx173_0
            replace hx173_1 := bcl HB hx173_1
            replace hx173_2 := bcl HB hx173_2
            replace hx173_3 := bcl HB hx173_3
            replace hx173_4 := bcl HB hx173_4
            replace hx173_5 := bcl HB hx173_5
            replace hx173_6 := bcl HB hx173_6
            replace hx173_7 := bcl HB hx173_7
            replace p173 := eq_true p173
            replace q173 := eq_true q173
            go_wp2_with (first | ((with_reducible refine gate_callee (f := 18) rfl ?_); refine goesL_ (some 36) rfl rfl Try.func18 (by kernel_rfl) rfl #[.string ((rd_T39 l0 x3_1).f6)] rfl mxp ?_; (with_reducible refine (spec_RecEnd.calls ((rd_T39 l0 x3_1).f6) t174 _ A15.out).mono ?_); rintro e w' ⟨rfl, ⟨nd, rfl⟩⟩; refine ⟨_, rfl, ?_⟩; have p175 : 0 ≤ (x3_1 : Int) := oda; have q175 : x3_1 < (l0.length : Int) := oda; obtain ⟨ad175, e175, hx175_0, hx175_1, hx175_2, hx175_3, hx175_4, hx175_5, hx175_6, hx175_7⟩ := at_T39 HR0.out x3_1 p175 q175; obtain rfl : ad173 = ad175 := (by injection e175); replace hx175_0 := bcl HB hx175_0; replace hx175_1 := bcl HB hx175_1; replace hx175_2 := bcl HB hx175_2; replace hx175_3 := bcl HB hx175_3; replace hx175_4 := bcl HB hx175_4; replace hx175_5 := bcl HB hx175_5; replace hx175_6 := bcl HB hx175_6; replace hx175_7 := bcl HB hx175_7; replace p175 := eq_true p175; replace q175 := eq_true q175) | (go_at_call 66; (with_reducible refine (spec_l2At.calls kj4 _ _ l0 ((rd_T39 l0 x3_1).f6) t176 _ ?side1 ?side2 A17.out).mono ?_); (case side1 => repeat (first | exact (Kd.C_below HR0.out (bw HB.out)) | (with_reducible refine Kd.C_alloc ?_ _) | (with_reducible refine Kd.C_drewN ?_ _) | (with_reducible refine Kd.C_drew ?_))); (case side2 => exact HC0.out); rintro e w' ⟨rfl, ⟨nd, rfl⟩⟩))
            go_ret
            exact ⟨exq, bw HB.out⟩
           ·rw [if_neg c18] at H
            have c18b0 : decide (t176 ≤ x3_1) = false := decide_eq_false c18
            clear c18
            replace H := Option.bind_eq_some_iff.mp H
            obtain ⟨t178, A190, H⟩ := H
            try dsimp only at H
            have A19 := Aside0.mk A190
            clear A190
            by_cases c20 : t178 = 0
            ·rw [if_pos c20] at H
             have c20b0 : (t178 == 0) = true := beq_iff_eq.mpr c20
             have c20b1 : (t178 != 0) = false := bne_eq_false_iff_eq.mpr c20
             clear c20
             replace H := Option.bind_eq_some_iff.mp H
             obtain ⟨t180, A210, H⟩ := H
             try dsimp only at H
             have A21 := Aside0.mk A210
             clear A210
             by_cases c22 : t180 ≤ x3_1
             ·rw [if_pos c22] at H
              have c22b0 : decide (t180 ≤ x3_1) = true := decide_eq_true c22
              clear c22
              obtain rfl := Option.some.inj H
              have p173 : 0 ≤ (x3_1 : Int) := oda
              have q173 : x3_1 < (l0.length : Int) := oda
              obtain ⟨ad173, e173, hx173_0, hx173_1, hx173_2, hx173_3, hx173_4, hx173_5, hx173_6, hx173_7⟩ := at_T39 HR0.out x3_1 p173 q173
              cases e173
              replace hx173_0 := bcl HB hx173_0
              replace hx173_1 := bcl HB hx173_1
              replace hx173_2 := bcl HB hx173_2
              replace hx173_3 := bcl HB hx173_3
              replace hx173_4 := bcl HB hx173_4
              replace hx173_5 := bcl HB hx173_5
              replace hx173_6 := bcl HB hx173_6
              replace hx173_7 := bcl HB hx173_7
              replace p173 := eq_true p173
              replace q173 := eq_true q173
              go_wp2_with (first | ((with_reducible refine gate_callee (f := 18) rfl ?_); refine goesL_ (some 36) rfl rfl Try.func18 (by kernel_rfl) rfl #[.string ((rd_T39 l0 x3_1).f6)] rfl mxp ?_; (with_reducible refine (spec_RecEnd.calls ((rd_T39 l0 x3_1).f6) t174 _ A15.out).mono ?_); rintro e w' ⟨rfl, ⟨nd, rfl⟩⟩; refine ⟨_, rfl, ?_⟩; have p175 : 0 ≤ (x3_1 : Int) := oda; have q175 : x3_1 < (l0.length : Int) := oda; obtain ⟨ad175, e175, hx175_0, hx175_1, hx175_2, hx175_3, hx175_4, hx175_5, hx175_6, hx175_7⟩ := at_T39 HR0.out x3_1 p175 q175; obtain rfl : ad173 = ad175 := (by injection e175); replace hx175_0 := bcl HB hx175_0; replace hx175_1 := bcl HB hx175_1; replace hx175_2 := bcl HB hx175_2; replace hx175_3 := bcl HB hx175_3; replace hx175_4 := bcl HB hx175_4; replace hx175_5 := bcl HB hx175_5; replace hx175_6 := bcl HB hx175_6; replace hx175_7 := bcl HB hx175_7; replace p175 := eq_true p175; replace q175 := eq_true q175) | (go_at_call 66; (with_reducible refine (spec_l2At.calls kj4 _ _ l0 ((rd_T39 l0 x3_1).f6) t176 _ ?side1 ?side2 A17.out).mono ?_); (case side1 => repeat (first | exact (Kd.C_below HR0.out (bw HB.out)) | (with_reducible refine Kd.C_alloc ?_ _) | (with_reducible refine Kd.C_drewN ?_ _) | (with_reducible refine Kd.C_drew ?_))); (case side2 => exact HC0.out); rintro e w' ⟨rfl, ⟨nd, rfl⟩⟩; have p177 : 0 ≤ (x3_1 : Int) := oda; have q177 : x3_1 < (l0.length : Int) := oda; obtain ⟨ad177, e177, hx177_0, hx177_1, hx177_2, hx177_3, hx177_4, hx177_5, hx177_6, hx177_7⟩ := at_T39 HR0.out x3_1 p177 q177; obtain rfl : ad173 = ad177 := (by injection e177); replace hx177_0 := bcl HB hx177_0; replace hx177_1 := bcl HB hx177_1; replace hx177_2 := bcl HB hx177_2; replace hx177_3 := bcl HB hx177_3; replace hx177_4 := bcl HB hx177_4; replace hx177_5 := bcl HB hx177_5; replace hx177_6 := bcl HB hx177_6; replace hx177_7 := bcl HB hx177_7; replace p177 := eq_true p177; replace q177 := eq_true q177) | (go_at_call 18; (with_reducible refine (spec_RecEnd.calls ((rd_T39 l0 x3_1).f7) t178 _ A19.out).mono ?_); rintro e w' ⟨rfl, ⟨nd, rfl⟩⟩; have p179 : 0 ≤ (x3_1 : Int) := oda; have q179 : x3_1 < (l0.length : Int) := oda; obtain ⟨ad179, e179, hx179_0, hx179_1, hx179_2, hx179_3, hx179_4, hx179_5, hx179_6, hx179_7⟩ := at_T39 HR0.out x3_1 p179 q179; obtain rfl : ad173 = ad179 := (by injection e179); replace hx179_0 := bcl HB hx179_0; replace hx179_1 := bcl HB hx179_1; replace hx179_2 := bcl HB hx179_2; replace hx179_3 := bcl HB hx179_3; replace hx179_4 := bcl HB hx179_4; replace hx179_5 := bcl HB hx179_5; replace hx179_6 := bcl HB hx179_6; replace hx179_7 := bcl HB hx179_7; replace p179 := eq_true p179; replace q179 := eq_true q179) | (go_at_call 66; (with_reducible refine (spec_l2At.calls kj4 _ _ l0 ((rd_T39 l0 x3_1).f7) t180 _ ?side1 ?side2 A21.out).mono ?_); (case side1 => repeat (first | exact (Kd.C_below HR0.out (bw HB.out)) | (with_reducible refine Kd.C_alloc ?_ _) | (with_reducible refine Kd.C_drewN ?_ _) | (with_reducible refine Kd.C_drew ?_))); (case side2 => exact HC0.out); rintro e w' ⟨rfl, ⟨nd, rfl⟩⟩))
              go_ret
              exact ⟨exq, bw HB.out⟩
             ·rw [if_neg c22] at H
              have c22b0 : decide (t180 ≤ x3_1) = false := decide_eq_false c22
              clear c22
              have H' := Aside0.mk H
              clear H
              have p173 : 0 ≤ (x3_1 : Int) := oda
              have q173 : x3_1 < (l0.length : Int) := oda
              obtain ⟨ad173, e173, hx173_0, hx173_1, hx173_2, hx173_3, hx173_4, hx173_5, hx173_6, hx173_7⟩ := at_T39 HR0.out x3_1 p173 q173
              cases e173
              replace hx173_0 := bcl HB hx173_0
              replace hx173_1 := bcl HB hx173_1
              replace hx173_2 := bcl HB hx173_2
              replace hx173_3 := bcl HB hx173_3
              replace hx173_4 := bcl HB hx173_4
              replace hx173_5 := bcl HB hx173_5
              replace hx173_6 := bcl HB hx173_6
              replace hx173_7 := bcl HB hx173_7
              replace p173 := eq_true p173
              replace q173 := eq_true q173
              go_wp2_with (first | ((with_reducible refine gate_callee (f := 18) rfl ?_); refine goesL_ (some 36) rfl rfl Try.func18 (by kernel_rfl) rfl #[.string ((rd_T39 l0 x3_1).f6)] rfl mxp ?_; (with_reducible refine (spec_RecEnd.calls ((rd_T39 l0 x3_1).f6) t174 _ A15.out).mono ?_); rintro e w' ⟨rfl, ⟨nd, rfl⟩⟩; refine ⟨_, rfl, ?_⟩; have p175 : 0 ≤ (x3_1 : Int) := oda; have q175 : x3_1 < (l0.length : Int) := oda; obtain ⟨ad175, e175, hx175_0, hx175_1, hx175_2, hx175_3, hx175_4, hx175_5, hx175_6, hx175_7⟩ := at_T39 HR0.out x3_1 p175 q175; obtain rfl : ad173 = ad175 := (by injection e175); replace hx175_0 := bcl HB hx175_0; replace hx175_1 := bcl HB hx175_1; replace hx175_2 := bcl HB hx175_2; replace hx175_3 := bcl HB hx175_3; replace hx175_4 := bcl HB hx175_4; replace hx175_5 := bcl HB hx175_5; replace hx175_6 := bcl HB hx175_6; replace hx175_7 := bcl HB hx175_7; replace p175 := eq_true p175; replace q175 := eq_true q175) | (go_at_call 66; (with_reducible refine (spec_l2At.calls kj4 _ _ l0 ((rd_T39 l0 x3_1).f6) t176 _ ?side1 ?side2 A17.out).mono ?_); (case side1 => repeat (first | exact (Kd.C_below HR0.out (bw HB.out)) | (with_reducible refine Kd.C_alloc ?_ _) | (with_reducible refine Kd.C_drewN ?_ _) | (with_reducible refine Kd.C_drew ?_))); (case side2 => exact HC0.out); rintro e w' ⟨rfl, ⟨nd, rfl⟩⟩; have p177 : 0 ≤ (x3_1 : Int) := oda; have q177 : x3_1 < (l0.length : Int) := oda; obtain ⟨ad177, e177, hx177_0, hx177_1, hx177_2, hx177_3, hx177_4, hx177_5, hx177_6, hx177_7⟩ := at_T39 HR0.out x3_1 p177 q177; obtain rfl : ad173 = ad177 := (by injection e177); replace hx177_0 := bcl HB hx177_0; replace hx177_1 := bcl HB hx177_1; replace hx177_2 := bcl HB hx177_2; replace hx177_3 := bcl HB hx177_3; replace hx177_4 := bcl HB hx177_4; replace hx177_5 := bcl HB hx177_5; replace hx177_6 := bcl HB hx177_6; replace hx177_7 := bcl HB hx177_7; replace p177 := eq_true p177; replace q177 := eq_true q177) | (go_at_call 18; (with_reducible refine (spec_RecEnd.calls ((rd_T39 l0 x3_1).f7) t178 _ A19.out).mono ?_); rintro e w' ⟨rfl, ⟨nd, rfl⟩⟩; have p179 : 0 ≤ (x3_1 : Int) := oda; have q179 : x3_1 < (l0.length : Int) := oda; obtain ⟨ad179, e179, hx179_0, hx179_1, hx179_2, hx179_3, hx179_4, hx179_5, hx179_6, hx179_7⟩ := at_T39 HR0.out x3_1 p179 q179; obtain rfl : ad173 = ad179 := (by injection e179); replace hx179_0 := bcl HB hx179_0; replace hx179_1 := bcl HB hx179_1; replace hx179_2 := bcl HB hx179_2; replace hx179_3 := bcl HB hx179_3; replace hx179_4 := bcl HB hx179_4; replace hx179_5 := bcl HB hx179_5; replace hx179_6 := bcl HB hx179_6; replace hx179_7 := bcl HB hx179_7; replace p179 := eq_true p179; replace q179 := eq_true q179) | (go_at_call 66; (with_reducible refine (spec_l2At.calls kj4 _ _ l0 ((rd_T39 l0 x3_1).f7) t180 _ ?side1 ?side2 A21.out).mono ?_); (case side1 => repeat (first | exact (Kd.C_below HR0.out (bw HB.out)) | (with_reducible refine Kd.C_alloc ?_ _) | (with_reducible refine Kd.C_drewN ?_ _) | (with_reducible refine Kd.C_drew ?_))); (case side2 => exact HC0.out); rintro e w' ⟨rfl, ⟨nd, rfl⟩⟩))
              go_roundg kj4
              case measure => have := HK1.out; have := HJ4.out; omega
              case rel => exact ⟨(wrap64 (x3_1 + 1)), (by first | rfl | (simp; done) | (simp [*]; done)), H', ⟨by have := HK1.out; have := HJ4.out; omega⟩, (hbw HB)⟩
            ·rw [if_neg c20] at H
             have c20b0 : (t178 == 0) = false := beq_eq_false_iff_ne.mpr c20
             have c20b1 : (t178 != 0) = true := bne_iff_ne.mpr c20
             have H' := Aside0.mk H
             clear H
             have p173 : 0 ≤ (x3_1 : Int) := oda
             have q173 : x3_1 < (l0.length : Int) := oda
             obtain ⟨ad173, e173, hx173_0, hx173_1, hx173_2, hx173_3, hx173_4, hx173_5, hx173_6, hx173_7⟩ := at_T39 HR0.out x3_1 p173 q173
             cases e173
             replace hx173_0 := bcl HB hx173_0
             replace hx173_1 := bcl HB hx173_1
             replace hx173_2 := bcl HB hx173_2
             replace hx173_3 := bcl HB hx173_3
             replace hx173_4 := bcl HB hx173_4
             replace hx173_5 := bcl HB hx173_5
             replace hx173_6 := bcl HB hx173_6
             replace hx173_7 := bcl HB hx173_7
             replace p173 := eq_true p173
             replace q173 := eq_true q173
             go_wp2_with (first | ((with_reducible refine gate_callee (f := 18) rfl ?_); refine goesL_ (some 36) rfl rfl Try.func18 (by kernel_rfl) rfl #[.string ((rd_T39 l0 x3_1).f6)] rfl mxp ?_; (with_reducible refine (spec_RecEnd.calls ((rd_T39 l0 x3_1).f6) t174 _ A15.out).mono ?_); rintro e w' ⟨rfl, ⟨nd, rfl⟩⟩; refine ⟨_, rfl, ?_⟩; have p175 : 0 ≤ (x3_1 : Int) := oda; have q175 : x3_1 < (l0.length : Int) := oda; obtain ⟨ad175, e175, hx175_0, hx175_1, hx175_2, hx175_3, hx175_4, hx175_5, hx175_6, hx175_7⟩ := at_T39 HR0.out x3_1 p175 q175; obtain rfl : ad173 = ad175 := (by injection e175); replace hx175_0 := bcl HB hx175_0; replace hx175_1 := bcl HB hx175_1; replace hx175_2 := bcl HB hx175_2; replace hx175_3 := bcl HB hx175_3; replace hx175_4 := bcl HB hx175_4; replace hx175_5 := bcl HB hx175_5; replace hx175_6 := bcl HB hx175_6; replace hx175_7 := bcl HB hx175_7; replace p175 := eq_true p175; replace q175 := eq_true q175) | (go_at_call 66; (with_reducible refine (spec_l2At.calls kj4 _ _ l0 ((rd_T39 l0 x3_1).f6) t176 _ ?side1 ?side2 A17.out).mono ?_); (case side1 => repeat (first | exact (Kd.C_below HR0.out (bw HB.out)) | (with_reducible refine Kd.C_alloc ?_ _) | (with_reducible refine Kd.C_drewN ?_ _) | (with_reducible refine Kd.C_drew ?_))); (case side2 => exact HC0.out); rintro e w' ⟨rfl, ⟨nd, rfl⟩⟩; have p177 : 0 ≤ (x3_1 : Int) := oda; have q177 : x3_1 < (l0.length : Int) := oda; obtain ⟨ad177, e177, hx177_0, hx177_1, hx177_2, hx177_3, hx177_4, hx177_5, hx177_6, hx177_7⟩ := at_T39 HR0.out x3_1 p177 q177; obtain rfl : ad173 = ad177 := (by injection e177); replace hx177_0 := bcl HB hx177_0; replace hx177_1 := bcl HB hx177_1; replace hx177_2 := bcl HB hx177_2; replace hx177_3 := bcl HB hx177_3; replace hx177_4 := bcl HB hx177_4; replace hx177_5 := bcl HB hx177_5; replace hx177_6 := bcl HB hx177_6; replace hx177_7 := bcl HB hx177_7; replace p177 := eq_true p177; replace q177 := eq_true q177) | (go_at_call 18; (with_reducible refine (spec_RecEnd.calls ((rd_T39 l0 x3_1).f7) t178 _ A19.out).mono ?_); rintro e w' ⟨rfl, ⟨nd, rfl⟩⟩))
             go_roundg kj4
             case measure => have := HK1.out; have := HJ4.out; omega
             case rel => exact ⟨(wrap64 (x3_1 + 1)), (by first | rfl | (simp; done) | (simp [*]; done)), H', ⟨by have := HK1.out; have := HJ4.out; omega⟩, (hbw HB)⟩
          ·rw [if_neg c16] at H
           have c16b0 : (t174 == 0) = false := beq_eq_false_iff_ne.mpr c16
           have c16b1 : (t174 != 0) = true := bne_iff_ne.mpr c16
           replace H := Option.bind_eq_some_iff.mp H
           obtain ⟨t182, A230, H⟩ := H
           try dsimp only at H
           have A23 := Aside0.mk A230
           clear A230
           by_cases c24 : t182 = 0
           ·rw [if_pos c24] at H
            have c24b0 : (t182 == 0) = true := beq_iff_eq.mpr c24
            have c24b1 : (t182 != 0) = false := bne_eq_false_iff_eq.mpr c24
            clear c24
            replace H := Option.bind_eq_some_iff.mp H
            obtain ⟨t184, A250, H⟩ := H
            try dsimp only at H
            have A25 := Aside0.mk A250
            clear A250
            by_cases c26 : t184 ≤ x3_1
            ·rw [if_pos c26] at H
             have c26b0 : decide (t184 ≤ x3_1) = true := decide_eq_true c26
             clear c26
             obtain rfl := Option.some.inj H
             have p173 : 0 ≤ (x3_1 : Int) := oda
             have q173 : x3_1 < (l0.length : Int) := oda
             obtain ⟨ad173, e173, hx173_0, hx173_1, hx173_2, hx173_3, hx173_4, hx173_5, hx173_6, hx173_7⟩ := at_T39 HR0.out x3_1 p173 q173
             cases e173
             replace hx173_0 := bcl HB hx173_0
             replace hx173_1 := bcl HB hx173_1
             replace hx173_2 := bcl HB hx173_2
             replace hx173_3 := bcl HB hx173_3
             replace hx173_4 := bcl HB hx173_4
             replace hx173_5 := bcl HB hx173_5
             replace hx173_6 := bcl HB hx173_6
             replace hx173_7 := bcl HB hx173_7
             replace p173 := eq_true p173
             replace q173 := eq_true q173
             go_wp2_with (first | ((with_reducible refine gate_callee (f := 18) rfl ?_); refine goesL_ (some 36) rfl rfl Try.func18 (by kernel_rfl) rfl #[.string ((rd_T39 l0 x3_1).f6)] rfl mxp ?_; (with_reducible refine (spec_RecEnd.calls ((rd_T39 l0 x3_1).f6) t174 _ A15.out).mono ?_); rintro e w' ⟨rfl, ⟨nd, rfl⟩⟩; refine ⟨_, rfl, ?_⟩; have p181 : 0 ≤ (x3_1 : Int) := oda; have q181 : x3_1 < (l0.length : Int) := oda; obtain ⟨ad181, e181, hx181_0, hx181_1, hx181_2, hx181_3, hx181_4, hx181_5, hx181_6, hx181_7⟩ := at_T39 HR0.out x3_1 p181 q181; obtain rfl : ad173 = ad181 := (by injection e181); replace hx181_0 := bcl HB hx181_0; replace hx181_1 := bcl HB hx181_1; replace hx181_2 := bcl HB hx181_2; replace hx181_3 := bcl HB hx181_3; replace hx181_4 := bcl HB hx181_4; replace hx181_5 := bcl HB hx181_5; replace hx181_6 := bcl HB hx181_6; replace hx181_7 := bcl HB hx181_7; replace p181 := eq_true p181; replace q181 := eq_true q181) | (go_at_call 18; (with_reducible refine (spec_RecEnd.calls ((rd_T39 l0 x3_1).f7) t182 _ A23.out).mono ?_); rintro e w' ⟨rfl, ⟨nd, rfl⟩⟩; have p183 : 0 ≤ (x3_1 : Int) := oda; have q183 : x3_1 < (l0.length : Int) := oda; obtain ⟨ad183, e183, hx183_0, hx183_1, hx183_2, hx183_3, hx183_4, hx183_5, hx183_6, hx183_7⟩ := at_T39 HR0.out x3_1 p183 q183; obtain rfl : ad173 = ad183 := (by injection e183); replace hx183_0 := bcl HB hx183_0; replace hx183_1 := bcl HB hx183_1; replace hx183_2 := bcl HB hx183_2; replace hx183_3 := bcl HB hx183_3; replace hx183_4 := bcl HB hx183_4; replace hx183_5 := bcl HB hx183_5; replace hx183_6 := bcl HB hx183_6; replace hx183_7 := bcl HB hx183_7; replace p183 := eq_true p183; replace q183 := eq_true q183) | (go_at_call 66; (with_reducible refine (spec_l2At.calls kj4 _ _ l0 ((rd_T39 l0 x3_1).f7) t184 _ ?side1 ?side2 A25.out).mono ?_); (case side1 => repeat (first | exact (Kd.C_below HR0.out (bw HB.out)) | (with_reducible refine Kd.C_alloc ?_ _) | (with_reducible refine Kd.C_drewN ?_ _) | (with_reducible refine Kd.C_drew ?_))); (case side2 => exact HC0.out); rintro e w' ⟨rfl, ⟨nd, rfl⟩⟩))
             go_ret
             exact ⟨exq, bw HB.out⟩
            ·rw [if_neg c26] at H
             have c26b0 : decide (t184 ≤ x3_1) = false := decide_eq_false c26
             clear c26
             have H' := Aside0.mk H
             clear H
             have p173 : 0 ≤ (x3_1 : Int) := oda
             have q173 : x3_1 < (l0.length : Int) := oda
             obtain ⟨ad173, e173, hx173_0, hx173_1, hx173_2, hx173_3, hx173_4, hx173_5, hx173_6, hx173_7⟩ := at_T39 HR0.out x3_1 p173 q173
             cases e173
             replace hx173_0 := bcl HB hx173_0
             replace hx173_1 := bcl HB hx173_1
             replace hx173_2 := bcl HB hx173_2
             replace hx173_3 := bcl HB hx173_3
             replace hx173_4 := bcl HB hx173_4
             replace hx173_5 := bcl HB hx173_5
             replace hx173_6 := bcl HB hx173_6
             replace hx173_7 := bcl HB hx173_7
             replace p173 := eq_true p173
             replace q173 := eq_true q173
             go_wp2_with (first | ((with_reducible refine gate_callee (f := 18) rfl ?_); refine goesL_ (some 36) rfl rfl Try.func18 (by kernel_rfl) rfl #[.string ((rd_T39 l0 x3_1).f6)] rfl mxp ?_; (with_reducible refine (spec_RecEnd.calls ((rd_T39 l0 x3_1).f6) t174 _ A15.out).mono ?_); rintro e w' ⟨rfl, ⟨nd, rfl⟩⟩; refine ⟨_, rfl, ?_⟩; have p181 : 0 ≤ (x3_1 : Int) := oda; have q181 : x3_1 < (l0.length : Int) := oda; obtain ⟨ad181, e181, hx181_0, hx181_1, hx181_2, hx181_3, hx181_4, hx181_5, hx181_6, hx181_7⟩ := at_T39 HR0.out x3_1 p181 q181; obtain rfl : ad173 = ad181 := (by injection e181); replace hx181_0 := bcl HB hx181_0; replace hx181_1 := bcl HB hx181_1; replace hx181_2 := bcl HB hx181_2; replace hx181_3 := bcl HB hx181_3; replace hx181_4 := bcl HB hx181_4; replace hx181_5 := bcl HB hx181_5; replace hx181_6 := bcl HB hx181_6; replace hx181_7 := bcl HB hx181_7; replace p181 := eq_true p181; replace q181 := eq_true q181) | (go_at_call 18; (with_reducible refine (spec_RecEnd.calls ((rd_T39 l0 x3_1).f7) t182 _ A23.out).mono ?_); rintro e w' ⟨rfl, ⟨nd, rfl⟩⟩; have p183 : 0 ≤ (x3_1 : Int) := oda; have q183 : x3_1 < (l0.length : Int) := oda; obtain ⟨ad183, e183, hx183_0, hx183_1, hx183_2, hx183_3, hx183_4, hx183_5, hx183_6, hx183_7⟩ := at_T39 HR0.out x3_1 p183 q183; obtain rfl : ad173 = ad183 := (by injection e183); replace hx183_0 := bcl HB hx183_0; replace hx183_1 := bcl HB hx183_1; replace hx183_2 := bcl HB hx183_2; replace hx183_3 := bcl HB hx183_3; replace hx183_4 := bcl HB hx183_4; replace hx183_5 := bcl HB hx183_5; replace hx183_6 := bcl HB hx183_6; replace hx183_7 := bcl HB hx183_7; replace p183 := eq_true p183; replace q183 := eq_true q183) | (go_at_call 66; (with_reducible refine (spec_l2At.calls kj4 _ _ l0 ((rd_T39 l0 x3_1).f7) t184 _ ?side1 ?side2 A25.out).mono ?_); (case side1 => repeat (first | exact (Kd.C_below HR0.out (bw HB.out)) | (with_reducible refine Kd.C_alloc ?_ _) | (with_reducible refine Kd.C_drewN ?_ _) | (with_reducible refine Kd.C_drew ?_))); (case side2 => exact HC0.out); rintro e w' ⟨rfl, ⟨nd, rfl⟩⟩))
             go_roundg kj4
             case measure => have := HK1.out; have := HJ4.out; omega
             case rel => exact ⟨(wrap64 (x3_1 + 1)), (by first | rfl | (simp; done) | (simp [*]; done)), H', ⟨by have := HK1.out; have := HJ4.out; omega⟩, (hbw HB)⟩
           ·rw [if_neg c24] at H
            have c24b0 : (t182 == 0) = false := beq_eq_false_iff_ne.mpr c24
            have c24b1 : (t182 != 0) = true := bne_iff_ne.mpr c24
            have H' := Aside0.mk H
            clear H
            have p173 : 0 ≤ (x3_1 : Int) := oda
            have q173 : x3_1 < (l0.length : Int) := oda
            obtain ⟨ad173, e173, hx173_0, hx173_1, hx173_2, hx173_3, hx173_4, hx173_5, hx173_6, hx173_7⟩ := at_T39 HR0.out x3_1 p173 q173
            cases e173
            replace hx173_0 := bcl HB hx173_0
            replace hx173_1 := bcl HB hx173_1
            replace hx173_2 := bcl HB hx173_2
            replace hx173_3 := bcl HB hx173_3
            replace hx173_4 := bcl HB hx173_4
            replace hx173_5 := bcl HB hx173_5
            replace hx173_6 := bcl HB hx173_6
            replace hx173_7 := bcl HB hx173_7
            replace p173 := eq_true p173
            replace q173 := eq_true q173
            go_wp2_with (first | ((with_reducible refine gate_callee (f := 18) rfl ?_); refine goesL_ (some 36) rfl rfl Try.func18 (by kernel_rfl) rfl #[.string ((rd_T39 l0 x3_1).f6)] rfl mxp ?_; (with_reducible refine (spec_RecEnd.calls ((rd_T39 l0 x3_1).f6) t174 _ A15.out).mono ?_); rintro e w' ⟨rfl, ⟨nd, rfl⟩⟩; refine ⟨_, rfl, ?_⟩; have p181 : 0 ≤ (x3_1 : Int) := oda; have q181 : x3_1 < (l0.length : Int) := oda; obtain ⟨ad181, e181, hx181_0, hx181_1, hx181_2, hx181_3, hx181_4, hx181_5, hx181_6, hx181_7⟩ := at_T39 HR0.out x3_1 p181 q181; obtain rfl : ad173 = ad181 := (by injection e181); replace hx181_0 := bcl HB hx181_0; replace hx181_1 := bcl HB hx181_1; replace hx181_2 := bcl HB hx181_2; replace hx181_3 := bcl HB hx181_3; replace hx181_4 := bcl HB hx181_4; replace hx181_5 := bcl HB hx181_5; replace hx181_6 := bcl HB hx181_6; replace hx181_7 := bcl HB hx181_7; replace p181 := eq_true p181; replace q181 := eq_true q181) | (go_at_call 18; (with_reducible refine (spec_RecEnd.calls ((rd_T39 l0 x3_1).f7) t182 _ A23.out).mono ?_); rintro e w' ⟨rfl, ⟨nd, rfl⟩⟩))
            go_roundg kj4
            case measure => have := HK1.out; have := HJ4.out; omega
            case rel => exact ⟨(wrap64 (x3_1 + 1)), (by first | rfl | (simp; done) | (simp [*]; done)), H', ⟨by have := HK1.out; have := HJ4.out; omega⟩, (hbw HB)⟩
         ·rw [if_neg c14] at H
          exact absurd H (by simp)
        ·rw [if_neg c13] at H
         exact absurd H (by simp)
    ·rw [if_neg c4] at H
     have c4b0 : decide (x3_1 < (l0.length : Int)) = false := decide_eq_false c4
     clear c4
     obtain rfl := Option.some.inj H
     go_wp2
     go_ret
     exact ⟨exq, bw HB.out⟩
 ·replace c3 := Bool.eq_false_iff.mpr c3
  subst c3
  rw [if_neg (show ¬ (false = true) by decide)] at H
  obtain rfl := Option.some.inj H
  go_enter Try.func24, Try.ntmps24
  go_wp2_with (first | ((with_reducible refine gate_callee (f := 67) rfl ?_); refine goesL_ (some 6) rfl rfl Try.func67 (by kernel_rfl) rfl #[.int .i64 (l0.length : Int), .int .i64 1, .int .i64 12] rfl mxp ?_; (with_reducible refine (spec_l1In.calls (l0.length : Int) 1 12 false _ A2.out).mono ?_); rintro e w' ⟨rfl, ⟨nd, rfl⟩⟩; refine ⟨_, rfl, ?_⟩))
  go_ret
  exact ⟨exq, bw HB.out⟩

end Go.Proofs.Ytdkologncoofdaa.P
-- Px1
namespace Go.Proofs.Ytdkologncoofdaa.P
open Go.RowKit Go.Proofs.YtdkologncoofdaaW.PrintWords Go.Proofs.YtdkologncoofdaaW.PrintLast Go.Proofs.YtdkologncoofdaaW.PrintMore
attribute [local go_sem] max2_int min2_int max_two min_two max_three min_three max_four min_four   -- for this text's walks alone
set_option linter.unusedVariables false
set_option linter.unusedSimpArgs false

theorem eqA31 (d : Nat) (w : World) (x0 y0 : ByteArray) (x1 y1 : Int) (x2 y2 : Int) :
    (Op.equalIn (d + 2) 31 (.agg #[.string x0, .int .i64 x1, .int .i64 x2]) (.agg #[.string y0, .int .i64 y1, .int .i64 y2])).run Try.prog w = .ok (x0.toList == y0.toList && (x1 == y1 && (x2 == y2))) w := by
  refine eqA_of Try.underlying31 (by kernel_rfl) ?_
  refine eqf_cons (by rfl) (by go_simp; rfl) (by go_simp; rfl) (by go_simp) ?_
  refine eqf_cons (by rfl) (by go_simp; rfl) (by go_simp; rfl) (by go_simp) ?_
  exact eqf_last (by rfl) (by go_simp; rfl) (by go_simp; rfl) (by go_simp)
end Go.Proofs.Ytdkologncoofdaa.P
-- K16
namespace Go.Proofs.Ytdkologncoofdaa.P
open Go.RowKit Go.Proofs.YtdkologncoofdaaW.PrintWords Go.Proofs.YtdkologncoofdaaW.PrintLast Go.Proofs.YtdkologncoofdaaW.PrintMore
attribute [local go_sem] max2_int min2_int max_two min_two max_three min_three max_four min_four
set_option maxHeartbeats 8000000 in
set_option maxRecDepth 100000 in
theorem impl_RecPhaseOk.calls (k : Nat) (a0_0 : ByteArray) (a0_1 : Int) (a0_2 : ByteArray) (a0_3 : ByteArray) (a0_4 : Int) (a0_5 : Int) (a0_6 : ByteArray) (a0_7 : ByteArray) (r : Bool) (w : World) (h : impl_RecPhaseOk.f k a0_0 a0_1 a0_2 a0_3 a0_4 a0_5 a0_6 a0_7 = some r) :
    Calls Try.prog 34 #[.agg #[.string a0_0, .int .i64 a0_1, .string a0_2, .string a0_3, .int .i64 a0_4, .int .i64 a0_5, .string a0_6, .string a0_7]] w fun e w' => e = .returned (.bool r) ∧ Below w.heap.size w w' := by
  have e := rOf (fun k => impl_RecPhaseOk.mono a0_0 a0_1 a0_2 a0_3 a0_4 a0_5 a0_6 a0_7 k) 11 h (impl_ph ⟨a0_0, a0_1, a0_2, a0_3, a0_4, a0_5, a0_6, a0_7⟩ k)
  have e1 : (endOf a0_0 == 0) = decide (endOf a0_0 ≤ 0) := by
    have := endOf_range a0_0
    by_cases h : endOf a0_0 = 0
    · simp [h]
    · rw [show (endOf a0_0 == 0) = false by simpa using h]; symm; exact decide_eq_false (by omega)
  unfold phOk at e
  dsimp only at e
  rw [e1] at e
  clear e1
  have H := Aside0.mk e
  clear h e
  go_enter Try.func34, Try.ntmps34
  go_wp2_with (first | (go_at_call 78; refine (impl_name.calls 9 _ _ _ (impl_nm _ 0)).mono ?_; rintro e w' ⟨rfl, ⟨nd, rfl⟩⟩) | (go_at_call 68; refine (impl_in.calls _ _ _ _ _ (impl_in' _ _ _)).mono ?_; rintro e w' ⟨rfl, ⟨nd, rfl⟩⟩) | (go_at_call 19; (refine (impl_RecEnd.calls 4 _ _ _ (impl_end _ 0)).mono ?_; rintro e w' ⟨rfl, hb⟩; have HW := Aside0.mk (below_step (show Below w.heap.size w _ from by repeat (first | exact Below.refl _ _ | apply below_alloc | apply pw_below_drewN | apply below_drew1)) hb); have BK := Aside0.mk (blk_below (g := w.heap.size) (o := .cells #[.string a0_0, .int .i64 a0_1, .string a0_2, .string a0_3, .int .i64 a0_4, .int .i64 a0_5, .string a0_6, .string a0_7] 39) (by repeat (first | exact blk_new _ _ | refine blk_drewN ?_ _ | refine blk_drew ?_ | refine blk_alloc ?_ _)) hb); have q0 := b0 BK; have q1 := b1 BK; have q2 := b2 BK; have q3 := b3 BK; have q4 := b4 BK; have q5 := b5 BK; have q6 := b6 BK; have q7 := b7 BK; clear hb)))
  all_goals
    go_ret
    refine ⟨?_, by repeat (first | exact HW.out | exact Below.refl _ _ | apply below_alloc | apply pw_below_drewN | apply below_drew1)⟩
    (try clear q0 q1 q2 q3 q4 q5 q6 q7)
    have h := H.out
    simp_all [argsOk, inB, bne]
    all_goals first
      | (intros; omega)
      | (rcases ‹0 < endOf a0_0 ∨ nmOk a0_7 = false› with hz | hz
         · omega
         · simp_all)
end Go.Proofs.Ytdkologncoofdaa.P
-- XAt
namespace Go.Proofs.Ytdkologncoofdaa.P
open Go.RowKit Go.Proofs.YtdkologncoofdaaW.PrintWords Go.Proofs.YtdkologncoofdaaW.PrintLast
set_option linter.unusedVariables false
set_option linter.unusedSimpArgs false

/-- The first place of a phase of this name, -1 if there is none. -/
def atOf (l : List S39) (a : ByteArray) : Int := match l.findIdx? (fun p => p.f0.toList == a.toList) with | some i => (i : Int) | none => -1
def impl_at.f (l : List S39) (a : ByteArray) : Option Int := some (atOf l a)

theorem atOf_hit (l : List S39) (a : ByteArray) (k : Nat) (hk : k < l.length) (h : ((l.getD k z39).f0.toList == a.toList) = true) (hb : ∀ j, j < k → ((l.getD j z39).f0.toList == a.toList) = false) : atOf l a = k := by
  have e : l.findIdx? (fun p => p.f0.toList == a.toList) = some k := by
    rw [List.findIdx?_eq_some_iff_getElem]
    refine ⟨hk, by simpa [List.getD_eq_getElem?_getD, List.getElem?_eq_getElem hk] using h, fun j hj => ?_⟩
    have h1 := hb j hj
    have hj2 : j < l.length := by omega
    simpa [List.getD_eq_getElem?_getD, List.getElem?_eq_getElem hj2] using h1
  rw [atOf, e]
theorem atOf_miss (l : List S39) (a : ByteArray) (hb : ∀ j, j < l.length → ((l.getD j z39).f0.toList == a.toList) = false) : atOf l a = -1 := by
  have e : l.findIdx? (fun p => p.f0.toList == a.toList) = none := by
    rw [List.findIdx?_eq_none_iff]
    intro x hx
    obtain ⟨j, hj, rfl⟩ := List.getElem_of_mem hx
    have h1 := hb j hj
    simpa [List.getD_eq_getElem?_getD, List.getElem?_eq_getElem hj] using h1
  rw [atOf, e]

set_option maxHeartbeats 8000000 in
set_option maxRecDepth 100000 in
theorem at1_calls (x : S39) (n : ByteArray) (c : Nat) (w : World) (hn : w.cell? ⟨c, 0, none⟩ = some (.string n)) :
    Calls Try.prog 96 #[.agg #[.string x.f0, .int .i64 x.f1, .string x.f2, .string x.f3, .int .i64 x.f4, .int .i64 x.f5, .string x.f6, .string x.f7], .pointer (some ⟨c, 0, none⟩)] w
      fun e w' => e = .returned (.bool (x.f0.toList == n.toList)) ∧ Below w.heap.size w w' := by
  have hlt := World.block_lt_of_cell? w _ hn
  go_enter Try.func96, Try.ntmps96
  go_wp2
  go_ret
  exact ⟨rfl, (Below.refl _ _).alloc (Nat.le_refl _) _⟩

set_option maxHeartbeats 8000000 in
set_option maxRecDepth 100000 in
theorem indexFunc_calls (A0 : Option Addr) (c0 : Nat) (l0 : List S39) (n : ByteArray) (c : Nat) (w : World) (hr0 : Kd.C k39 w A0 l0.length l0)
    (hn : w.cell? ⟨c, 0, none⟩ = some (.string n)) :
    Calls Try.prog 95 #[.slice A0 l0.length c0, .func (.func 96) #[] #[.pointer (some ⟨c, 0, none⟩)]] w
      fun e w' => e = .returned (.int .i64 (atOf l0 n)) ∧ Below w.heap.size w w' := by
  have hu39 := Try.underlying39
  have hbig : l0.length ≤ 9223372036854775807 := hr0.2.1
  have HR0 := Aside0.mk hr0
  clear hr0
  have HN := Aside0.mk hn
  clear hn
  go_enter Try.func95, Try.ntmps95
  go_wp2
  go_loopg [5, 8] l0.length (fun gg _ s8 wr => ∃ kk : Nat, kk ≤ l0.length ∧ l0.length - kk ≤ gg ∧ s8 = .int .i64 kk ∧ Aside0 (Below w.heap.size w wr) ∧ Aside0 (∀ j, j < kk → ((l0.getD j z39).f0.toList == n.toList) = false))
  case atStart => exact ⟨0, Nat.zero_le _, by omega, rfl, ⟨Below.refl _ w⟩, ⟨fun j hj => absurd hj (Nat.not_lt_zero _)⟩⟩
  case round =>
    obtain ⟨kk, hkk, hg, rfl, HB, A⟩ := hrel
    by_cases hlt : kk < l0.length
    · have hltz : (kk : Int) < (l0.length : Int) := by omega
      have h0z : 0 ≤ (kk : Int) := by omega
      obtain ⟨ad, e, x0, x1, x2, x3, x4, x5, x6, x7⟩ := at_T39 HR0.out (kk : Int) h0z hltz
      cases e
      have E39 : Aside0 (rd_T39 l0 (kk : Int) = l0.getD kk z39) := ⟨by simp [rd_T39]⟩
      have hn' := (HB.out.cell (World.block_lt_of_cell? w _ HN.out)).trans HN.out
      replace x0 := (HB.out.cell (World.block_lt_of_cell? w _ x0)).trans x0
      replace x1 := (HB.out.cell (World.block_lt_of_cell? w _ x1)).trans x1
      replace x2 := (HB.out.cell (World.block_lt_of_cell? w _ x2)).trans x2
      replace x3 := (HB.out.cell (World.block_lt_of_cell? w _ x3)).trans x3
      replace x4 := (HB.out.cell (World.block_lt_of_cell? w _ x4)).trans x4
      replace x5 := (HB.out.cell (World.block_lt_of_cell? w _ x5)).trans x5
      replace x6 := (HB.out.cell (World.block_lt_of_cell? w _ x6)).trans x6
      replace x7 := (HB.out.cell (World.block_lt_of_cell? w _ x7)).trans x7
      rw [Int.toNat_natCast] at x0 x1 x2 x3 x4 x5 x6 x7
      have hcall := at1_calls (rd_T39 l0 (kk : Int)) n c wr hn'
      clear hn'
      cases hq : ((rd_T39 l0 (kk : Int)).f0.toList == n.toList) with
      | true =>
        have HQ := Aside0.mk hq
        rw [hq] at hcall
        clear hq
        go_wp2_with (go_at_call 96; refine hcall.mono ?_; rintro e w' ⟨rfl, hb'⟩)
        go_ret
        exact ⟨by rw [atOf_hit l0 n kk hlt (by rw [← E39.out]; exact HQ.out) A.out]; rfl, below_then HB.out (HB.out.size) hb'⟩
      | false =>
        have HQ := Aside0.mk hq
        rw [hq] at hcall
        clear hq
        go_wp2_with (go_at_call 96; refine hcall.mono ?_; rintro e w' ⟨rfl, hb'⟩)
        go_roundg (l0.length - (kk + 1))
        case measure => omega
        case rel =>
          refine ⟨kk + 1, by omega, by omega, by go_num, ⟨below_then HB.out (HB.out.size) hb'⟩, ⟨fun j hj => ?_⟩⟩
          by_cases e : j = kk
          · subst e
            rw [← E39.out]; exact HQ.out
          · exact A.out j (by omega)
    · have hltz : ¬ (kk : Int) < (l0.length : Int) := by omega
      have hkk2 : kk = l0.length := by omega
      subst hkk2
      go_wp2
      go_ret
      exact ⟨by rw [atOf_miss l0 n A.out]; rfl, HB.out⟩

set_option maxHeartbeats 8000000 in
set_option maxRecDepth 100000 in
theorem impl_at.calls (A0 : Option Addr) (c0 : Nat) (l0 : List (S39)) (a1 : ByteArray) (r : Int) (w : World) (hr0 : Kd.C k39 w A0 l0.length l0) (hc0 : l0.length ≤ c0) (h : impl_at.f l0 a1 = some r) :
    Calls Try.prog 69 #[.slice A0 l0.length c0, .string a1] w fun e w' => e = .returned (.int .i64 r) ∧ Below w.heap.size w w' := by
  obtain rfl := Option.some.inj h
  clear h
  have hb : Below w.heap.size w (w.alloc (.cells #[.string a1] 9)) := (Below.refl _ _).alloc (Nat.le_refl _) _
  have hcall := indexFunc_calls A0 c0 l0 a1 w.heap.size (w.alloc (.cells #[.string a1] 9)) (Kd.C_below hr0 hb) (by simp)
  have HB := Aside0.mk hb
  clear hb hr0
  go_enter Try.func69, Try.ntmps69
  go_wp2_with (go_at_call 95; refine hcall.mono ?_; rintro e w' ⟨rfl, hb'⟩)
  go_ret
  exact ⟨rfl, below_then HB.out HB.out.size hb'⟩

end Go.Proofs.Ytdkologncoofdaa.P
-- Px29
namespace Go.Proofs.Ytdkologncoofdaa.P
open Go.RowKit Go.Proofs.YtdkologncoofdaaW.PrintWords Go.Proofs.YtdkologncoofdaaW.PrintLast Go.Proofs.YtdkologncoofdaaW.PrintMore
attribute [local go_sem] max2_int min2_int max_two min_two max_three min_three max_four min_four   -- for this text's walks alone
set_option linter.unusedVariables false
set_option linter.unusedSimpArgs false

/-! ### impl_RecOk: function 36 -/
mutual
def impl_RecOk.l0 : Nat → List (S39) → List (S39) → Int → Int → Option (Bool)
 | 0, _, _, _, _ => none
 | k + 1, x0, x11, x12, x13 => if x13 < x12 then (if 0 ≤ x13 then (if x13 < (x11.length : Int) then ((impl_RecPhaseOk.f k ((rd_T39 x11 x13).f0) ((rd_T39 x11 x13).f1) ((rd_T39 x11 x13).f2) ((rd_T39 x11 x13).f3) ((rd_T39 x11 x13).f4) ((rd_T39 x11 x13).f5) ((rd_T39 x11 x13).f6) ((rd_T39 x11 x13).f7)).bind fun t317 => (if t317 = true then ((impl_at.f x0 ((rd_T39 x11 x13).f0)).bind fun t318 => (impl_RecOk.j1 k x0 x13 x11 x12 x13 (t318 != x13) ((rd_T39 x11 x13).f0) ((rd_T39 x11 x13).f1) ((rd_T39 x11 x13).f2) ((rd_T39 x11 x13).f3) ((rd_T39 x11 x13).f4) ((rd_T39 x11 x13).f5) ((rd_T39 x11 x13).f6) ((rd_T39 x11 x13).f7))) else (impl_RecOk.j1 k x0 x13 x11 x12 x13 true ((rd_T39 x11 x13).f0) ((rd_T39 x11 x13).f1) ((rd_T39 x11 x13).f2) ((rd_T39 x11 x13).f3) ((rd_T39 x11 x13).f4) ((rd_T39 x11 x13).f5) ((rd_T39 x11 x13).f6) ((rd_T39 x11 x13).f7)))) else (none)) else (none)) else (some true)
def impl_RecOk.j1 : Nat → List (S39) → Int → List (S39) → Int → Int → Bool → ByteArray → Int → ByteArray → ByteArray → Int → Int → ByteArray → ByteArray → Option (Bool)
 | 0, _, _, _, _, _, _, _, _, _, _, _, _, _, _ => none
 | k + 1, x0, x3, x11, x12, x13, x28, x317000, x317001, x317002, x317003, x317004, x317005, x317006, x317007 => if x28 = true then (some false) else ((some (([x317006, x317007] : List ByteArray) : List ByteArray)).bind fun y319 => (impl_RecOk.l1 k x0 x3 x11 x12 x13 y319 (y319.length : Int) 0))
def impl_RecOk.l1 : Nat → List (S39) → Int → List (S39) → Int → Int → List ByteArray → Int → Int → Option (Bool)
 | 0, _, _, _, _, _, _, _, _ => none
 | k + 1, x0, x3, x11, x12, x13, x33, x34, x35 => if x35 < x34 then (if 0 ≤ x35 then (if x35 < (x33.length : Int) then ((impl_RecEnd.f k (rdOf ByteArray.empty x33 x35)).bind fun t323 => (if t323 = 0 then ((impl_at.f x0 (rdOf ByteArray.empty x33 x35)).bind fun t324 => (if t324 ≤ x3 then (some false) else (impl_RecOk.l1 k x0 x3 x11 x12 x13 x33 x34 (wrap64 (x35 + 1))))) else (impl_RecOk.l1 k x0 x3 x11 x12 x13 x33 x34 (wrap64 (x35 + 1))))) else (none)) else (none)) else (impl_RecOk.l0 k x0 x11 x12 (wrap64 (x13 + 1)))
end
def impl_RecOk.f (k : Nat) (l0 : List (S39)) : Option (Bool) := (impl_in.f (l0.length : Int) 1 12).bind fun t314 => (if t314 = true then (impl_RecOk.l0 k l0 l0 (l0.length : Int) 0) else (some false))
theorem impl_RecOk.mono_l : ∀ k, (∀ y0 y1 y2 y3, LeO (impl_RecOk.l0 k y0 y1 y2 y3) (impl_RecOk.l0 (k + 1) y0 y1 y2 y3)) ∧ (∀ y0 y1 y2 y3 y4 y5 y6 y7 y8 y9 y10 y11 y12 y13, LeO (impl_RecOk.j1 k y0 y1 y2 y3 y4 y5 y6 y7 y8 y9 y10 y11 y12 y13) (impl_RecOk.j1 (k + 1) y0 y1 y2 y3 y4 y5 y6 y7 y8 y9 y10 y11 y12 y13)) ∧ (∀ y0 y1 y2 y3 y4 y5 y6 y7, LeO (impl_RecOk.l1 k y0 y1 y2 y3 y4 y5 y6 y7) (impl_RecOk.l1 (k + 1) y0 y1 y2 y3 y4 y5 y6 y7))
 | 0 => ⟨fun _ _ _ _ r h => by simp [impl_RecOk.l0] at h, fun _ _ _ _ _ _ _ _ _ _ _ _ _ _ r h => by simp [impl_RecOk.j1] at h, fun _ _ _ _ _ _ _ _ r h => by simp [impl_RecOk.l1] at h⟩
 | k + 1 => by
  obtain ⟨ih0, ih1, ih2⟩ := impl_RecOk.mono_l k
  refine ⟨?_, ?_, ?_⟩
  ·intro y0 y1 y2 y3
   unfold impl_RecOk.l0
   repeat' first
   | (with_reducible exact ih0 _ _ _ _)
   | (with_reducible exact ih1 _ _ _ _ _ _ _ _ _ _ _ _ _ _)
   | (with_reducible exact ih2 _ _ _ _ _ _ _ _)
   | (with_reducible exact impl_RecEnd.mono _ _)
   | (with_reducible exact impl_RecPhaseOk.mono _ _ _ _ _ _ _ _ _)
   | (with_reducible exact LeO.refl _)
   | (with_reducible exact LeO.none _)
   | (with_reducible refine LeO.ite ?_ ?_)
   | (with_reducible refine LeO.bind ?_ (fun _ => ?_))
   | exact ih0 _ _ _ _
   | exact ih1 _ _ _ _ _ _ _ _ _ _ _ _ _ _
   | exact ih2 _ _ _ _ _ _ _ _
   | exact impl_RecEnd.mono _ _
   | exact impl_RecPhaseOk.mono _ _ _ _ _ _ _ _ _
   | exact LeO.none _
   | refine LeO.ite ?_ ?_
   | refine LeO.bind ?_ (fun _ => ?_)
  ·intro y0 y1 y2 y3 y4 y5 y6 y7 y8 y9 y10 y11 y12 y13
   unfold impl_RecOk.j1
   repeat' first
   | (with_reducible exact ih0 _ _ _ _)
   | (with_reducible exact ih1 _ _ _ _ _ _ _ _ _ _ _ _ _ _)
   | (with_reducible exact ih2 _ _ _ _ _ _ _ _)
   | (with_reducible exact impl_RecEnd.mono _ _)
   | (with_reducible exact impl_RecPhaseOk.mono _ _ _ _ _ _ _ _ _)
   | (with_reducible exact LeO.refl _)
   | (with_reducible exact LeO.none _)
   | (with_reducible refine LeO.ite ?_ ?_)
   | (with_reducible refine LeO.bind ?_ (fun _ => ?_))
   | exact ih0 _ _ _ _
   | exact ih1 _ _ _ _ _ _ _ _ _ _ _ _ _ _
   | exact ih2 _ _ _ _ _ _ _ _
   | exact impl_RecEnd.mono _ _
   | exact impl_RecPhaseOk.mono _ _ _ _ _ _ _ _ _
   | exact LeO.none _
   | refine LeO.ite ?_ ?_
   | refine LeO.bind ?_ (fun _ => ?_)
  ·intro y0 y1 y2 y3 y4 y5 y6 y7
   unfold impl_RecOk.l1
   repeat' first
   | (with_reducible exact ih0 _ _ _ _)
   | (with_reducible exact ih1 _ _ _ _ _ _ _ _ _ _ _ _ _ _)
   | (with_reducible exact ih2 _ _ _ _ _ _ _ _)
   | (with_reducible exact impl_RecEnd.mono _ _)
   | (with_reducible exact impl_RecPhaseOk.mono _ _ _ _ _ _ _ _ _)
   | (with_reducible exact LeO.refl _)
   | (with_reducible exact LeO.none _)
   | (with_reducible refine LeO.ite ?_ ?_)
   | (with_reducible refine LeO.bind ?_ (fun _ => ?_))
   | exact ih0 _ _ _ _
   | exact ih1 _ _ _ _ _ _ _ _ _ _ _ _ _ _
   | exact ih2 _ _ _ _ _ _ _ _
   | exact impl_RecEnd.mono _ _
   | exact impl_RecPhaseOk.mono _ _ _ _ _ _ _ _ _
   | exact LeO.none _
   | refine LeO.ite ?_ ?_
   | refine LeO.bind ?_ (fun _ => ?_)
theorem impl_RecOk.mono : ∀ a0 k, LeO (impl_RecOk.f k a0) (impl_RecOk.f (k + 1) a0) := by
 intro a0 k
 obtain ⟨ih0, ih1, ih2⟩ := impl_RecOk.mono_l k
 unfold impl_RecOk.f
 repeat' first
   | (with_reducible exact ih0 _ _ _ _)
   | (with_reducible exact ih1 _ _ _ _ _ _ _ _ _ _ _ _ _ _)
   | (with_reducible exact ih2 _ _ _ _ _ _ _ _)
   | (with_reducible exact impl_RecEnd.mono _ _)
   | (with_reducible exact impl_RecPhaseOk.mono _ _ _ _ _ _ _ _ _)
   | (with_reducible exact LeO.refl _)
   | (with_reducible exact LeO.none _)
   | (with_reducible refine LeO.ite ?_ ?_)
   | (with_reducible refine LeO.bind ?_ (fun _ => ?_))
   | exact ih0 _ _ _ _
   | exact ih1 _ _ _ _ _ _ _ _ _ _ _ _ _ _
   | exact ih2 _ _ _ _ _ _ _ _
   | exact impl_RecEnd.mono _ _
   | exact impl_RecPhaseOk.mono _ _ _ _ _ _ _ _ _
   | exact LeO.none _
   | refine LeO.ite ?_ ?_
   | refine LeO.bind ?_ (fun _ => ?_)
set_option maxHeartbeats 8000000 in
set_option maxRecDepth 100000 in
theorem impl_RecOk.calls (k : Nat) (A0 : Option Addr) (c0 : Nat) (l0 : List (S39)) (r : Bool) (w : World) (hr0 : Kd.C k39 w A0 l0.length l0) (hc0 : l0.length ≤ c0) (h : impl_RecOk.f k l0 = some r) :
  Calls Try.prog 36 #[.slice A0 l0.length c0] w fun e w' => e = .returned (.bool r) ∧ Below w.heap.size w w' := by
 have hu39 := Try.underlying39
 have HR0 := Aside0.mk hr0
 have HC0 := Aside0.mk hc0
 clear hr0 hc0
 have HB := Aside0.mk (Below.refl w.heap.size w)
 have H : ((impl_in.f (l0.length : Int) 1 12).bind fun t314 => (if t314 = true then (impl_RecOk.l0 k l0 l0 (l0.length : Int) 0) else (some false))) = some r := h
 clear h
 replace H := Option.bind_eq_some_iff.mp H
 obtain ⟨t314, A20, H⟩ := H
 try dsimp only at H
 have A2 := Aside0.mk A20
 clear A20
 by_cases c3 : t314 = true
 ·subst c3
  rw [if_pos rfl] at H
  have H' := Aside0.mk H
  clear H
  go_enter Try.func36, Try.ntmps36
  go_wp2_with (first | ((with_reducible refine gate_callee (f := 68) rfl ?_); refine goesL_ (some 9) rfl rfl Try.func68 (by kernel_rfl) rfl #[.int .i64 (l0.length : Int), .int .i64 1, .int .i64 12] rfl mxp ?_; (with_reducible refine (impl_in.calls (l0.length : Int) 1 12 true _ A2.out).mono ?_); rintro e w' ⟨rfl, ⟨nd, rfl⟩⟩; refine ⟨_, rfl, ?_⟩))
  go_loopg [13] k (fun kq v13 w' => ∃ (x13_1 : Int), v13 = .int .i64 x13_1 ∧ Aside0 (impl_RecOk.l0 kq l0 l0 (l0.length : Int) x13_1 = some r) ∧ Aside0 (kq ≤ k) ∧ Aside0 (Below w.heap.size w w'))
  case atStart => exact ⟨(0), (by first | rfl | (simp; done) | (simp [*]; done)), H', ⟨Nat.le_refl _⟩, (hbw HB)⟩
  case round =>
   clear H'
   obtain ⟨x13_1, rfl, HA, HK1, HB⟩ := hrel
   cases gk with
   | zero => exact absurd HA.out (by simp [impl_RecOk.l0])
   | succ k1 =>
    have H := HA.out
    clear HA
    simp only [impl_RecOk.l0] at H
    by_cases c4 : x13_1 < (l0.length : Int)
    ·rw [if_pos c4] at H
     have c4b0 : decide (x13_1 < (l0.length : Int)) = true := decide_eq_true c4
     clear c4
     by_cases c5 : 0 ≤ x13_1
     ·rw [if_pos c5] at H
      have c5b0 : decide (0 ≤ x13_1) = true := decide_eq_true c5
      clear c5
      by_cases c6 : x13_1 < (l0.length : Int)
      ·rw [if_pos c6] at H
       have c6b0 : decide (x13_1 < (l0.length : Int)) = true := decide_eq_true c6
       clear c6
       have HC7 := Aside0.mk H
       clear H
       have p315 : 0 ≤ (x13_1 : Int) := oda
       have q315 : x13_1 < (l0.length : Int) := oda
       obtain ⟨ad315, e315, hx315_0, hx315_1, hx315_2, hx315_3, hx315_4, hx315_5, hx315_6, hx315_7⟩ := at_T39 HR0.out x13_1 p315 q315
       cases e315
       replace hx315_0 := bcl HB hx315_0
       replace hx315_1 := bcl HB hx315_1
       replace hx315_2 := bcl HB hx315_2
       replace hx315_3 := bcl HB hx315_3
       replace hx315_4 := bcl HB hx315_4
       replace hx315_5 := bcl HB hx315_5
       replace hx315_6 := bcl HB hx315_6
       replace hx315_7 := bcl HB hx315_7
       replace p315 := eq_true p315
       replace q315 := eq_true q315
       go_upto_region 6 with (first | ((with_reducible refine gate_dst (N := 4) rfl ?_); refine box_event ?hg (N := 4) ?hd (cs := #[.string (⟨#[]⟩ : ByteArray), .int .i64 0, .string (⟨#[]⟩ : ByteArray), .string (⟨#[]⟩ : ByteArray), .int .i64 0, .int .i64 0, .string (⟨#[]⟩ : ByteArray), .string (⟨#[]⟩ : ByteArray)]) (t := 39) ?hr ?_; (case hd => rfl); (case hg => rfl); (case hr => first | (go_simp; done) | (go_simp; rfl)); intro gb316 hg w8 hbox hb; have t_ := And.intro (bs HB hb) <| And.intro (Aside0.mk (hbox)) <| And.intro (gh hg HB) <| (gh hg HB); clear HB; obtain ⟨HB, BK316, GW316, GE316⟩ := t_; clear hb hbox hg; have hcz9_0 := b0 BK316; have hcz9_1 := b1 BK316; have hcz9_2 := b2 BK316; have hcz9_3 := b3 BK316; have hcz9_4 := b4 BK316; have hcz9_5 := b5 BK316; have hcz9_6 := b6 BK316; have hcz9_7 := b7 BK316; have hfz9_0 := fz BK316 0; have hfz9_1 := fz BK316 1; have hfz9_2 := fz BK316 2; have hfz9_3 := fz BK316 3; have hfz9_4 := fz BK316 4; have hfz9_5 := fz BK316 5; have hfz9_6 := fz BK316 6; have hfz9_7 := fz BK316 7))
       (try simp only [Act.put, List.setIfInBounds_toArray, List.set_cons_zero, List.set_cons_succ])
       go_cut [28] (fun v28 wc => ∃ (kq : Nat) (x28_6 : Bool), v28 = .bool x28_6 ∧ Aside0 (impl_RecOk.j1 kq l0 x13_1 l0 (l0.length : Int) x13_1 x28_6 ((rd_T39 l0 x13_1).f0) ((rd_T39 l0 x13_1).f1) ((rd_T39 l0 x13_1).f2) ((rd_T39 l0 x13_1).f3) ((rd_T39 l0 x13_1).f4) ((rd_T39 l0 x13_1).f5) ((rd_T39 l0 x13_1).f6) ((rd_T39 l0 x13_1).f7) = some r) ∧ Aside0 (kq ≤ k1) ∧ Aside0 (wc.heap[gb316]? = some (.cells #[.string ((rd_T39 l0 x13_1).f0), .int .i64 ((rd_T39 l0 x13_1).f1), .string ((rd_T39 l0 x13_1).f2), .string ((rd_T39 l0 x13_1).f3), .int .i64 ((rd_T39 l0 x13_1).f4), .int .i64 ((rd_T39 l0 x13_1).f5), .string ((rd_T39 l0 x13_1).f6), .string ((rd_T39 l0 x13_1).f7)] 39 (0, 0))) ∧ Aside0 (Below w.heap.size w wc))
       case first =>
        have H := HC7.out
        clear HC7
        replace H := Option.bind_eq_some_iff.mp H
        obtain ⟨t317, A100, H⟩ := H
        try dsimp only at H
        have A10 := Aside0.mk A100
        clear A100
        by_cases c11 : t317 = true
        ·subst c11
         rw [if_pos rfl] at H
         replace H := Option.bind_eq_some_iff.mp H
         obtain ⟨t318, A120, H⟩ := H
         try dsimp only at H
         have A12 := Aside0.mk A120
         clear A120
         have H' := Aside0.mk H
         clear H
         have hcz13_0 := b0 BK316
         have hcz13_1 := b1 BK316
         have hcz13_2 := b2 BK316
         have hcz13_3 := b3 BK316
         have hcz13_4 := b4 BK316
         have hcz13_5 := b5 BK316
         have hcz13_6 := b6 BK316
         have hcz13_7 := b7 BK316
         have hfz13_0 := fz BK316 0
         have hfz13_1 := fz BK316 1
         have hfz13_2 := fz BK316 2
         have hfz13_3 := fz BK316 3
         have hfz13_4 := fz BK316 4
         have hfz13_5 := fz BK316 5
         have hfz13_6 := fz BK316 6
         have hfz13_7 := fz BK316 7
         go_wp2_with (first | ((with_reducible refine gate_callee (f := 34) rfl ?_); refine goesL_ (some 19) rfl rfl Try.func34 (by kernel_rfl) rfl #[.agg #[.string ((rd_T39 l0 x13_1).f0), .int .i64 ((rd_T39 l0 x13_1).f1), .string ((rd_T39 l0 x13_1).f2), .string ((rd_T39 l0 x13_1).f3), .int .i64 ((rd_T39 l0 x13_1).f4), .int .i64 ((rd_T39 l0 x13_1).f5), .string ((rd_T39 l0 x13_1).f6), .string ((rd_T39 l0 x13_1).f7)]] rfl mxp ?_; (with_reducible refine (impl_RecPhaseOk.calls k1 ((rd_T39 l0 x13_1).f0) ((rd_T39 l0 x13_1).f1) ((rd_T39 l0 x13_1).f2) ((rd_T39 l0 x13_1).f3) ((rd_T39 l0 x13_1).f4) ((rd_T39 l0 x13_1).f5) ((rd_T39 l0 x13_1).f6) ((rd_T39 l0 x13_1).f7) true _ A10.out).mono ?_); rintro e w14 ⟨rfl, hb⟩; refine ⟨_, rfl, ?_⟩; have t_ := And.intro (Aside0.mk (blk_below (g := gb316) (o := .cells #[.string ((rd_T39 l0 x13_1).f0), .int .i64 ((rd_T39 l0 x13_1).f1), .string ((rd_T39 l0 x13_1).f2), .string ((rd_T39 l0 x13_1).f3), .int .i64 ((rd_T39 l0 x13_1).f4), .int .i64 ((rd_T39 l0 x13_1).f5), .string ((rd_T39 l0 x13_1).f6), .string ((rd_T39 l0 x13_1).f7)] 39 (0, 0)) (by refine bx ?_; refine blk_put (cs := #[.string ((rd_T39 l0 x13_1).f0), .int .i64 ((rd_T39 l0 x13_1).f1), .string ((rd_T39 l0 x13_1).f2), .string ((rd_T39 l0 x13_1).f3), .int .i64 ((rd_T39 l0 x13_1).f4), .int .i64 ((rd_T39 l0 x13_1).f5), .string ((rd_T39 l0 x13_1).f6), .string (⟨#[]⟩ : ByteArray)]) ?_ 7 _ rfl; refine bx ?_; refine blk_put (cs := #[.string ((rd_T39 l0 x13_1).f0), .int .i64 ((rd_T39 l0 x13_1).f1), .string ((rd_T39 l0 x13_1).f2), .string ((rd_T39 l0 x13_1).f3), .int .i64 ((rd_T39 l0 x13_1).f4), .int .i64 ((rd_T39 l0 x13_1).f5), .string (⟨#[]⟩ : ByteArray), .string (⟨#[]⟩ : ByteArray)]) ?_ 6 _ rfl; refine bx ?_; refine blk_put (cs := #[.string ((rd_T39 l0 x13_1).f0), .int .i64 ((rd_T39 l0 x13_1).f1), .string ((rd_T39 l0 x13_1).f2), .string ((rd_T39 l0 x13_1).f3), .int .i64 ((rd_T39 l0 x13_1).f4), .int .i64 0, .string (⟨#[]⟩ : ByteArray), .string (⟨#[]⟩ : ByteArray)]) ?_ 5 _ rfl; refine bx ?_; refine blk_put (cs := #[.string ((rd_T39 l0 x13_1).f0), .int .i64 ((rd_T39 l0 x13_1).f1), .string ((rd_T39 l0 x13_1).f2), .string ((rd_T39 l0 x13_1).f3), .int .i64 0, .int .i64 0, .string (⟨#[]⟩ : ByteArray), .string (⟨#[]⟩ : ByteArray)]) ?_ 4 _ rfl; refine bx ?_; refine blk_put (cs := #[.string ((rd_T39 l0 x13_1).f0), .int .i64 ((rd_T39 l0 x13_1).f1), .string ((rd_T39 l0 x13_1).f2), .string (⟨#[]⟩ : ByteArray), .int .i64 0, .int .i64 0, .string (⟨#[]⟩ : ByteArray), .string (⟨#[]⟩ : ByteArray)]) ?_ 3 _ rfl; refine bx ?_; refine blk_put (cs := #[.string ((rd_T39 l0 x13_1).f0), .int .i64 ((rd_T39 l0 x13_1).f1), .string (⟨#[]⟩ : ByteArray), .string (⟨#[]⟩ : ByteArray), .int .i64 0, .int .i64 0, .string (⟨#[]⟩ : ByteArray), .string (⟨#[]⟩ : ByteArray)]) ?_ 2 _ rfl; refine bx ?_; refine blk_put (cs := #[.string ((rd_T39 l0 x13_1).f0), .int .i64 0, .string (⟨#[]⟩ : ByteArray), .string (⟨#[]⟩ : ByteArray), .int .i64 0, .int .i64 0, .string (⟨#[]⟩ : ByteArray), .string (⟨#[]⟩ : ByteArray)]) ?_ 1 _ rfl; refine bx ?_; refine blk_put (cs := #[.string (⟨#[]⟩ : ByteArray), .int .i64 0, .string (⟨#[]⟩ : ByteArray), .string (⟨#[]⟩ : ByteArray), .int .i64 0, .int .i64 0, .string (⟨#[]⟩ : ByteArray), .string (⟨#[]⟩ : ByteArray)]) ?_ 0 _ rfl; refine bx ?_; exact BK316.out) hb)) <| (bs HB hb); clear BK316 HB; obtain ⟨BK316, HB⟩ := t_; (try clear hb); (try clear hb2); (try clear hk); (try clear hi); have hcz15_0 := b0 BK316; have hcz15_1 := b1 BK316; have hcz15_2 := b2 BK316; have hcz15_3 := b3 BK316; have hcz15_4 := b4 BK316; have hcz15_5 := b5 BK316; have hcz15_6 := b6 BK316; have hcz15_7 := b7 BK316; have hfz15_0 := fz BK316 0; have hfz15_1 := fz BK316 1; have hfz15_2 := fz BK316 2; have hfz15_3 := fz BK316 3; have hfz15_4 := fz BK316 4; have hfz15_5 := fz BK316 5; have hfz15_6 := fz BK316 6; have hfz15_7 := fz BK316 7) | (go_at_call 69; (with_reducible refine (impl_at.calls _ _ l0 ((rd_T39 l0 x13_1).f0) t318 _ ?side1 ?side2 A12.out).mono ?_); (case side1 => exact cx (Kd.C_below HR0.out HB.out)); (case side2 => exact HC0.out); rintro e w16 ⟨rfl, hb⟩; replace BK316 := up BK316 hb; replace HB := bs HB hb; (try clear hb); (try clear hb2); (try clear hk); (try clear hi)))
         go_meet
         case rel => exact ⟨_, ((t318 != x13_1)), (by first | rfl | (simp; done) | (simp [*]; done)), H', ⟨by have := HK1.out; first | omega | exact Nat.le_refl _⟩, (bk BK316), (hbw HB)⟩
        ·replace c11 := Bool.eq_false_iff.mpr c11
         subst c11
         rw [if_neg (show ¬ (false = true) by decide)] at H
         have H' := Aside0.mk H
         clear H
         have hcz17_0 := b0 BK316
         have hcz17_1 := b1 BK316
         have hcz17_2 := b2 BK316
         have hcz17_3 := b3 BK316
         have hcz17_4 := b4 BK316
         have hcz17_5 := b5 BK316
         have hcz17_6 := b6 BK316
         have hcz17_7 := b7 BK316
         have hfz17_0 := fz BK316 0
         have hfz17_1 := fz BK316 1
         have hfz17_2 := fz BK316 2
         have hfz17_3 := fz BK316 3
         have hfz17_4 := fz BK316 4
         have hfz17_5 := fz BK316 5
         have hfz17_6 := fz BK316 6
         have hfz17_7 := fz BK316 7
         go_wp2_with (first | ((with_reducible refine gate_callee (f := 34) rfl ?_); refine goesL_ (some 19) rfl rfl Try.func34 (by kernel_rfl) rfl #[.agg #[.string ((rd_T39 l0 x13_1).f0), .int .i64 ((rd_T39 l0 x13_1).f1), .string ((rd_T39 l0 x13_1).f2), .string ((rd_T39 l0 x13_1).f3), .int .i64 ((rd_T39 l0 x13_1).f4), .int .i64 ((rd_T39 l0 x13_1).f5), .string ((rd_T39 l0 x13_1).f6), .string ((rd_T39 l0 x13_1).f7)]] rfl mxp ?_; (with_reducible refine (impl_RecPhaseOk.calls k1 ((rd_T39 l0 x13_1).f0) ((rd_T39 l0 x13_1).f1) ((rd_T39 l0 x13_1).f2) ((rd_T39 l0 x13_1).f3) ((rd_T39 l0 x13_1).f4) ((rd_T39 l0 x13_1).f5) ((rd_T39 l0 x13_1).f6) ((rd_T39 l0 x13_1).f7) false _ A10.out).mono ?_); rintro e w18 ⟨rfl, hb⟩; refine ⟨_, rfl, ?_⟩; have t_ := And.intro (Aside0.mk (blk_below (g := gb316) (o := .cells #[.string ((rd_T39 l0 x13_1).f0), .int .i64 ((rd_T39 l0 x13_1).f1), .string ((rd_T39 l0 x13_1).f2), .string ((rd_T39 l0 x13_1).f3), .int .i64 ((rd_T39 l0 x13_1).f4), .int .i64 ((rd_T39 l0 x13_1).f5), .string ((rd_T39 l0 x13_1).f6), .string ((rd_T39 l0 x13_1).f7)] 39 (0, 0)) (by refine bx ?_; refine blk_put (cs := #[.string ((rd_T39 l0 x13_1).f0), .int .i64 ((rd_T39 l0 x13_1).f1), .string ((rd_T39 l0 x13_1).f2), .string ((rd_T39 l0 x13_1).f3), .int .i64 ((rd_T39 l0 x13_1).f4), .int .i64 ((rd_T39 l0 x13_1).f5), .string ((rd_T39 l0 x13_1).f6), .string (⟨#[]⟩ : ByteArray)]) ?_ 7 _ rfl; refine bx ?_; refine blk_put (cs := #[.string ((rd_T39 l0 x13_1).f0), .int .i64 ((rd_T39 l0 x13_1).f1), .string ((rd_T39 l0 x13_1).f2), .string ((rd_T39 l0 x13_1).f3), .int .i64 ((rd_T39 l0 x13_1).f4), .int .i64 ((rd_T39 l0 x13_1).f5), .string (⟨#[]⟩ : ByteArray), .string (⟨#[]⟩ : ByteArray)]) ?_ 6 _ rfl; refine bx ?_; refine blk_put (cs := #[.string ((rd_T39 l0 x13_1).f0), .int .i64 ((rd_T39 l0 x13_1).f1), .string ((rd_T39 l0 x13_1).f2), .string ((rd_T39 l0 x13_1).f3), .int .i64 ((rd_T39 l0 x13_1).f4), .int .i64 0, .string (⟨#[]⟩ : ByteArray), .string (⟨#[]⟩ : ByteArray)]) ?_ 5 _ rfl; refine bx ?_; refine blk_put (cs := #[.string ((rd_T39 l0 x13_1).f0), .int .i64 ((rd_T39 l0 x13_1).f1), .string ((rd_T39 l0 x13_1).f2), .string ((rd_T39 l0 x13_1).f3), .int .i64 0, .int .i64 0, .string (⟨#[]⟩ : ByteArray), .string (⟨#[]⟩ : ByteArray)]) ?_ 4 _ rfl; refine bx ?_; refine blk_put (cs := #[.string ((rd_T39 l0 x13_1).f0), .int .i64 ((rd_T39 l0 x13_1).f1), .string ((rd_T39 l0 x13_1).f2), .string (⟨#[]⟩ : ByteArray), .int .i64 0, .int .i64 0, .string (⟨#[]⟩ : ByteArray), .string (⟨#[]⟩ : ByteArray)]) ?_ 3 _ rfl; refine bx ?_; refine blk_put (cs := #[.string ((rd_T39 l0 x13_1).f0), .int .i64 ((rd_T39 l0 x13_1).f1), .string (⟨#[]⟩ : ByteArray), .string (⟨#[]⟩ : ByteArray), .int .i64 0, .int .i64 0, .string (⟨#[]⟩ : ByteArray), .string (⟨#[]⟩ : ByteArray)]) ?_ 2 _ rfl; refine bx ?_; refine blk_put (cs := #[.string ((rd_T39 l0 x13_1).f0), .int .i64 0, .string (⟨#[]⟩ : ByteArray), .string (⟨#[]⟩ : ByteArray), .int .i64 0, .int .i64 0, .string (⟨#[]⟩ : ByteArray), .string (⟨#[]⟩ : ByteArray)]) ?_ 1 _ rfl; refine bx ?_; refine blk_put (cs := #[.string (⟨#[]⟩ : ByteArray), .int .i64 0, .string (⟨#[]⟩ : ByteArray), .string (⟨#[]⟩ : ByteArray), .int .i64 0, .int .i64 0, .string (⟨#[]⟩ : ByteArray), .string (⟨#[]⟩ : ByteArray)]) ?_ 0 _ rfl; refine bx ?_; exact BK316.out) hb)) <| (bs HB hb); clear BK316 HB; obtain ⟨BK316, HB⟩ := t_; (try clear hb); (try clear hb2); (try clear hk); (try clear hi)))
         go_meet
         case rel => exact ⟨_, (true), (by first | rfl | (simp; done) | (simp [*]; done)), H', ⟨by have := HK1.out; first | omega | exact Nat.le_refl _⟩, (bk BK316), (hbw HB)⟩
       case rest =>
        clear HC7
        obtain ⟨kq, x28_6, rfl, HA, HJ6, BK316, HB⟩ := hcut
        cases kq with
        | zero => exact absurd HA.out (by simp [impl_RecOk.j1])
        | succ kj6 =>
         have H := HA.out
         clear HA
         simp only [impl_RecOk.j1] at H
         by_cases c19 : x28_6 = true
         ·subst c19
          rw [if_pos rfl] at H
          obtain rfl := Option.some.inj H
          go_wp2
          go_ret
          exact ⟨exq, bw HB.out⟩
         ·replace c19 := Bool.eq_false_iff.mpr c19
          subst c19
          rw [if_neg (show ¬ (false = true) by decide)] at H
          obtain ⟨y319, hy319⟩ : ∃ y_ : List ByteArray, y_ = (([((rd_T39 l0 x13_1).f6), ((rd_T39 l0 x13_1).f7)] : List ByteArray)) := ⟨_, rfl⟩
          replace H : (impl_RecOk.l1 kj6 l0 x13_1 l0 (l0.length : Int) x13_1 y319 (y319.length : Int) 0) = some r := rpl H hy319
          have Ny319 := Aside0.mk hy319
          clear hy319
          have H' := Aside0.mk H
          clear H
          have hcz20_0 := b0 BK316
          have hcz20_1 := b1 BK316
          have hcz20_2 := b2 BK316
          have hcz20_3 := b3 BK316
          have hcz20_4 := b4 BK316
          have hcz20_5 := b5 BK316
          have hcz20_6 := b6 BK316
          have hcz20_7 := b7 BK316
          have hfz20_0 := fz BK316 0
          have hfz20_1 := fz BK316 1
          have hfz20_2 := fz BK316 2
          have hfz20_3 := fz BK316 3
          have hfz20_4 := fz BK316 4
          have hfz20_5 := fz BK316 5
          have hfz20_6 := fz BK316 6
          have hfz20_7 := fz BK316 7
          go_wp2_with (first | ((with_reducible refine gate_dst (N := 33) rfl ?_); refine Kd.R_lit Kd.string _ 9 ?hg (N := 33) ?hd (xs := ([((rd_T39 l0 x13_1).f6), ((rd_T39 l0 x13_1).f7)] : List ByteArray)) (inner := [.string ((rd_T39 l0 x13_1).f6), .string ((rd_T39 l0 x13_1).f7)]) (ok := fun _ => True) (okp := fun _ => True) ?hr ?hp (fun _ hk => hk) trivial (Below.refl _ _) (Nat.le_refl _) (by simp) ?_; (case hd => rfl); (case hg => rfl); (case hr => first | (go_simp; done) | (go_simp; rfl)); (case hp => exact (Reps.one (show Kd.M Kd.string _ _ _ ((rd_T39 l0 x13_1).f6) [.string ((rd_T39 l0 x13_1).f6)] from rfl) (Reps.one (show Kd.M Kd.string _ _ _ ((rd_T39 l0 x13_1).f7) [.string ((rd_T39 l0 x13_1).f7)] from rfl) (Reps.none _ _)))); intro v320 w21 ho22 hb hg_ hnew_; clear hg_ hnew_; (first | rw [← Ny319.out] at ho22 | (simp only [Int.reduceToNat] at ho22; rw [← Ny319.out] at ho22)); have t_ := And.intro (Aside0.mk (Kd.R_lower ho22 (below_size (bw HB.out)))) <| And.intro (up BK316 hb) <| (bs HB hb); clear BK316 HB; obtain ⟨HO321, BK316, HB⟩ := t_; clear hb ho22; obtain ⟨Ao23, co23, eo23⟩ := Kd.R_slice HO321.out; subst eo23))
          go_loopg [35] kj6 (fun kq v35 w' => ∃ (x35_3 : Int), v35 = .int .i64 x35_3 ∧ Aside0 (impl_RecOk.l1 kq l0 x13_1 l0 (l0.length : Int) x13_1 y319 (y319.length : Int) x35_3 = some r) ∧ Aside0 (kq ≤ kj6) ∧ Aside0 (Kd.R Kd.string 9 w' w.heap.size (fun _ => True) (.slice Ao23 y319.length co23) y319) ∧ Aside0 (w'.heap[gb316]? = some (.cells #[.string ((rd_T39 l0 x13_1).f0), .int .i64 ((rd_T39 l0 x13_1).f1), .string ((rd_T39 l0 x13_1).f2), .string ((rd_T39 l0 x13_1).f3), .int .i64 ((rd_T39 l0 x13_1).f4), .int .i64 ((rd_T39 l0 x13_1).f5), .string ((rd_T39 l0 x13_1).f6), .string ((rd_T39 l0 x13_1).f7)] 39 (0, 0))) ∧ Aside0 (Below w.heap.size w w'))
          case atStart => exact ⟨(0), (by first | rfl | (simp; done) | (simp [*]; done)), H', ⟨Nat.le_refl _⟩, ⟨by refine rx ?_; exact HO321.out⟩, (bk BK316), (hbw HB)⟩
          case round =>
           clear H'
           obtain ⟨x35_3, rfl, HA, HK3, HO_33, BK316, HB⟩ := hrel
           cases gk with
           | zero => exact absurd HA.out (by simp [impl_RecOk.l1])
           | succ k3 =>
            have H := HA.out
            clear HA
            simp only [impl_RecOk.l1] at H
            by_cases c24 : x35_3 < (y319.length : Int)
            ·rw [if_pos c24] at H
             have c24b0 : decide (x35_3 < (y319.length : Int)) = true := decide_eq_true c24
             clear c24
             by_cases c25 : 0 ≤ x35_3
             ·rw [if_pos c25] at H
              have c25b0 : decide (0 ≤ x35_3) = true := decide_eq_true c25
              clear c25
              by_cases c26 : x35_3 < (y319.length : Int)
              ·rw [if_pos c26] at H
               have c26b0 : decide (x35_3 < (y319.length : Int)) = true := decide_eq_true c26
               clear c26
               replace H := Option.bind_eq_some_iff.mp H
               obtain ⟨t323, A270, H⟩ := H
               try dsimp only at H
               have A27 := Aside0.mk A270
               clear A270
               by_cases c28 : t323 = 0
               ·rw [if_pos c28] at H
                have c28b0 : (t323 == 0) = true := beq_iff_eq.mpr c28
                have c28b1 : (t323 != 0) = false := bne_eq_false_iff_eq.mpr c28
                clear c28
                replace H := Option.bind_eq_some_iff.mp H
                obtain ⟨t324, A290, H⟩ := H
                try dsimp only at H
                have A29 := Aside0.mk A290
                clear A290
                by_cases c30 : t324 ≤ x13_1
                ·rw [if_pos c30] at H
                 have c30b0 : decide (t324 ≤ x13_1) = true := decide_eq_true c30
                 clear c30
                 obtain rfl := Option.some.inj H
                 have p322 : 0 ≤ (x35_3 : Int) := oda
                 have q322 : x35_3 < (y319.length : Int) := oda
                 obtain ⟨ad322, e322, hx322_0⟩ := Kd.at_string (Kd.R_reads' HO_33.out).2.2 x35_3 p322 q322
                 cases e322
                 replace p322 := eq_true p322
                 replace q322 := eq_true q322
                 go_wp2_with (first | ((with_reducible refine gate_callee (f := 19) rfl ?_); refine goesL_ (some 40) rfl rfl Try.func19 (by kernel_rfl) rfl #[.string (rdOf ByteArray.empty y319 x35_3)] rfl mxp ?_; (with_reducible refine (impl_RecEnd.calls k3 (rdOf ByteArray.empty y319 x35_3) t323 _ A27.out).mono ?_); rintro e w31 ⟨rfl, hb⟩; refine ⟨_, rfl, ?_⟩; have t_ := And.intro (Aside0.mk (Kd.R_below (rx HO_33.out) hb)) <| And.intro (up BK316 hb) <| (bs HB hb); clear HO_33 BK316 HB; obtain ⟨HO_33, BK316, HB⟩ := t_; (try clear hb); (try clear hb2); (try clear hk); (try clear hi)) | (go_at_call 69; (with_reducible refine (impl_at.calls _ _ l0 (rdOf ByteArray.empty y319 x35_3) t324 _ ?side1 ?side2 A29.out).mono ?_); (case side1 => exact cx (Kd.C_below HR0.out HB.out)); (case side2 => exact HC0.out); rintro e w32 ⟨rfl, hb⟩; have t_ := And.intro (Aside0.mk (Kd.R_below (rx HO_33.out) hb)) <| And.intro (up BK316 hb) <| (bs HB hb); clear HO_33 BK316 HB; obtain ⟨HO_33, BK316, HB⟩ := t_; (try clear hb); (try clear hb2); (try clear hk); (try clear hi)))
                 go_ret
                 exact ⟨exq, bw HB.out⟩
                ·rw [if_neg c30] at H
                 have c30b0 : decide (t324 ≤ x13_1) = false := decide_eq_false c30
                 clear c30
                 have H' := Aside0.mk H
                 clear H
                 have p322 : 0 ≤ (x35_3 : Int) := oda
                 have q322 : x35_3 < (y319.length : Int) := oda
                 obtain ⟨ad322, e322, hx322_0⟩ := Kd.at_string (Kd.R_reads' HO_33.out).2.2 x35_3 p322 q322
                 cases e322
                 replace p322 := eq_true p322
                 replace q322 := eq_true q322
                 go_wp2_with (first | ((with_reducible refine gate_callee (f := 19) rfl ?_); refine goesL_ (some 40) rfl rfl Try.func19 (by kernel_rfl) rfl #[.string (rdOf ByteArray.empty y319 x35_3)] rfl mxp ?_; (with_reducible refine (impl_RecEnd.calls k3 (rdOf ByteArray.empty y319 x35_3) t323 _ A27.out).mono ?_); rintro e w33 ⟨rfl, hb⟩; refine ⟨_, rfl, ?_⟩; have t_ := And.intro (Aside0.mk (Kd.R_below (rx HO_33.out) hb)) <| And.intro (up BK316 hb) <| (bs HB hb); clear HO_33 BK316 HB; obtain ⟨HO_33, BK316, HB⟩ := t_; (try clear hb); (try clear hb2); (try clear hk); (try clear hi)) | (go_at_call 69; (with_reducible refine (impl_at.calls _ _ l0 (rdOf ByteArray.empty y319 x35_3) t324 _ ?side1 ?side2 A29.out).mono ?_); (case side1 => exact cx (Kd.C_below HR0.out HB.out)); (case side2 => exact HC0.out); rintro e w34 ⟨rfl, hb⟩; have t_ := And.intro (Aside0.mk (Kd.R_below (rx HO_33.out) hb)) <| And.intro (up BK316 hb) <| (bs HB hb); clear HO_33 BK316 HB; obtain ⟨HO_33, BK316, HB⟩ := t_; (try clear hb); (try clear hb2); (try clear hk); (try clear hi)))
                 go_roundg k3
                 case measure => have := HK1.out; have := HJ6.out; have := HK3.out; omega
                 case rel => exact ⟨(wrap64 (x35_3 + 1)), (by first | rfl | (simp; done) | (simp [*]; done)), H', ⟨by have := HK1.out; have := HJ6.out; have := HK3.out; omega⟩, ⟨by refine rx ?_; exact HO_33.out⟩, (bk BK316), (hbw HB)⟩
               ·rw [if_neg c28] at H
                have c28b0 : (t323 == 0) = false := beq_eq_false_iff_ne.mpr c28
                have c28b1 : (t323 != 0) = true := bne_iff_ne.mpr c28
                have H' := Aside0.mk H
                clear H
                have p322 : 0 ≤ (x35_3 : Int) := oda
                have q322 : x35_3 < (y319.length : Int) := oda
                obtain ⟨ad322, e322, hx322_0⟩ := Kd.at_string (Kd.R_reads' HO_33.out).2.2 x35_3 p322 q322
                cases e322
                replace p322 := eq_true p322
                replace q322 := eq_true q322
                go_wp2_with (first | ((with_reducible refine gate_callee (f := 19) rfl ?_); refine goesL_ (some 40) rfl rfl Try.func19 (by kernel_rfl) rfl #[.string (rdOf ByteArray.empty y319 x35_3)] rfl mxp ?_; (with_reducible refine (impl_RecEnd.calls k3 (rdOf ByteArray.empty y319 x35_3) t323 _ A27.out).mono ?_); rintro e w35 ⟨rfl, hb⟩; refine ⟨_, rfl, ?_⟩; have t_ := And.intro (Aside0.mk (Kd.R_below (rx HO_33.out) hb)) <| And.intro (up BK316 hb) <| (bs HB hb); clear HO_33 BK316 HB; obtain ⟨HO_33, BK316, HB⟩ := t_; (try clear hb); (try clear hb2); (try clear hk); (try clear hi)))
                go_roundg k3
                case measure => have := HK1.out; have := HJ6.out; have := HK3.out; omega
                case rel => exact ⟨(wrap64 (x35_3 + 1)), (by first | rfl | (simp; done) | (simp [*]; done)), H', ⟨by have := HK1.out; have := HJ6.out; have := HK3.out; omega⟩, ⟨by refine rx ?_; exact HO_33.out⟩, (bk BK316), (hbw HB)⟩
              ·rw [if_neg c26] at H
               exact absurd H (by simp)
             ·rw [if_neg c25] at H
              exact absurd H (by simp)
            ·rw [if_neg c24] at H
             have c24b0 : decide (x35_3 < (y319.length : Int)) = false := decide_eq_false c24
             clear c24
             have H' := Aside0.mk H
             clear H
             go_wp2
             go_roundg k3
             case measure => have := HK1.out; have := HJ6.out; have := HK3.out; omega
             case rel => exact ⟨(wrap64 (x13_1 + 1)), (by first | rfl | (simp; done) | (simp [*]; done)), H', ⟨by have := HK1.out; have := HJ6.out; have := HK3.out; omega⟩, (hbw HB)⟩
      ·rw [if_neg c6] at H
       exact absurd H (by simp)
     ·rw [if_neg c5] at H
      exact absurd H (by simp)
    ·rw [if_neg c4] at H
     have c4b0 : decide (x13_1 < (l0.length : Int)) = false := decide_eq_false c4
     clear c4
     obtain rfl := Option.some.inj H
     go_wp2
     go_ret
     exact ⟨exq, bw HB.out⟩
 ·replace c3 := Bool.eq_false_iff.mpr c3
  subst c3
  rw [if_neg (show ¬ (false = true) by decide)] at H
  obtain rfl := Option.some.inj H
  go_enter Try.func36, Try.ntmps36
  go_wp2_with (first | ((with_reducible refine gate_callee (f := 68) rfl ?_); refine goesL_ (some 9) rfl rfl Try.func68 (by kernel_rfl) rfl #[.int .i64 (l0.length : Int), .int .i64 1, .int .i64 12] rfl mxp ?_; (with_reducible refine (impl_in.calls (l0.length : Int) 1 12 false _ A2.out).mono ?_); rintro e w' ⟨rfl, ⟨nd, rfl⟩⟩; refine ⟨_, rfl, ?_⟩))
  go_ret
  exact ⟨exq, bw HB.out⟩


/-! ### impl_bound: function 71 -/
def impl_bound.f : Nat → List (S39) → ByteArray → Option (Int)
 | 0, _, _ => none
 | k + 1, l0, a1 => (impl_at.f l0 a1).bind fun t381 => (if t381 < 0 then (some 0) else (if 0 ≤ t381 then (if t381 < (l0.length : Int) then ((impl_bound.f k l0 ((rd_T39 l0 t381).f6)).bind fun t384 => ((impl_bound.f k l0 ((rd_T39 l0 t381).f7)).bind fun t386 => (some (wrap64 (((rd_T39 l0 t381).f5) + (mx t384 t386)))))) else (none)) else (none)))
theorem impl_bound.mono_l : ∀ k, (∀ y0 y1, LeO (impl_bound.f k y0 y1) (impl_bound.f (k + 1) y0 y1))
 | 0 => fun _ _ r h => by simp [impl_bound.f] at h
 | k + 1 => by
  have ih0 := impl_bound.mono_l k
  ·intro y0 y1
   unfold impl_bound.f
   repeat' first
   | (with_reducible exact ih0 _ _)
   | (with_reducible exact LeO.refl _)
   | (with_reducible exact LeO.none _)
   | (with_reducible refine LeO.ite ?_ ?_)
   | (with_reducible refine LeO.bind ?_ (fun _ => ?_))
   | exact ih0 _ _
   | exact LeO.none _
   | refine LeO.ite ?_ ?_
   | refine LeO.bind ?_ (fun _ => ?_)
theorem impl_bound.mono : ∀ a0 a1 k, LeO (impl_bound.f k a0 a1) (impl_bound.f (k + 1) a0 a1) := by
 intro a0 a1 k
 have ih0 := impl_bound.mono_l k
 exact ih0 a0 a1
def impl_bound.T4 : Bool × List (List Nat × List Nat) := (true, [([], []), ([], []), ([0, 1], [0, 1]), ([2], [2]), ([3], [3]), ([], []), ([], []), ([], []), ([6, 7], [6, 7]), ([8], [8]), ([9], [9]), ([5, 10], [5, 10]), ([], []), ([], []), ([], []), ([13, 14], [13, 14]), ([15], [15]), ([16], [16]), ([12, 17, 11], [12, 17]), ([11, 18], [11, 18]), ([4, 19], [4, 19]), ([20, 18, 0, 1, 2, 3, 4, 5, 6, 7, 8, 9, 10, 11, 12, 13, 14, 15, 16, 17, 18, 19, 20], [20])])
def impl_bound.B4 : List Nat := [0, 0, 3, 7, 15, 0, 0, 0, 192, 448, 960, 2016, 0, 0, 0, 24576, 57344, 122880, 262112, 524256, 1048575, 2097151]
theorem impl_bound.tab4 : rtab .any (opsOf Try.f71 4) = impl_bound.T4 := by kernel_rfl
theorem impl_bound.bits4 : waitsOk impl_bound.T4.2 impl_bound.B4 = true := by kernel_rfl
set_option maxHeartbeats 8000000 in
set_option maxRecDepth 100000 in
theorem impl_bound.calls (k : Nat) : ∀ (A0 : Option Addr) (c0 : Nat) (l0 : List (S39)) (a1 : ByteArray) (r : Int) (w : World) (hr0 : Kd.C k39 w A0 l0.length l0) (hc0 : l0.length ≤ c0) (h : impl_bound.f k l0 a1 = some r),
  Calls Try.prog 71 #[.slice A0 l0.length c0, .string a1] w fun e w' => e = .returned (.int .i64 r) ∧ Below w.heap.size w w' := by
 induction k using Nat.strongRecOn with
 | _ k ih =>
 intro A0 c0 l0 a1 r w hr0 hc0 h
 cases k with
 | zero => exact absurd h (by simp [impl_bound.f])
 | succ k =>
 simp only [impl_bound.f] at h
 have HR0 := Aside0.mk hr0
 have HC0 := Aside0.mk hc0
 clear hr0 hc0
 have HB := Aside0.mk (Below.refl w.heap.size w)
 have H : ((impl_at.f l0 a1).bind fun t381 => (if t381 < 0 then (some 0) else (if 0 ≤ t381 then (if t381 < (l0.length : Int) then ((impl_bound.f k l0 ((rd_T39 l0 t381).f6)).bind fun t384 => ((impl_bound.f k l0 ((rd_T39 l0 t381).f7)).bind fun t386 => (some (wrap64 (((rd_T39 l0 t381).f5) + (mx t384 t386)))))) else (none)) else (none)))) = some r := h
 clear h
 replace H := Option.bind_eq_some_iff.mp H
 obtain ⟨t381, A30, H⟩ := H
 try dsimp only at H
 have A3 := Aside0.mk A30
 clear A30
 by_cases c4 : t381 < 0
 ·rw [if_pos c4] at H
  have c4b0 : decide (t381 < 0) = true := decide_eq_true c4
  clear c4
  obtain rfl := Option.some.inj H
  go_enter Try.func71, Try.ntmps71
  go_wp2_with (first | ((with_reducible refine gate_callee (f := 69) rfl ?_); refine goesL_ (some 8) rfl rfl Try.func69 (by kernel_rfl) rfl #[.slice A0 l0.length c0, .string a1] rfl mxp ?_; (with_reducible refine (impl_at.calls _ _ l0 a1 t381 _ ?side1 ?side2 A3.out).mono ?_); (case side1 => exact cx HR0.out); (case side2 => exact HC0.out); rintro e w5 ⟨rfl, hb⟩; refine ⟨_, rfl, ?_⟩; replace HB := bs HB hb; (try clear hb); (try clear hb2); (try clear hk); (try clear hi)))
  go_ret
  exact ⟨exq, bw HB.out⟩
 ·rw [if_neg c4] at H
  have c4b0 : decide (t381 < 0) = false := decide_eq_false c4
  clear c4
  by_cases c6 : 0 ≤ t381
  ·rw [if_pos c6] at H
   have c6b0 : decide (0 ≤ t381) = true := decide_eq_true c6
   clear c6
   by_cases c7 : t381 < (l0.length : Int)
   ·rw [if_pos c7] at H
    have c7b0 : decide (t381 < (l0.length : Int)) = true := decide_eq_true c7
    clear c7
    replace H := Option.bind_eq_some_iff.mp H
    obtain ⟨t384, A80, H⟩ := H
    try dsimp only at H
    have A8 := Aside0.mk A80
    clear A80
    replace H := Option.bind_eq_some_iff.mp H
    obtain ⟨t386, A90, H⟩ := H
    try dsimp only at H
    have A9 := Aside0.mk A90
    clear A90
    obtain ⟨ji10, hji10⟩ : ∃ j_ : Int, (mx t384 t386) = j_ := ⟨_, rfl⟩
    replace H : (some (wrap64 (((rd_T39 l0 t381).f5) + (ji10)))) = some r := by first | (rw [hji10] at H; exact H) | (simp only [hji10] at H ⊢; exact H)
    (try rw [hji10] at A3)
    (try rw [hji10] at A8)
    (try rw [hji10] at A9)
    have hji10_ : (if t384 < t386 then t386 else t384) = ji10 := hji10
    obtain rfl := Option.some.inj H
    go_enter Try.func71, Try.ntmps71
    try go_wp2_with (first | ((with_reducible refine gate_callee (f := 69) rfl ?_); refine goesL_ (some 8) rfl rfl Try.func69 (by kernel_rfl) rfl #[.slice A0 l0.length c0, .string a1] rfl mxp ?_; (with_reducible refine (impl_at.calls _ _ l0 a1 t381 _ ?side1 ?side2 A3.out).mono ?_); (case side1 => exact cx HR0.out); (case side2 => exact HC0.out); rintro e w11 ⟨rfl, hb⟩; refine ⟨_, rfl, ?_⟩; replace HB := bs HB hb; (try clear hb); (try clear hb2); (try clear hk); (try clear hi)))
    have n0_ := Aside0.mk (below_drew1 HB.out)
    clear HB
    have HB := n0_
    clear n0_
    have p382 : 0 ≤ (t381 : Int) := oda
    have q382 : t381 < (l0.length : Int) := oda
    obtain ⟨ad382, e382, hx382_0, hx382_1, hx382_2, hx382_3, hx382_4, hx382_5, hx382_6, hx382_7⟩ := at_T39 HR0.out t381 p382 q382
    have hw382_7 := hx382_7
    have hw382_6 := hx382_6
    have hw382_5 := hx382_5
    have hw382_4 := hx382_4
    have hw382_3 := hx382_3
    have hw382_2 := hx382_2
    have hw382_1 := hx382_1
    have hw382_0 := hx382_0
    cases e382
    replace hx382_0 := bcl HB hx382_0
    replace hx382_1 := bcl HB hx382_1
    replace hx382_2 := bcl HB hx382_2
    replace hx382_3 := bcl HB hx382_3
    replace hx382_4 := bcl HB hx382_4
    replace hx382_5 := bcl HB hx382_5
    replace hx382_6 := bcl HB hx382_6
    replace hx382_7 := bcl HB hx382_7
    replace p382 := eq_true p382
    replace q382 := eq_true q382
    have p383 : 0 ≤ (t381 : Int) := oda
    have q383 : t381 < (l0.length : Int) := oda
    obtain ⟨ad383, e383, hx383_0, hx383_1, hx383_2, hx383_3, hx383_4, hx383_5, hx383_6, hx383_7⟩ := at_T39 HR0.out t381 p383 q383
    have hw383_7 := hx383_7
    have hw383_6 := hx383_6
    have hw383_5 := hx383_5
    have hw383_4 := hx383_4
    have hw383_3 := hx383_3
    have hw383_2 := hx383_2
    have hw383_1 := hx383_1
    have hw383_0 := hx383_0
    obtain rfl : ad382 = ad383 := (by injection e383)
    replace hx383_0 := bcl HB hx383_0
    replace hx383_1 := bcl HB hx383_1
    replace hx383_2 := bcl HB hx383_2
    replace hx383_3 := bcl HB hx383_3
    replace hx383_4 := bcl HB hx383_4
    replace hx383_5 := bcl HB hx383_5
    replace hx383_6 := bcl HB hx383_6
    replace hx383_7 := bcl HB hx383_7
    replace p383 := eq_true p383
    replace q383 := eq_true q383
    have p385 : 0 ≤ (t381 : Int) := oda
    have q385 : t381 < (l0.length : Int) := oda
    obtain ⟨ad385, e385, hx385_0, hx385_1, hx385_2, hx385_3, hx385_4, hx385_5, hx385_6, hx385_7⟩ := at_T39 HR0.out t381 p385 q385
    have hw385_7 := hx385_7
    have hw385_6 := hx385_6
    have hw385_5 := hx385_5
    have hw385_4 := hx385_4
    have hw385_3 := hx385_3
    have hw385_2 := hx385_2
    have hw385_1 := hx385_1
    have hw385_0 := hx385_0
    obtain rfl : ad382 = ad385 := (by injection e385)
    replace hx385_0 := bcl HB hx385_0
    replace hx385_1 := bcl HB hx385_1
    replace hx385_2 := bcl HB hx385_2
    replace hx385_3 := bcl HB hx385_3
    replace hx385_4 := bcl HB hx385_4
    replace hx385_5 := bcl HB hx385_5
    replace hx385_6 := bcl HB hx385_6
    replace hx385_7 := bcl HB hx385_7
    replace p385 := eq_true p385
    replace q385 := eq_true q385
    refine start_ (n := 22) (S := fun w' => w'.cell? (ad382.add ((t381).toNat * 8)) = some (.string ((rd_T39 l0 t381).f0)) ∧ w'.cell? ⟨(ad382.add ((t381).toNat * 8)).block, (ad382.add ((t381).toNat * 8)).off + 1, none⟩ = some (.int .i64 ((rd_T39 l0 t381).f1)) ∧ w'.cell? ⟨(ad382.add ((t381).toNat * 8)).block, (ad382.add ((t381).toNat * 8)).off + 2, none⟩ = some (.string ((rd_T39 l0 t381).f2)) ∧ w'.cell? ⟨(ad382.add ((t381).toNat * 8)).block, (ad382.add ((t381).toNat * 8)).off + 3, none⟩ = some (.string ((rd_T39 l0 t381).f3)) ∧ w'.cell? ⟨(ad382.add ((t381).toNat * 8)).block, (ad382.add ((t381).toNat * 8)).off + 4, none⟩ = some (.int .i64 ((rd_T39 l0 t381).f4)) ∧ w'.cell? ⟨(ad382.add ((t381).toNat * 8)).block, (ad382.add ((t381).toNat * 8)).off + 5, none⟩ = some (.int .i64 ((rd_T39 l0 t381).f5)) ∧ w'.cell? ⟨(ad382.add ((t381).toNat * 8)).block, (ad382.add ((t381).toNat * 8)).off + 6, none⟩ = some (.string ((rd_T39 l0 t381).f6)) ∧ w'.cell? ⟨(ad382.add ((t381).toNat * 8)).block, (ad382.add ((t381).toNat * 8)).off + 7, none⟩ = some (.string ((rd_T39 l0 t381).f7)) ∧ w'.cell? (ad382.add ((t381).toNat * 8)) = some (.string ((rd_T39 l0 t381).f0)) ∧ w'.cell? ⟨(ad382.add ((t381).toNat * 8)).block, (ad382.add ((t381).toNat * 8)).off + 1, none⟩ = some (.int .i64 ((rd_T39 l0 t381).f1)) ∧ w'.cell? ⟨(ad382.add ((t381).toNat * 8)).block, (ad382.add ((t381).toNat * 8)).off + 2, none⟩ = some (.string ((rd_T39 l0 t381).f2)) ∧ w'.cell? ⟨(ad382.add ((t381).toNat * 8)).block, (ad382.add ((t381).toNat * 8)).off + 3, none⟩ = some (.string ((rd_T39 l0 t381).f3)) ∧ w'.cell? ⟨(ad382.add ((t381).toNat * 8)).block, (ad382.add ((t381).toNat * 8)).off + 4, none⟩ = some (.int .i64 ((rd_T39 l0 t381).f4)) ∧ w'.cell? ⟨(ad382.add ((t381).toNat * 8)).block, (ad382.add ((t381).toNat * 8)).off + 5, none⟩ = some (.int .i64 ((rd_T39 l0 t381).f5)) ∧ w'.cell? ⟨(ad382.add ((t381).toNat * 8)).block, (ad382.add ((t381).toNat * 8)).off + 6, none⟩ = some (.string ((rd_T39 l0 t381).f6)) ∧ w'.cell? ⟨(ad382.add ((t381).toNat * 8)).block, (ad382.add ((t381).toNat * 8)).off + 7, none⟩ = some (.string ((rd_T39 l0 t381).f7)) ∧ w'.cell? (ad382.add ((t381).toNat * 8)) = some (.string ((rd_T39 l0 t381).f0)) ∧ w'.cell? ⟨(ad382.add ((t381).toNat * 8)).block, (ad382.add ((t381).toNat * 8)).off + 1, none⟩ = some (.int .i64 ((rd_T39 l0 t381).f1)) ∧ w'.cell? ⟨(ad382.add ((t381).toNat * 8)).block, (ad382.add ((t381).toNat * 8)).off + 2, none⟩ = some (.string ((rd_T39 l0 t381).f2)) ∧ w'.cell? ⟨(ad382.add ((t381).toNat * 8)).block, (ad382.add ((t381).toNat * 8)).off + 3, none⟩ = some (.string ((rd_T39 l0 t381).f3)) ∧ w'.cell? ⟨(ad382.add ((t381).toNat * 8)).block, (ad382.add ((t381).toNat * 8)).off + 4, none⟩ = some (.int .i64 ((rd_T39 l0 t381).f4)) ∧ w'.cell? ⟨(ad382.add ((t381).toNat * 8)).block, (ad382.add ((t381).toNat * 8)).off + 5, none⟩ = some (.int .i64 ((rd_T39 l0 t381).f5)) ∧ w'.cell? ⟨(ad382.add ((t381).toNat * 8)).block, (ad382.add ((t381).toNat * 8)).off + 6, none⟩ = some (.string ((rd_T39 l0 t381).f6)) ∧ w'.cell? ⟨(ad382.add ((t381).toNat * 8)).block, (ad382.add ((t381).toNat * 8)).off + 7, none⟩ = some (.string ((rd_T39 l0 t381).f7))) (ds := []) (lb 22 0) (by kernel_rfl) rfl rfl ⟨((HB.out.cell (World.block_lt_of_cell? w _ hw382_0)).trans hw382_0), ((HB.out.cell (World.block_lt_of_cell? w _ hw382_1)).trans hw382_1), ((HB.out.cell (World.block_lt_of_cell? w _ hw382_2)).trans hw382_2), ((HB.out.cell (World.block_lt_of_cell? w _ hw382_3)).trans hw382_3), ((HB.out.cell (World.block_lt_of_cell? w _ hw382_4)).trans hw382_4), ((HB.out.cell (World.block_lt_of_cell? w _ hw382_5)).trans hw382_5), ((HB.out.cell (World.block_lt_of_cell? w _ hw382_6)).trans hw382_6), ((HB.out.cell (World.block_lt_of_cell? w _ hw382_7)).trans hw382_7), ((HB.out.cell (World.block_lt_of_cell? w _ hw383_0)).trans hw383_0), ((HB.out.cell (World.block_lt_of_cell? w _ hw383_1)).trans hw383_1), ((HB.out.cell (World.block_lt_of_cell? w _ hw383_2)).trans hw383_2), ((HB.out.cell (World.block_lt_of_cell? w _ hw383_3)).trans hw383_3), ((HB.out.cell (World.block_lt_of_cell? w _ hw383_4)).trans hw383_4), ((HB.out.cell (World.block_lt_of_cell? w _ hw383_5)).trans hw383_5), ((HB.out.cell (World.block_lt_of_cell? w _ hw383_6)).trans hw383_6), ((HB.out.cell (World.block_lt_of_cell? w _ hw383_7)).trans hw383_7), ((HB.out.cell (World.block_lt_of_cell? w _ hw385_0)).trans hw385_0), ((HB.out.cell (World.block_lt_of_cell? w _ hw385_1)).trans hw385_1), ((HB.out.cell (World.block_lt_of_cell? w _ hw385_2)).trans hw385_2), ((HB.out.cell (World.block_lt_of_cell? w _ hw385_3)).trans hw385_3), ((HB.out.cell (World.block_lt_of_cell? w _ hw385_4)).trans hw385_4), ((HB.out.cell (World.block_lt_of_cell? w _ hw385_5)).trans hw385_5), ((HB.out.cell (World.block_lt_of_cell? w _ hw385_6)).trans hw385_6), ((HB.out.cell (World.block_lt_of_cell? w _ hw385_7)).trans hw385_7)⟩ (fun hHeld => ?_); refine with_tabW impl_bound.tab4 impl_bound.bits4 (fun HT_ HW_ => ?_)
    generalize w11.drew = w12 at HB hx382_0 hx382_1 hx382_2 hx382_3 hx382_4 hx382_5 hx382_6 hx382_7 hx383_0 hx383_1 hx383_2 hx383_3 hx383_4 hx383_5 hx383_6 hx383_7 hx385_0 hx385_1 hx385_2 hx385_3 hx385_4 hx385_5 hx385_6 hx385_7 hHeld ⊢
    refine pw HT_ 0 (some 11) (lb 22 1) ?_
    refine pw HT_ 1 (some 12) (lb 22 3) ?_
    refine pw HT_ 2 (some 13) (lb 22 7) ?_
    refine pw HT_ 3 (some 14) (lb 22 15) ?_
    refine pw HT_ 5 (some 16) (lb 22 47) ?_
    refine pw HT_ 6 (some 17) (lb 22 111) ?_
    refine pw HT_ 7 (some 18) (lb 22 239) ?_
    refine pw HT_ 8 (some 19) (lb 22 495) ?_
    refine pw HT_ 9 (some 20) (lb 22 1007) ?_
    refine pw HT_ 12 (some 23) (lb 22 5103) ?_
    refine pw HT_ 13 (some 24) (lb 22 13295) ?_
    refine pw HT_ 14 (some 25) (lb 22 29679) ?_
    refine pw HT_ 15 (some 26) (lb 22 62447) ?_
    refine pw HT_ 16 (some 27) (lb 22 127983) ?_
    refine tw HT_ HW_ hHeld 4 (some 15) (lb 22 127999) ?_
    refine tw HT_ HW_ hHeld 10 (some 21) (lb 22 129023) ?_
    refine tw HT_ HW_ hHeld 17 (some 28) (lb 22 260095) ?_
    refine one_ (i := 11) (N := some 22) (lb 22 262143) rfl rfl (one_of HT_.out (by kernel_rfl)) (by decide) (fun K hK => ?_)
    refine goes_ Try.func71 (by kernel_rfl) rfl #[.slice (some ad382) l0.length c0, .string ((rd_T39 l0 t381).f6)] (by rfl) rfl rfl mxp ?_
    with_reducible refine (ih k (by omega) _ _ l0 ((rd_T39 l0 t381).f6) t384 _ ?side1 ?side2 A8.out).mono ?_
    (case side1 => exact cx (Kd.C_below HR0.out HB.out))
    (case side2 => exact HC0.out)
    rintro e w13 ⟨rfl, hb⟩
    refine ⟨_, rfl, ?_⟩
    have n0_ := bs HB hb
    clear HB
    have HB := n0_
    clear n0_
    (try clear hb)
    (try clear hb2)
    (try clear hk)
    (try clear hi)
    refine hK.out _ _ ⟨((HB.out.cell (World.block_lt_of_cell? w _ hw382_0)).trans hw382_0), ((HB.out.cell (World.block_lt_of_cell? w _ hw382_1)).trans hw382_1), ((HB.out.cell (World.block_lt_of_cell? w _ hw382_2)).trans hw382_2), ((HB.out.cell (World.block_lt_of_cell? w _ hw382_3)).trans hw382_3), ((HB.out.cell (World.block_lt_of_cell? w _ hw382_4)).trans hw382_4), ((HB.out.cell (World.block_lt_of_cell? w _ hw382_5)).trans hw382_5), ((HB.out.cell (World.block_lt_of_cell? w _ hw382_6)).trans hw382_6), ((HB.out.cell (World.block_lt_of_cell? w _ hw382_7)).trans hw382_7), ((HB.out.cell (World.block_lt_of_cell? w _ hw383_0)).trans hw383_0), ((HB.out.cell (World.block_lt_of_cell? w _ hw383_1)).trans hw383_1), ((HB.out.cell (World.block_lt_of_cell? w _ hw383_2)).trans hw383_2), ((HB.out.cell (World.block_lt_of_cell? w _ hw383_3)).trans hw383_3), ((HB.out.cell (World.block_lt_of_cell? w _ hw383_4)).trans hw383_4), ((HB.out.cell (World.block_lt_of_cell? w _ hw383_5)).trans hw383_5), ((HB.out.cell (World.block_lt_of_cell? w _ hw383_6)).trans hw383_6), ((HB.out.cell (World.block_lt_of_cell? w _ hw383_7)).trans hw383_7), ((HB.out.cell (World.block_lt_of_cell? w _ hw385_0)).trans hw385_0), ((HB.out.cell (World.block_lt_of_cell? w _ hw385_1)).trans hw385_1), ((HB.out.cell (World.block_lt_of_cell? w _ hw385_2)).trans hw385_2), ((HB.out.cell (World.block_lt_of_cell? w _ hw385_3)).trans hw385_3), ((HB.out.cell (World.block_lt_of_cell? w _ hw385_4)).trans hw385_4), ((HB.out.cell (World.block_lt_of_cell? w _ hw385_5)).trans hw385_5), ((HB.out.cell (World.block_lt_of_cell? w _ hw385_6)).trans hw385_6), ((HB.out.cell (World.block_lt_of_cell? w _ hw385_7)).trans hw385_7)⟩ (fun hHeld => ?_)
    clear hK K
    refine norm_ (a' := ?_) ?_ ?_
    rotate_left
    ·show Act.put _ (some 22) _ = _
     simp only [Act.put, List.setIfInBounds_toArray, List.set_cons_zero, List.set_cons_succ, i64_w, i32_w]
     rfl
    refine one_ (i := 18) (N := some 29) (lb 22 524287) rfl rfl (one_of HT_.out (by kernel_rfl)) (by decide) (fun K hK => ?_)
    refine goes_ Try.func71 (by kernel_rfl) rfl #[.slice (some ad382) l0.length c0, .string ((rd_T39 l0 t381).f7)] (by rfl) rfl rfl mxp ?_
    with_reducible refine (ih k (by omega) _ _ l0 ((rd_T39 l0 t381).f7) t386 _ ?side1 ?side2 A9.out).mono ?_
    (case side1 => exact cx (Kd.C_below HR0.out HB.out))
    (case side2 => exact HC0.out)
    rintro e w14 ⟨rfl, hb⟩
    refine ⟨_, rfl, ?_⟩
    have n0_ := bs HB hb
    clear HB
    have HB := n0_
    clear n0_
    (try clear hb)
    (try clear hb2)
    (try clear hk)
    (try clear hi)
    refine hK.out _ _ ⟨((HB.out.cell (World.block_lt_of_cell? w _ hw382_0)).trans hw382_0), ((HB.out.cell (World.block_lt_of_cell? w _ hw382_1)).trans hw382_1), ((HB.out.cell (World.block_lt_of_cell? w _ hw382_2)).trans hw382_2), ((HB.out.cell (World.block_lt_of_cell? w _ hw382_3)).trans hw382_3), ((HB.out.cell (World.block_lt_of_cell? w _ hw382_4)).trans hw382_4), ((HB.out.cell (World.block_lt_of_cell? w _ hw382_5)).trans hw382_5), ((HB.out.cell (World.block_lt_of_cell? w _ hw382_6)).trans hw382_6), ((HB.out.cell (World.block_lt_of_cell? w _ hw382_7)).trans hw382_7), ((HB.out.cell (World.block_lt_of_cell? w _ hw383_0)).trans hw383_0), ((HB.out.cell (World.block_lt_of_cell? w _ hw383_1)).trans hw383_1), ((HB.out.cell (World.block_lt_of_cell? w _ hw383_2)).trans hw383_2), ((HB.out.cell (World.block_lt_of_cell? w _ hw383_3)).trans hw383_3), ((HB.out.cell (World.block_lt_of_cell? w _ hw383_4)).trans hw383_4), ((HB.out.cell (World.block_lt_of_cell? w _ hw383_5)).trans hw383_5), ((HB.out.cell (World.block_lt_of_cell? w _ hw383_6)).trans hw383_6), ((HB.out.cell (World.block_lt_of_cell? w _ hw383_7)).trans hw383_7), ((HB.out.cell (World.block_lt_of_cell? w _ hw385_0)).trans hw385_0), ((HB.out.cell (World.block_lt_of_cell? w _ hw385_1)).trans hw385_1), ((HB.out.cell (World.block_lt_of_cell? w _ hw385_2)).trans hw385_2), ((HB.out.cell (World.block_lt_of_cell? w _ hw385_3)).trans hw385_3), ((HB.out.cell (World.block_lt_of_cell? w _ hw385_4)).trans hw385_4), ((HB.out.cell (World.block_lt_of_cell? w _ hw385_5)).trans hw385_5), ((HB.out.cell (World.block_lt_of_cell? w _ hw385_6)).trans hw385_6), ((HB.out.cell (World.block_lt_of_cell? w _ hw385_7)).trans hw385_7)⟩ (fun hHeld => ?_)
    clear hK K
    refine norm_ (a' := ?_) ?_ ?_
    rotate_left
    ·show Act.put _ (some 29) _ = _
     simp only [Act.put, List.setIfInBounds_toArray, List.set_cons_zero, List.set_cons_succ, i64_w, i32_w]
     rfl
    refine pw HT_ 19 (some 30) (lb 22 1048575) ?_
    refine pw HT_ 20 (some 31) (lb 22 2097151) ?_
    refine pw HT_ 21 (some 4) (lb 22 4194303) ?_
    refine done_ (done_of HT_.out (by kernel_rfl)) ?_
    try go_wp2
    go_ret
    exact ⟨by first | rfl | (simp [errW_none, errW_some] <;> rfl) | (simp only [← hji10]; first | rfl | (simp [errW_none, errW_some] <;> rfl)) | (simp [*, errW_none, errW_some] <;> rfl), bw HB.out⟩
   ·rw [if_neg c7] at H
    exact absurd H (by simp)
  ·rw [if_neg c6] at H
   exact absurd H (by simp)


/-! ### impl_RecBound: function 26 -/
def impl_RecBound.f (k : Nat) (l0 : List (S39)) (a1 : ByteArray) : Option (Int) := (impl_RecOk.f k l0).bind fun t387 => (if t387 = true then ((impl_bound.f k l0 a1).bind fun t388 => (some t388)) else (some 0))
theorem impl_RecBound.mono : ∀ a0 a1 k, LeO (impl_RecBound.f k a0 a1) (impl_RecBound.f (k + 1) a0 a1) := by
 intro a0 a1 k
 unfold impl_RecBound.f
 repeat' first
   | (with_reducible exact impl_RecOk.mono _ _)
   | (with_reducible exact impl_bound.mono _ _ _)
   | (with_reducible exact LeO.refl _)
   | (with_reducible exact LeO.none _)
   | (with_reducible refine LeO.ite ?_ ?_)
   | (with_reducible refine LeO.bind ?_ (fun _ => ?_))
   | exact impl_RecOk.mono _ _
   | exact impl_bound.mono _ _ _
   | exact LeO.none _
   | refine LeO.ite ?_ ?_
   | refine LeO.bind ?_ (fun _ => ?_)
set_option maxHeartbeats 8000000 in
set_option maxRecDepth 100000 in
theorem impl_RecBound.calls (k : Nat) (A0 : Option Addr) (c0 : Nat) (l0 : List (S39)) (a1 : ByteArray) (r : Int) (w : World) (hr0 : Kd.C k39 w A0 l0.length l0) (hc0 : l0.length ≤ c0) (h : impl_RecBound.f k l0 a1 = some r) :
  Calls Try.prog 26 #[.slice A0 l0.length c0, .string a1] w fun e w' => e = .returned (.int .i64 r) ∧ Below w.heap.size w w' := by
 have HR0 := Aside0.mk hr0
 have HC0 := Aside0.mk hc0
 clear hr0 hc0
 have HB := Aside0.mk (Below.refl w.heap.size w)
 have H : ((impl_RecOk.f k l0).bind fun t387 => (if t387 = true then ((impl_bound.f k l0 a1).bind fun t388 => (some t388)) else (some 0))) = some r := h
 clear h
 replace H := Option.bind_eq_some_iff.mp H
 obtain ⟨t387, A30, H⟩ := H
 try dsimp only at H
 have A3 := Aside0.mk A30
 clear A30
 by_cases c4 : t387 = true
 ·subst c4
  rw [if_pos rfl] at H
  replace H := Option.bind_eq_some_iff.mp H
  obtain ⟨t388, A50, H⟩ := H
  try dsimp only at H
  have A5 := Aside0.mk A50
  clear A50
  obtain rfl := Option.some.inj H
  go_enter Try.func26, Try.ntmps26
  go_wp2_with (first | ((with_reducible refine gate_callee (f := 36) rfl ?_); refine goesL_ (some 6) rfl rfl Try.func36 (by kernel_rfl) rfl #[.slice A0 l0.length c0] rfl mxp ?_; (with_reducible refine (impl_RecOk.calls k _ _ l0 true _ ?side1 ?side2 A3.out).mono ?_); (case side1 => exact cx HR0.out); (case side2 => exact HC0.out); rintro e w6 ⟨rfl, hb⟩; refine ⟨_, rfl, ?_⟩; replace HB := bs HB hb; (try clear hb); (try clear hb2); (try clear hk); (try clear hi)) | ((with_reducible refine gate_callee (f := 71) rfl ?_); refine goesL_ (some 10) rfl rfl Try.func71 (by kernel_rfl) rfl #[.slice A0 l0.length c0, .string a1] rfl mxp ?_; (with_reducible refine (impl_bound.calls k _ _ l0 a1 t388 _ ?side1 ?side2 A5.out).mono ?_); (case side1 => exact cx (Kd.C_below HR0.out HB.out)); (case side2 => exact HC0.out); rintro e w7 ⟨rfl, hb⟩; refine ⟨_, rfl, ?_⟩; replace HB := bs HB hb; (try clear hb); (try clear hb2); (try clear hk); (try clear hi)))
  go_ret
  exact ⟨exq, bw HB.out⟩
 ·replace c4 := Bool.eq_false_iff.mpr c4
  subst c4
  rw [if_neg (show ¬ (false = true) by decide)] at H
  obtain rfl := Option.some.inj H
  go_enter Try.func26, Try.ntmps26
  go_wp2_with (first | ((with_reducible refine gate_callee (f := 36) rfl ?_); refine goesL_ (some 6) rfl rfl Try.func36 (by kernel_rfl) rfl #[.slice A0 l0.length c0] rfl mxp ?_; (with_reducible refine (impl_RecOk.calls k _ _ l0 false _ ?side1 ?side2 A3.out).mono ?_); (case side1 => exact cx HR0.out); (case side2 => exact HC0.out); rintro e w8 ⟨rfl, hb⟩; refine ⟨_, rfl, ?_⟩; replace HB := bs HB hb; (try clear hb); (try clear hb2); (try clear hk); (try clear hi)))
  go_ret
  exact ⟨exq, bw HB.out⟩


/-! ### impl_RecBegin: function 27 -/
def impl_RecBegin.f (k : Nat) (l0 : List (S39)) : Option (ByteArray × Int × Int) := (impl_RecOk.f k l0).bind fun t434 => (if t434 = true then (if 0 < (l0.length : Int) then ((impl_bound.f k l0 ((rd_T39 l0 0).f0)).bind fun t437 => (some ((rd_T39 l0 0).f0, 0, t437))) else (none)) else (some ((⟨#[]⟩ : ByteArray), 0, 0)))
theorem impl_RecBegin.mono : ∀ a0 k, LeO (impl_RecBegin.f k a0) (impl_RecBegin.f (k + 1) a0) := by
 intro a0 k
 unfold impl_RecBegin.f
 repeat' first
   | (with_reducible exact impl_RecOk.mono _ _)
   | (with_reducible exact impl_bound.mono _ _ _)
   | (with_reducible exact LeO.refl _)
   | (with_reducible exact LeO.none _)
   | (with_reducible refine LeO.ite ?_ ?_)
   | (with_reducible refine LeO.bind ?_ (fun _ => ?_))
   | exact impl_RecOk.mono _ _
   | exact impl_bound.mono _ _ _
   | exact LeO.none _
   | refine LeO.ite ?_ ?_
   | refine LeO.bind ?_ (fun _ => ?_)
def impl_RecBegin.T3 : Bool × List (List Nat × List Nat) := (true, [([], []), ([0], [0]), ([1], [1]), ([2], [2]), ([], []), ([], []), ([5], [5]), ([6], [6]), ([7], [7]), ([4, 8], [4, 8]), ([3, 9], [3, 9]), ([10, 9, 0, 1, 2, 3, 4, 5, 6, 7, 8, 9, 10], [10])])
def impl_RecBegin.B3 : List Nat := [0, 1, 3, 7, 0, 0, 32, 96, 224, 496, 1023, 2047]
theorem impl_RecBegin.tab3 : rtab .any (opsOf Try.f27 3) = impl_RecBegin.T3 := by kernel_rfl
theorem impl_RecBegin.bits3 : waitsOk impl_RecBegin.T3.2 impl_RecBegin.B3 = true := by kernel_rfl
set_option maxHeartbeats 8000000 in
set_option maxRecDepth 100000 in
theorem impl_RecBegin.calls (k : Nat) (A0 : Option Addr) (c0 : Nat) (l0 : List (S39)) (r1 : ByteArray) (r2 : Int) (r3 : Int) (w : World) (hr0 : Kd.C k39 w A0 l0.length l0) (hc0 : l0.length ≤ c0) (h : impl_RecBegin.f k l0 = some (r1, r2, r3)) :
  Calls Try.prog 27 #[.slice A0 l0.length c0] w fun e w' => e = .returned (.agg #[.string r1, .int .i64 r2, .int .i64 r3]) ∧ Below w.heap.size w w' := by
 have hu31 := Try.underlying31
 have HR0 := Aside0.mk hr0
 have HC0 := Aside0.mk hc0
 clear hr0 hc0
 have HB := Aside0.mk (Below.refl w.heap.size w)
 have H : ((impl_RecOk.f k l0).bind fun t434 => (if t434 = true then (if 0 < (l0.length : Int) then ((impl_bound.f k l0 ((rd_T39 l0 0).f0)).bind fun t437 => (some ((rd_T39 l0 0).f0, 0, t437))) else (none)) else (some ((⟨#[]⟩ : ByteArray), 0, 0)))) = some (r1, r2, r3) := h
 clear h
 replace H := Option.bind_eq_some_iff.mp H
 obtain ⟨t434, A20, H⟩ := H
 try dsimp only at H
 have A2 := Aside0.mk A20
 clear A20
 by_cases c3 : t434 = true
 ·subst c3
  rw [if_pos rfl] at H
  by_cases c4 : 0 < (l0.length : Int)
  ·rw [if_pos c4] at H
   have c4b0 : decide (0 < (l0.length : Int)) = true := decide_eq_true c4
   have c4b1 : decide (0 < l0.length) = true := decide_eq_true (by omega)
   clear c4
   replace H := Option.bind_eq_some_iff.mp H
   obtain ⟨t437, A50, H⟩ := H
   try dsimp only at H
   have A5 := Aside0.mk A50
   clear A50
   simp only [Option.some.injEq, Prod.mk.injEq] at H
   obtain ⟨rfl, rfl, rfl⟩ := H
   go_enter Try.func27, Try.ntmps27
   try go_wp2_with (first | ((with_reducible refine gate_dst (N := 2) rfl ?_); refine box_event ?hg (N := 2) ?hd (cs := #[.string (⟨#[]⟩ : ByteArray), .int .i64 0, .int .i64 0]) (t := 31) ?hr ?_; (case hd => rfl); (case hg => rfl); (case hr => first | (go_simp; done) | (go_simp; rfl)); intro gb433 hg w6 hbox hb; have t_ := And.intro (bs HB hb) <| And.intro (Aside0.mk (hbox)) <| And.intro (gh hg HB) <| (gh hg HB); clear HB; obtain ⟨HB, BK433, GW433, GE433⟩ := t_; clear hb hbox hg) | ((with_reducible refine gate_callee (f := 36) rfl ?_); refine goesL_ (some 4) rfl rfl Try.func36 (by kernel_rfl) rfl #[.slice A0 l0.length c0] rfl mxp ?_; (with_reducible refine (impl_RecOk.calls k _ _ l0 true _ ?side1 ?side2 A2.out).mono ?_); (case side1 => exact cx (Kd.C_below HR0.out HB.out)); (case side2 => exact HC0.out); rintro e w7 ⟨rfl, hb⟩; refine ⟨_, rfl, ?_⟩; replace BK433 := up BK433 hb; replace HB := bs HB hb; (try clear hb); (try clear hb2); (try clear hk); (try clear hi)))
   have n0_ := Aside0.mk (blk_drew BK433.out)
   have n1_ := Aside0.mk (below_drew1 HB.out)
   clear BK433
   clear HB
   have BK433 := n0_
   have HB := n1_
   clear n0_ n1_
   have p435 : 0 ≤ (0 : Int) := (by omega)
   have q435 : 0 < (l0.length : Int) := oda
   obtain ⟨ad435, e435, hx435_0, hx435_1, hx435_2, hx435_3, hx435_4, hx435_5, hx435_6, hx435_7⟩ := at_T39 HR0.out 0 p435 q435
   have hw435_7 := hx435_7
   (try rw [show ((0 : Int)).toNat = 0 from rfl] at hw435_7)
   (try rw [show 0 * 8 = 0 from rfl] at hw435_7)
   (try rw [Addr.add_zero'] at hw435_7)
   have hw435_6 := hx435_6
   (try rw [show ((0 : Int)).toNat = 0 from rfl] at hw435_6)
   (try rw [show 0 * 8 = 0 from rfl] at hw435_6)
   (try rw [Addr.add_zero'] at hw435_6)
   have hw435_5 := hx435_5
   (try rw [show ((0 : Int)).toNat = 0 from rfl] at hw435_5)
   (try rw [show 0 * 8 = 0 from rfl] at hw435_5)
   (try rw [Addr.add_zero'] at hw435_5)
   have hw435_4 := hx435_4
   (try rw [show ((0 : Int)).toNat = 0 from rfl] at hw435_4)
   (try rw [show 0 * 8 = 0 from rfl] at hw435_4)
   (try rw [Addr.add_zero'] at hw435_4)
   have hw435_3 := hx435_3
   (try rw [show ((0 : Int)).toNat = 0 from rfl] at hw435_3)
   (try rw [show 0 * 8 = 0 from rfl] at hw435_3)
   (try rw [Addr.add_zero'] at hw435_3)
   have hw435_2 := hx435_2
   (try rw [show ((0 : Int)).toNat = 0 from rfl] at hw435_2)
   (try rw [show 0 * 8 = 0 from rfl] at hw435_2)
   (try rw [Addr.add_zero'] at hw435_2)
   have hw435_1 := hx435_1
   (try rw [show ((0 : Int)).toNat = 0 from rfl] at hw435_1)
   (try rw [show 0 * 8 = 0 from rfl] at hw435_1)
   (try rw [Addr.add_zero'] at hw435_1)
   have hw435_0 := hx435_0
   (try rw [show ((0 : Int)).toNat = 0 from rfl] at hw435_0)
   (try rw [show 0 * 8 = 0 from rfl] at hw435_0)
   (try rw [Addr.add_zero'] at hw435_0)
   cases e435
   have qi435 : (0 < l0.length) = True := eq_true (by omega)
   (try rw [show ((0 : Int)).toNat = 0 from rfl] at hx435_0)
   (try rw [show 0 * 8 = 0 from rfl] at hx435_0)
   (try rw [Addr.add_zero'] at hx435_0)
   (try rw [show ((0 : Int)).toNat = 0 from rfl] at hx435_1)
   (try rw [show 0 * 8 = 0 from rfl] at hx435_1)
   (try rw [Addr.add_zero'] at hx435_1)
   (try rw [show ((0 : Int)).toNat = 0 from rfl] at hx435_2)
   (try rw [show 0 * 8 = 0 from rfl] at hx435_2)
   (try rw [Addr.add_zero'] at hx435_2)
   (try rw [show ((0 : Int)).toNat = 0 from rfl] at hx435_3)
   (try rw [show 0 * 8 = 0 from rfl] at hx435_3)
   (try rw [Addr.add_zero'] at hx435_3)
   (try rw [show ((0 : Int)).toNat = 0 from rfl] at hx435_4)
   (try rw [show 0 * 8 = 0 from rfl] at hx435_4)
   (try rw [Addr.add_zero'] at hx435_4)
   (try rw [show ((0 : Int)).toNat = 0 from rfl] at hx435_5)
   (try rw [show 0 * 8 = 0 from rfl] at hx435_5)
   (try rw [Addr.add_zero'] at hx435_5)
   (try rw [show ((0 : Int)).toNat = 0 from rfl] at hx435_6)
   (try rw [show 0 * 8 = 0 from rfl] at hx435_6)
   (try rw [Addr.add_zero'] at hx435_6)
   (try rw [show ((0 : Int)).toNat = 0 from rfl] at hx435_7)
   (try rw [show 0 * 8 = 0 from rfl] at hx435_7)
   (try rw [Addr.add_zero'] at hx435_7)
   replace hx435_0 := bcl HB hx435_0
   replace hx435_1 := bcl HB hx435_1
   replace hx435_2 := bcl HB hx435_2
   replace hx435_3 := bcl HB hx435_3
   replace hx435_4 := bcl HB hx435_4
   replace hx435_5 := bcl HB hx435_5
   replace hx435_6 := bcl HB hx435_6
   replace hx435_7 := bcl HB hx435_7
   replace p435 := eq_true p435
   replace q435 := eq_true q435
   have p436 : 0 ≤ (0 : Int) := (by omega)
   have q436 : 0 < (l0.length : Int) := oda
   obtain ⟨ad436, e436, hx436_0, hx436_1, hx436_2, hx436_3, hx436_4, hx436_5, hx436_6, hx436_7⟩ := at_T39 HR0.out 0 p436 q436
   have hw436_7 := hx436_7
   (try rw [show ((0 : Int)).toNat = 0 from rfl] at hw436_7)
   (try rw [show 0 * 8 = 0 from rfl] at hw436_7)
   (try rw [Addr.add_zero'] at hw436_7)
   have hw436_6 := hx436_6
   (try rw [show ((0 : Int)).toNat = 0 from rfl] at hw436_6)
   (try rw [show 0 * 8 = 0 from rfl] at hw436_6)
   (try rw [Addr.add_zero'] at hw436_6)
   have hw436_5 := hx436_5
   (try rw [show ((0 : Int)).toNat = 0 from rfl] at hw436_5)
   (try rw [show 0 * 8 = 0 from rfl] at hw436_5)
   (try rw [Addr.add_zero'] at hw436_5)
   have hw436_4 := hx436_4
   (try rw [show ((0 : Int)).toNat = 0 from rfl] at hw436_4)
   (try rw [show 0 * 8 = 0 from rfl] at hw436_4)
   (try rw [Addr.add_zero'] at hw436_4)
   have hw436_3 := hx436_3
   (try rw [show ((0 : Int)).toNat = 0 from rfl] at hw436_3)
   (try rw [show 0 * 8 = 0 from rfl] at hw436_3)
   (try rw [Addr.add_zero'] at hw436_3)
   have hw436_2 := hx436_2
   (try rw [show ((0 : Int)).toNat = 0 from rfl] at hw436_2)
   (try rw [show 0 * 8 = 0 from rfl] at hw436_2)
   (try rw [Addr.add_zero'] at hw436_2)
   have hw436_1 := hx436_1
   (try rw [show ((0 : Int)).toNat = 0 from rfl] at hw436_1)
   (try rw [show 0 * 8 = 0 from rfl] at hw436_1)
   (try rw [Addr.add_zero'] at hw436_1)
   have hw436_0 := hx436_0
   (try rw [show ((0 : Int)).toNat = 0 from rfl] at hw436_0)
   (try rw [show 0 * 8 = 0 from rfl] at hw436_0)
   (try rw [Addr.add_zero'] at hw436_0)
   obtain rfl : ad435 = ad436 := (by injection e436)
   have qi436 : (0 < l0.length) = True := eq_true (by omega)
   (try rw [show ((0 : Int)).toNat = 0 from rfl] at hx436_0)
   (try rw [show 0 * 8 = 0 from rfl] at hx436_0)
   (try rw [Addr.add_zero'] at hx436_0)
   (try rw [show ((0 : Int)).toNat = 0 from rfl] at hx436_1)
   (try rw [show 0 * 8 = 0 from rfl] at hx436_1)
   (try rw [Addr.add_zero'] at hx436_1)
   (try rw [show ((0 : Int)).toNat = 0 from rfl] at hx436_2)
   (try rw [show 0 * 8 = 0 from rfl] at hx436_2)
   (try rw [Addr.add_zero'] at hx436_2)
   (try rw [show ((0 : Int)).toNat = 0 from rfl] at hx436_3)
   (try rw [show 0 * 8 = 0 from rfl] at hx436_3)
   (try rw [Addr.add_zero'] at hx436_3)
   (try rw [show ((0 : Int)).toNat = 0 from rfl] at hx436_4)
   (try rw [show 0 * 8 = 0 from rfl] at hx436_4)
   (try rw [Addr.add_zero'] at hx436_4)
   (try rw [show ((0 : Int)).toNat = 0 from rfl] at hx436_5)
   (try rw [show 0 * 8 = 0 from rfl] at hx436_5)
   (try rw [Addr.add_zero'] at hx436_5)
   (try rw [show ((0 : Int)).toNat = 0 from rfl] at hx436_6)
   (try rw [show 0 * 8 = 0 from rfl] at hx436_6)
   (try rw [Addr.add_zero'] at hx436_6)
   (try rw [show ((0 : Int)).toNat = 0 from rfl] at hx436_7)
   (try rw [show 0 * 8 = 0 from rfl] at hx436_7)
   (try rw [Addr.add_zero'] at hx436_7)
   replace hx436_0 := bcl HB hx436_0
   replace hx436_1 := bcl HB hx436_1
   replace hx436_2 := bcl HB hx436_2
   replace hx436_3 := bcl HB hx436_3
   replace hx436_4 := bcl HB hx436_4
   replace hx436_5 := bcl HB hx436_5
   replace hx436_6 := bcl HB hx436_6
   replace hx436_7 := bcl HB hx436_7
   replace p436 := eq_true p436
   replace q436 := eq_true q436
   refine start_ (n := 12) (S := fun w' => w'.cell? ad435 = some (.string ((rd_T39 l0 0).f0)) ∧ w'.cell? ⟨ad435.block, ad435.off + 1, none⟩ = some (.int .i64 ((rd_T39 l0 0).f1)) ∧ w'.cell? ⟨ad435.block, ad435.off + 2, none⟩ = some (.string ((rd_T39 l0 0).f2)) ∧ w'.cell? ⟨ad435.block, ad435.off + 3, none⟩ = some (.string ((rd_T39 l0 0).f3)) ∧ w'.cell? ⟨ad435.block, ad435.off + 4, none⟩ = some (.int .i64 ((rd_T39 l0 0).f4)) ∧ w'.cell? ⟨ad435.block, ad435.off + 5, none⟩ = some (.int .i64 ((rd_T39 l0 0).f5)) ∧ w'.cell? ⟨ad435.block, ad435.off + 6, none⟩ = some (.string ((rd_T39 l0 0).f6)) ∧ w'.cell? ⟨ad435.block, ad435.off + 7, none⟩ = some (.string ((rd_T39 l0 0).f7)) ∧ w'.cell? ad435 = some (.string ((rd_T39 l0 0).f0)) ∧ w'.cell? ⟨ad435.block, ad435.off + 1, none⟩ = some (.int .i64 ((rd_T39 l0 0).f1)) ∧ w'.cell? ⟨ad435.block, ad435.off + 2, none⟩ = some (.string ((rd_T39 l0 0).f2)) ∧ w'.cell? ⟨ad435.block, ad435.off + 3, none⟩ = some (.string ((rd_T39 l0 0).f3)) ∧ w'.cell? ⟨ad435.block, ad435.off + 4, none⟩ = some (.int .i64 ((rd_T39 l0 0).f4)) ∧ w'.cell? ⟨ad435.block, ad435.off + 5, none⟩ = some (.int .i64 ((rd_T39 l0 0).f5)) ∧ w'.cell? ⟨ad435.block, ad435.off + 6, none⟩ = some (.string ((rd_T39 l0 0).f6)) ∧ w'.cell? ⟨ad435.block, ad435.off + 7, none⟩ = some (.string ((rd_T39 l0 0).f7))) (ds := []) (lb 12 0) (by kernel_rfl) rfl rfl ⟨((HB.out.cell (World.block_lt_of_cell? w _ hw435_0)).trans hw435_0), ((HB.out.cell (World.block_lt_of_cell? w _ hw435_1)).trans hw435_1), ((HB.out.cell (World.block_lt_of_cell? w _ hw435_2)).trans hw435_2), ((HB.out.cell (World.block_lt_of_cell? w _ hw435_3)).trans hw435_3), ((HB.out.cell (World.block_lt_of_cell? w _ hw435_4)).trans hw435_4), ((HB.out.cell (World.block_lt_of_cell? w _ hw435_5)).trans hw435_5), ((HB.out.cell (World.block_lt_of_cell? w _ hw435_6)).trans hw435_6), ((HB.out.cell (World.block_lt_of_cell? w _ hw435_7)).trans hw435_7), ((HB.out.cell (World.block_lt_of_cell? w _ hw436_0)).trans hw436_0), ((HB.out.cell (World.block_lt_of_cell? w _ hw436_1)).trans hw436_1), ((HB.out.cell (World.block_lt_of_cell? w _ hw436_2)).trans hw436_2), ((HB.out.cell (World.block_lt_of_cell? w _ hw436_3)).trans hw436_3), ((HB.out.cell (World.block_lt_of_cell? w _ hw436_4)).trans hw436_4), ((HB.out.cell (World.block_lt_of_cell? w _ hw436_5)).trans hw436_5), ((HB.out.cell (World.block_lt_of_cell? w _ hw436_6)).trans hw436_6), ((HB.out.cell (World.block_lt_of_cell? w _ hw436_7)).trans hw436_7)⟩ (fun hHeld => ?_); refine with_tabW impl_RecBegin.tab3 impl_RecBegin.bits3 (fun HT_ HW_ => ?_)
   generalize w7.drew = w8 at BK433 HB hx435_0 hx435_1 hx435_2 hx435_3 hx435_4 hx435_5 hx435_6 hx435_7 hx436_0 hx436_1 hx436_2 hx436_3 hx436_4 hx436_5 hx436_6 hx436_7 hHeld ⊢
   refine pw HT_ 0 (some 7) (lb 12 1) ?_
   refine pw HT_ 1 (some 8) (lb 12 3) ?_
   refine pw HT_ 2 (some 9) (lb 12 7) ?_
   refine pw HT_ 4 (some 11) (lb 12 23) ?_
   refine pw HT_ 5 (some 12) (lb 12 55) ?_
   refine pw HT_ 6 (some 13) (lb 12 119) ?_
   refine pw HT_ 7 (some 14) (lb 12 247) ?_
   refine tw HT_ HW_ hHeld 3 (some 10) (lb 12 255) ?_
   refine tw HT_ HW_ hHeld 8 (some 15) (lb 12 511) ?_
   refine one_ (i := 9) (N := some 16) (lb 12 1023) rfl rfl (one_of HT_.out (by kernel_rfl)) (by decide) (fun K hK => ?_)
   refine goes_ Try.func71 (by kernel_rfl) rfl #[.slice (some ad435) l0.length c0, .string ((rd_T39 l0 0).f0)] (by rfl) rfl rfl mxp ?_
   with_reducible refine (impl_bound.calls k _ _ l0 ((rd_T39 l0 0).f0) t437 _ ?side1 ?side2 A5.out).mono ?_
   (case side1 => exact cx (Kd.C_below HR0.out HB.out))
   (case side2 => exact HC0.out)
   rintro e w9 ⟨rfl, hb⟩
   refine ⟨_, rfl, ?_⟩
   have n0_ := up BK433 hb
   have n1_ := bs HB hb
   clear BK433
   clear HB
   have BK433 := n0_
   have HB := n1_
   clear n0_ n1_
   (try clear hb)
   (try clear hb2)
   (try clear hk)
   (try clear hi)
   refine hK.out _ _ ⟨((HB.out.cell (World.block_lt_of_cell? w _ hw435_0)).trans hw435_0), ((HB.out.cell (World.block_lt_of_cell? w _ hw435_1)).trans hw435_1), ((HB.out.cell (World.block_lt_of_cell? w _ hw435_2)).trans hw435_2), ((HB.out.cell (World.block_lt_of_cell? w _ hw435_3)).trans hw435_3), ((HB.out.cell (World.block_lt_of_cell? w _ hw435_4)).trans hw435_4), ((HB.out.cell (World.block_lt_of_cell? w _ hw435_5)).trans hw435_5), ((HB.out.cell (World.block_lt_of_cell? w _ hw435_6)).trans hw435_6), ((HB.out.cell (World.block_lt_of_cell? w _ hw435_7)).trans hw435_7), ((HB.out.cell (World.block_lt_of_cell? w _ hw436_0)).trans hw436_0), ((HB.out.cell (World.block_lt_of_cell? w _ hw436_1)).trans hw436_1), ((HB.out.cell (World.block_lt_of_cell? w _ hw436_2)).trans hw436_2), ((HB.out.cell (World.block_lt_of_cell? w _ hw436_3)).trans hw436_3), ((HB.out.cell (World.block_lt_of_cell? w _ hw436_4)).trans hw436_4), ((HB.out.cell (World.block_lt_of_cell? w _ hw436_5)).trans hw436_5), ((HB.out.cell (World.block_lt_of_cell? w _ hw436_6)).trans hw436_6), ((HB.out.cell (World.block_lt_of_cell? w _ hw436_7)).trans hw436_7)⟩ (fun hHeld => ?_)
   clear hK K
   refine norm_ (a' := ?_) ?_ ?_
   rotate_left
   ·show Act.put _ (some 16) _ = _
    simp only [Act.put, List.setIfInBounds_toArray, List.set_cons_zero, List.set_cons_succ, i64_w, i32_w]
    rfl
   refine pw HT_ 10 (some 17) (lb 12 2047) ?_
   refine one_ (i := 11) (N := none) (lb 12 4095) rfl rfl (one_of HT_.out (by kernel_rfl)) (by decide) (fun K hK => ?_)
   have hs10 : w9.cell? ⟨gb433, 0, none⟩ = some (.string (⟨#[]⟩ : ByteArray)) := (blk_cell BK433.out 0).trans rfl
   have hfs10 := blk_frozen BK433.out 0
   have hs11 : w9.cell? ⟨gb433, 1, none⟩ = some (.int .i64 0) := (blk_cell BK433.out 1).trans rfl
   have hfs11 := blk_frozen BK433.out 1
   have hs12 : w9.cell? ⟨gb433, 2, none⟩ = some (.int .i64 0) := (blk_cell BK433.out 2).trans rfl
   have hfs12 := blk_frozen BK433.out 2
   refine skip_ (w1 := ?_) (by rfl) rfl ?_ ?_
   rotate_left
   ·go_simp
    rfl
   refine hK.out _ _ ⟨((cell_far (p := ⟨gb433, _, none⟩) (fw hw435_0 GW433.out) _).trans (((cell_far (p := ⟨gb433, _, none⟩) (fw hw435_0 GW433.out) _).trans (((cell_far (p := ⟨gb433, _, none⟩) (fw hw435_0 GW433.out) _).trans (hHeld.1)))))), ((cell_far (p := ⟨gb433, _, none⟩) (fw hw435_1 GW433.out) _).trans (((cell_far (p := ⟨gb433, _, none⟩) (fw hw435_1 GW433.out) _).trans (((cell_far (p := ⟨gb433, _, none⟩) (fw hw435_1 GW433.out) _).trans (hHeld.2.1)))))), ((cell_far (p := ⟨gb433, _, none⟩) (fw hw435_2 GW433.out) _).trans (((cell_far (p := ⟨gb433, _, none⟩) (fw hw435_2 GW433.out) _).trans (((cell_far (p := ⟨gb433, _, none⟩) (fw hw435_2 GW433.out) _).trans (hHeld.2.2.1)))))), ((cell_far (p := ⟨gb433, _, none⟩) (fw hw435_3 GW433.out) _).trans (((cell_far (p := ⟨gb433, _, none⟩) (fw hw435_3 GW433.out) _).trans (((cell_far (p := ⟨gb433, _, none⟩) (fw hw435_3 GW433.out) _).trans (hHeld.2.2.2.1)))))), ((cell_far (p := ⟨gb433, _, none⟩) (fw hw435_4 GW433.out) _).trans (((cell_far (p := ⟨gb433, _, none⟩) (fw hw435_4 GW433.out) _).trans (((cell_far (p := ⟨gb433, _, none⟩) (fw hw435_4 GW433.out) _).trans (hHeld.2.2.2.2.1)))))), ((cell_far (p := ⟨gb433, _, none⟩) (fw hw435_5 GW433.out) _).trans (((cell_far (p := ⟨gb433, _, none⟩) (fw hw435_5 GW433.out) _).trans (((cell_far (p := ⟨gb433, _, none⟩) (fw hw435_5 GW433.out) _).trans (hHeld.2.2.2.2.2.1)))))), ((cell_far (p := ⟨gb433, _, none⟩) (fw hw435_6 GW433.out) _).trans (((cell_far (p := ⟨gb433, _, none⟩) (fw hw435_6 GW433.out) _).trans (((cell_far (p := ⟨gb433, _, none⟩) (fw hw435_6 GW433.out) _).trans (hHeld.2.2.2.2.2.2.1)))))), ((cell_far (p := ⟨gb433, _, none⟩) (fw hw435_7 GW433.out) _).trans (((cell_far (p := ⟨gb433, _, none⟩) (fw hw435_7 GW433.out) _).trans (((cell_far (p := ⟨gb433, _, none⟩) (fw hw435_7 GW433.out) _).trans (hHeld.2.2.2.2.2.2.2.1)))))), ((cell_far (p := ⟨gb433, _, none⟩) (fw hw436_0 GW433.out) _).trans (((cell_far (p := ⟨gb433, _, none⟩) (fw hw436_0 GW433.out) _).trans (((cell_far (p := ⟨gb433, _, none⟩) (fw hw436_0 GW433.out) _).trans (hHeld.2.2.2.2.2.2.2.2.1)))))), ((cell_far (p := ⟨gb433, _, none⟩) (fw hw436_1 GW433.out) _).trans (((cell_far (p := ⟨gb433, _, none⟩) (fw hw436_1 GW433.out) _).trans (((cell_far (p := ⟨gb433, _, none⟩) (fw hw436_1 GW433.out) _).trans (hHeld.2.2.2.2.2.2.2.2.2.1)))))), ((cell_far (p := ⟨gb433, _, none⟩) (fw hw436_2 GW433.out) _).trans (((cell_far (p := ⟨gb433, _, none⟩) (fw hw436_2 GW433.out) _).trans (((cell_far (p := ⟨gb433, _, none⟩) (fw hw436_2 GW433.out) _).trans (hHeld.2.2.2.2.2.2.2.2.2.2.1)))))), ((cell_far (p := ⟨gb433, _, none⟩) (fw hw436_3 GW433.out) _).trans (((cell_far (p := ⟨gb433, _, none⟩) (fw hw436_3 GW433.out) _).trans (((cell_far (p := ⟨gb433, _, none⟩) (fw hw436_3 GW433.out) _).trans (hHeld.2.2.2.2.2.2.2.2.2.2.2.1)))))), ((cell_far (p := ⟨gb433, _, none⟩) (fw hw436_4 GW433.out) _).trans (((cell_far (p := ⟨gb433, _, none⟩) (fw hw436_4 GW433.out) _).trans (((cell_far (p := ⟨gb433, _, none⟩) (fw hw436_4 GW433.out) _).trans (hHeld.2.2.2.2.2.2.2.2.2.2.2.2.1)))))), ((cell_far (p := ⟨gb433, _, none⟩) (fw hw436_5 GW433.out) _).trans (((cell_far (p := ⟨gb433, _, none⟩) (fw hw436_5 GW433.out) _).trans (((cell_far (p := ⟨gb433, _, none⟩) (fw hw436_5 GW433.out) _).trans (hHeld.2.2.2.2.2.2.2.2.2.2.2.2.2.1)))))), ((cell_far (p := ⟨gb433, _, none⟩) (fw hw436_6 GW433.out) _).trans (((cell_far (p := ⟨gb433, _, none⟩) (fw hw436_6 GW433.out) _).trans (((cell_far (p := ⟨gb433, _, none⟩) (fw hw436_6 GW433.out) _).trans (hHeld.2.2.2.2.2.2.2.2.2.2.2.2.2.2.1)))))), ((cell_far (p := ⟨gb433, _, none⟩) (fw hw436_7 GW433.out) _).trans (((cell_far (p := ⟨gb433, _, none⟩) (fw hw436_7 GW433.out) _).trans (((cell_far (p := ⟨gb433, _, none⟩) (fw hw436_7 GW433.out) _).trans (hHeld.2.2.2.2.2.2.2.2.2.2.2.2.2.2.2))))))⟩ (fun hHeld => ?_)
   clear hK K
   refine done_ (done_of HT_.out (by kernel_rfl)) ?_
   try go_wp2
   refine bodyPost_ret (results_cell_row rfl _ _ gb433 31 #[.string ((rd_T39 l0 0).f0), .int .i64 0, .int .i64 t437] (0, 0) _ rfl (by refine bx ?_; refine blk_put (cs := #[.string ((rd_T39 l0 0).f0), .int .i64 0, .int .i64 0]) ?_ 2 _ rfl; refine bx ?_; refine blk_put (cs := #[.string ((rd_T39 l0 0).f0), .int .i64 0, .int .i64 0]) ?_ 1 _ rfl; refine bx ?_; refine blk_put (cs := #[.string (⟨#[]⟩ : ByteArray), .int .i64 0, .int .i64 0]) ?_ 0 _ rfl; refine bx ?_; exact BK433.out) Try.underlying31 rfl (by kernel_rfl)) rfl ?_
   exact ⟨exq, bw HB.out⟩
  ·rw [if_neg c4] at H
   exact absurd H (by simp)
 ·replace c3 := Bool.eq_false_iff.mpr c3
  subst c3
  rw [if_neg (show ¬ (false = true) by decide)] at H
  simp only [Option.some.injEq, Prod.mk.injEq] at H
  obtain ⟨rfl, rfl, rfl⟩ := H
  go_enter Try.func27, Try.ntmps27
  go_wp2_with (first | ((with_reducible refine gate_dst (N := 2) rfl ?_); refine box_event ?hg (N := 2) ?hd (cs := #[.string (⟨#[]⟩ : ByteArray), .int .i64 0, .int .i64 0]) (t := 31) ?hr ?_; (case hd => rfl); (case hg => rfl); (case hr => first | (go_simp; done) | (go_simp; rfl)); intro gb433 hg w13 hbox hb; have t_ := And.intro (bs HB hb) <| And.intro (Aside0.mk (hbox)) <| And.intro (gh hg HB) <| (gh hg HB); clear HB; obtain ⟨HB, BK433, GW433, GE433⟩ := t_; clear hb hbox hg) | ((with_reducible refine gate_callee (f := 36) rfl ?_); refine goesL_ (some 4) rfl rfl Try.func36 (by kernel_rfl) rfl #[.slice A0 l0.length c0] rfl mxp ?_; (with_reducible refine (impl_RecOk.calls k _ _ l0 false _ ?side1 ?side2 A2.out).mono ?_); (case side1 => exact cx (Kd.C_below HR0.out HB.out)); (case side2 => exact HC0.out); rintro e w14 ⟨rfl, hb⟩; refine ⟨_, rfl, ?_⟩; replace BK433 := up BK433 hb; replace HB := bs HB hb; (try clear hb); (try clear hb2); (try clear hk); (try clear hi); have hcz15_0 := b0 BK433; have hcz15_1 := b1 BK433; have hcz15_2 := b2 BK433; have hfz15_0 := fz BK433 0; have hfz15_1 := fz BK433 1; have hfz15_2 := fz BK433 2))
  refine bodyPost_ret (results_cell_row rfl _ _ gb433 31 #[.string (⟨#[]⟩ : ByteArray), .int .i64 0, .int .i64 0] (0, 0) _ rfl (by refine bx ?_; refine blk_put (cs := #[.string (⟨#[]⟩ : ByteArray), .int .i64 0, .int .i64 0]) ?_ 2 _ rfl; refine bx ?_; refine blk_put (cs := #[.string (⟨#[]⟩ : ByteArray), .int .i64 0, .int .i64 0]) ?_ 1 _ rfl; refine bx ?_; refine blk_put (cs := #[.string (⟨#[]⟩ : ByteArray), .int .i64 0, .int .i64 0]) ?_ 0 _ rfl; refine bx ?_; exact BK433.out) Try.underlying31 rfl (by kernel_rfl)) rfl ?_
  exact ⟨exq, bw HB.out⟩

end Go.Proofs.Ytdkologncoofdaa.P
