/- Part 5 of the texts that the law FnTop reaches: contracts of the functions and plain lemmas. -/
import Derived.Test.YtdkologncoofdaaCFnTop2
import Derived.Test.YtdkologncoofdaaCFnTop3
import Derived.Test.YtdkologncoofdaaCFnTop4
import Derived.Maps.OwnSet
import Derived.Maps.Ext
import Derived.Maps.OwnOps
import Derived.Maps.RangeWalk
import Derived.Laws.EntriesVeiled
import Derived.WalkSpells
import Derived.StillTailTactics
import Derived.Lib.SlicesCompact
import Derived.Shelf.Sort.Plain
import Derived.Shelf.Slices.CompactS
import Derived.Test.YtdkologncoofdaaProg
import Derived.Sort.OwnSorted
import Derived.Sort.KeysCollected
import Derived.Lib.OwnBridge
import Derived.Sort.Grow
-- Px52
namespace Go.Proofs.Ytdkologncoofdaa.P
open Go.RowKit Go.Proofs.YtdkologncoofdaaW.PrintWords Go.Proofs.YtdkologncoofdaaW.PrintLast Go.Proofs.YtdkologncoofdaaW.PrintMore
attribute [local go_sem] max2_int min2_int max_two min_two max_three min_three max_four min_four   -- for this text's walks alone
set_option linter.unusedVariables false
set_option linter.unusedSimpArgs false

/-! ### spec_l5Spoil: function 94 -/
def spec_l5Spoil.l0 : Nat → List (S39) → Int → Int → List Int → Int → Option ((List (S39)) × Int)
 | 0, _, _, _, _, _ => none
 | k + 1, x5, x7, x8, x1000, x1001 => if (x5.length : Int) < x7 then ((spec_l3Dec.f k x8).bind fun t536 => (if 1 + t536.size ≤ 9223372036854775807 then ((spec_l5Phase.f k x1000 x1001 ((⟨#[122]⟩ : ByteArray) ++ t536) (([] : List ByteArray))).bind fun bt540 => (if x5.length < 1353245080339 then (spec_l5Spoil.l0 k (x5 ++ [(⟨bt540.1, bt540.2.1, bt540.2.2.1, bt540.2.2.2.1, bt540.2.2.2.2.1, bt540.2.2.2.2.2.1, bt540.2.2.2.2.2.2.1, bt540.2.2.2.2.2.2.2.1⟩ : S39)]) x7 (wrap64 (x8 + 1)) x1000 bt540.2.2.2.2.2.2.2.2) else (none))) else (none))) else (some (x5, x1001))
def spec_l5Spoil.f (k : Nat) (s0_0 : List Int) (s0_1 : Int) (l1 : List (S39)) : Option ((List (S39)) × Int) := (some (([] : List (S39)) : List (S39))).bind fun y518 => (if y518.length + l1.length < 1353245080339 then ((some (y518 ++ l1 : List (S39))).bind fun y521 => ((spec_l1Rd_pick.f k s0_0 s0_1 (y521.length : Int)).bind fun bt524 => ((spec_l1Rd_pick.f k s0_0 bt524.2 6).bind fun bt526 => (if bt526.1 = 0 then (if 0 ≤ bt524.1 then (if bt524.1 < (y521.length : Int) then (if y521.length < 1353245080339 then (some ((y521 ++ [(⟨(rd_T39 y521 bt524.1).f0, (rd_T39 y521 bt524.1).f1, (rd_T39 y521 bt524.1).f2, (rd_T39 y521 bt524.1).f3, (rd_T39 y521 bt524.1).f4, (rd_T39 y521 bt524.1).f5, (rd_T39 y521 bt524.1).f6, (rd_T39 y521 bt524.1).f7⟩ : S39)]), bt526.2)) else (none)) else (none)) else (none)) else (if bt526.1 = 1 then (if 0 ≤ bt524.1 then (if bt524.1 < (y521.length : Int) then (if 0 < (y521.length : Int) then (some ((y521.set (0 : Int).toNat (⟨(rd_T39 y521 bt524.1).f0, (rd_T39 y521 bt524.1).f1, (rd_T39 y521 bt524.1).f2, (rd_T39 y521 bt524.1).f3, (rd_T39 y521 bt524.1).f4, (rd_T39 y521 bt524.1).f5, (rd_T39 y521 bt524.1).f6, (rd_T39 y521 bt524.1).f7⟩ : S39)), bt526.2)) else (none)) else (none)) else (none)) else (if bt526.1 = 2 then ((spec_l1Rd_pick.f k s0_0 bt526.2 2).bind fun bt534 => (spec_l5Spoil.l0 k y521 (wrap64 (12 + bt534.1)) 0 s0_0 bt534.2)) else (if 0 ≤ bt524.1 then (if bt524.1 < (y521.length : Int) then ((spec_l5SpoilPhase.f k s0_0 bt526.2 ((rd_T39 y521 bt524.1).f0) ((rd_T39 y521 bt524.1).f1) ((rd_T39 y521 bt524.1).f2) ((rd_T39 y521 bt524.1).f3) ((rd_T39 y521 bt524.1).f4) ((rd_T39 y521 bt524.1).f5) ((rd_T39 y521 bt524.1).f6) ((rd_T39 y521 bt524.1).f7)).bind fun bt553 => (some ((y521.set (bt524.1 : Int).toNat (⟨bt553.1, bt553.2.1, bt553.2.2.1, bt553.2.2.2.1, bt553.2.2.2.2.1, bt553.2.2.2.2.2.1, bt553.2.2.2.2.2.2.1, bt553.2.2.2.2.2.2.2.1⟩ : S39)), bt553.2.2.2.2.2.2.2.2))) else (none)) else (none)))))))) else (none))
theorem spec_l5Spoil.mono_l : ∀ k, (∀ y0 y1 y2 y3 y4, LeO (spec_l5Spoil.l0 k y0 y1 y2 y3 y4) (spec_l5Spoil.l0 (k + 1) y0 y1 y2 y3 y4))
 | 0 => fun _ _ _ _ _ r h => by simp [spec_l5Spoil.l0] at h
 | k + 1 => by
  have ih0 := spec_l5Spoil.mono_l k
  ·intro y0 y1 y2 y3 y4
   unfold spec_l5Spoil.l0
   repeat' first
   | (with_reducible exact ih0 _ _ _ _ _)
   | (with_reducible exact spec_l1Rd_pick.mono _ _ _ _)
   | (with_reducible exact spec_l3Dec.mono _ _)
   | (with_reducible exact spec_l5Phase.mono _ _ _ _ _)
   | (with_reducible exact spec_l5SpoilPhase.mono _ _ _ _ _ _ _ _ _ _ _)
   | (with_reducible exact LeO.refl _)
   | (with_reducible exact LeO.none _)
   | (with_reducible refine LeO.ite ?_ ?_)
   | (with_reducible refine LeO.bind ?_ (fun _ => ?_))
   | exact ih0 _ _ _ _ _
   | exact spec_l1Rd_pick.mono _ _ _ _
   | exact spec_l3Dec.mono _ _
   | exact spec_l5Phase.mono _ _ _ _ _
   | exact spec_l5SpoilPhase.mono _ _ _ _ _ _ _ _ _ _ _
   | exact LeO.none _
   | refine LeO.ite ?_ ?_
   | refine LeO.bind ?_ (fun _ => ?_)
theorem spec_l5Spoil.mono : ∀ a0 a1 a2 k, LeO (spec_l5Spoil.f k a0 a1 a2) (spec_l5Spoil.f (k + 1) a0 a1 a2) := by
 intro a0 a1 a2 k
 have ih0 := spec_l5Spoil.mono_l k
 unfold spec_l5Spoil.f
 repeat' first
   | (with_reducible exact ih0 _ _ _ _ _)
   | (with_reducible exact spec_l1Rd_pick.mono _ _ _ _)
   | (with_reducible exact spec_l3Dec.mono _ _)
   | (with_reducible exact spec_l5Phase.mono _ _ _ _ _)
   | (with_reducible exact spec_l5SpoilPhase.mono _ _ _ _ _ _ _ _ _ _ _)
   | (with_reducible exact LeO.refl _)
   | (with_reducible exact LeO.none _)
   | (with_reducible refine LeO.ite ?_ ?_)
   | (with_reducible refine LeO.bind ?_ (fun _ => ?_))
   | exact ih0 _ _ _ _ _
   | exact spec_l1Rd_pick.mono _ _ _ _
   | exact spec_l3Dec.mono _ _
   | exact spec_l5Phase.mono _ _ _ _ _
   | exact spec_l5SpoilPhase.mono _ _ _ _ _ _ _ _ _ _ _
   | exact LeO.none _
   | refine LeO.ite ?_ ?_
   | refine LeO.bind ?_ (fun _ => ?_)
set_option maxHeartbeats 8000000 in
set_option maxRecDepth 100000 in
theorem spec_l5Spoil.calls (k : Nat) (g : Nat) (s0_0 : List Int) (s0_1 : Int) (A1 : Option Addr) (c1 : Nat) (l1 : List (S39)) (r1 : List (S39)) (r2 : Int) (w0 w : World) (hI : IsS107 w0 w g s0_0 s0_1) (hB : Below w0.heap.size w0 w) (hr1 : ∀ W_, KeepBut w W_ g none → Kd.C k39 W_ A1 l1.length l1) (hc1 : l1.length ≤ c1) (h : spec_l5Spoil.f k s0_0 s0_1 l1 = some (r1, r2)) :
  Calls Try.prog 94 #[.pointer (some ⟨g, 0, none⟩), .slice A1 l1.length c1] w fun e w' => ∃ v0_ : Value, e = .returned (v0_) ∧ Kd.R k39 39 w' w.heap.size (fun _ => True) v0_ r1 ∧ IsS107 w0 w' g s0_0 r2 ∧ Below w0.heap.size w0 w' ∧ KeepBut w w' g none := by
 have hu39 := Try.underlying39
 have HR1 := Aside0.mk hr1
 have HC1 := Aside0.mk hc1
 clear hr1 hc1
 have HI0 := Aside0.mk hI
 have HK := Aside0.mk (KeepBut.refl w g none)
 have HL := Aside0.mk hB.size
 clear hI
 have HW0 := Aside0.mk hB.size
 have HB := Aside0.mk hB
 clear hB
 have H : ((some (([] : List (S39)) : List (S39))).bind fun y518 => (if y518.length + l1.length < 1353245080339 then ((some (y518 ++ l1 : List (S39))).bind fun y521 => ((spec_l1Rd_pick.f k s0_0 s0_1 (y521.length : Int)).bind fun bt524 => ((spec_l1Rd_pick.f k s0_0 bt524.2 6).bind fun bt526 => (if bt526.1 = 0 then (if 0 ≤ bt524.1 then (if bt524.1 < (y521.length : Int) then (if y521.length < 1353245080339 then (some ((y521 ++ [(⟨(rd_T39 y521 bt524.1).f0, (rd_T39 y521 bt524.1).f1, (rd_T39 y521 bt524.1).f2, (rd_T39 y521 bt524.1).f3, (rd_T39 y521 bt524.1).f4, (rd_T39 y521 bt524.1).f5, (rd_T39 y521 bt524.1).f6, (rd_T39 y521 bt524.1).f7⟩ : S39)]), bt526.2)) else (none)) else (none)) else (none)) else (if bt526.1 = 1 then (if 0 ≤ bt524.1 then (if bt524.1 < (y521.length : Int) then (if 0 < (y521.length : Int) then (some ((y521.set (0 : Int).toNat (⟨(rd_T39 y521 bt524.1).f0, (rd_T39 y521 bt524.1).f1, (rd_T39 y521 bt524.1).f2, (rd_T39 y521 bt524.1).f3, (rd_T39 y521 bt524.1).f4, (rd_T39 y521 bt524.1).f5, (rd_T39 y521 bt524.1).f6, (rd_T39 y521 bt524.1).f7⟩ : S39)), bt526.2)) else (none)) else (none)) else (none)) else (if bt526.1 = 2 then ((spec_l1Rd_pick.f k s0_0 bt526.2 2).bind fun bt534 => (spec_l5Spoil.l0 k y521 (wrap64 (12 + bt534.1)) 0 s0_0 bt534.2)) else (if 0 ≤ bt524.1 then (if bt524.1 < (y521.length : Int) then ((spec_l5SpoilPhase.f k s0_0 bt526.2 ((rd_T39 y521 bt524.1).f0) ((rd_T39 y521 bt524.1).f1) ((rd_T39 y521 bt524.1).f2) ((rd_T39 y521 bt524.1).f3) ((rd_T39 y521 bt524.1).f4) ((rd_T39 y521 bt524.1).f5) ((rd_T39 y521 bt524.1).f6) ((rd_T39 y521 bt524.1).f7)).bind fun bt553 => (some ((y521.set (bt524.1 : Int).toNat (⟨bt553.1, bt553.2.1, bt553.2.2.1, bt553.2.2.2.1, bt553.2.2.2.2.1, bt553.2.2.2.2.2.1, bt553.2.2.2.2.2.2.1, bt553.2.2.2.2.2.2.2.1⟩ : S39)), bt553.2.2.2.2.2.2.2.2))) else (none)) else (none)))))))) else (none))) = some (r1, r2) := h
 clear h
 obtain ⟨y518, hy518⟩ : ∃ y_ : List (S39), y_ = (([] : List (S39))) := ⟨_, rfl⟩
 replace H : (if y518.length + l1.length < 1353245080339 then ((some (y518 ++ l1 : List (S39))).bind fun y521 => ((spec_l1Rd_pick.f k s0_0 s0_1 (y521.length : Int)).bind fun bt524 => ((spec_l1Rd_pick.f k s0_0 bt524.2 6).bind fun bt526 => (if bt526.1 = 0 then (if 0 ≤ bt524.1 then (if bt524.1 < (y521.length : Int) then (if y521.length < 1353245080339 then (some ((y521 ++ [(⟨(rd_T39 y521 bt524.1).f0, (rd_T39 y521 bt524.1).f1, (rd_T39 y521 bt524.1).f2, (rd_T39 y521 bt524.1).f3, (rd_T39 y521 bt524.1).f4, (rd_T39 y521 bt524.1).f5, (rd_T39 y521 bt524.1).f6, (rd_T39 y521 bt524.1).f7⟩ : S39)]), bt526.2)) else (none)) else (none)) else (none)) else (if bt526.1 = 1 then (if 0 ≤ bt524.1 then (if bt524.1 < (y521.length : Int) then (if 0 < (y521.length : Int) then (some ((y521.set (0 : Int).toNat (⟨(rd_T39 y521 bt524.1).f0, (rd_T39 y521 bt524.1).f1, (rd_T39 y521 bt524.1).f2, (rd_T39 y521 bt524.1).f3, (rd_T39 y521 bt524.1).f4, (rd_T39 y521 bt524.1).f5, (rd_T39 y521 bt524.1).f6, (rd_T39 y521 bt524.1).f7⟩ : S39)), bt526.2)) else (none)) else (none)) else (none)) else (if bt526.1 = 2 then ((spec_l1Rd_pick.f k s0_0 bt526.2 2).bind fun bt534 => (spec_l5Spoil.l0 k y521 (wrap64 (12 + bt534.1)) 0 s0_0 bt534.2)) else (if 0 ≤ bt524.1 then (if bt524.1 < (y521.length : Int) then ((spec_l5SpoilPhase.f k s0_0 bt526.2 ((rd_T39 y521 bt524.1).f0) ((rd_T39 y521 bt524.1).f1) ((rd_T39 y521 bt524.1).f2) ((rd_T39 y521 bt524.1).f3) ((rd_T39 y521 bt524.1).f4) ((rd_T39 y521 bt524.1).f5) ((rd_T39 y521 bt524.1).f6) ((rd_T39 y521 bt524.1).f7)).bind fun bt553 => (some ((y521.set (bt524.1 : Int).toNat (⟨bt553.1, bt553.2.1, bt553.2.2.1, bt553.2.2.2.1, bt553.2.2.2.2.1, bt553.2.2.2.2.2.1, bt553.2.2.2.2.2.2.1, bt553.2.2.2.2.2.2.2.1⟩ : S39)), bt553.2.2.2.2.2.2.2.2))) else (none)) else (none)))))))) else (none)) = some (r1, r2) := rpl H hy518
 have Ny518 := Aside0.mk hy518
 clear hy518
 by_cases c3 : y518.length + l1.length < 1353245080339
 ·rw [if_pos c3] at H
  have LMc3 := Aside0.mk c3
  clear c3
  obtain ⟨y521, hy521⟩ : ∃ y_ : List (S39), y_ = (y518 ++ l1) := ⟨_, rfl⟩
  replace H : ((spec_l1Rd_pick.f k s0_0 s0_1 (y521.length : Int)).bind fun bt524 => ((spec_l1Rd_pick.f k s0_0 bt524.2 6).bind fun bt526 => (if bt526.1 = 0 then (if 0 ≤ bt524.1 then (if bt524.1 < (y521.length : Int) then (if y521.length < 1353245080339 then (some ((y521 ++ [(⟨(rd_T39 y521 bt524.1).f0, (rd_T39 y521 bt524.1).f1, (rd_T39 y521 bt524.1).f2, (rd_T39 y521 bt524.1).f3, (rd_T39 y521 bt524.1).f4, (rd_T39 y521 bt524.1).f5, (rd_T39 y521 bt524.1).f6, (rd_T39 y521 bt524.1).f7⟩ : S39)]), bt526.2)) else (none)) else (none)) else (none)) else (if bt526.1 = 1 then (if 0 ≤ bt524.1 then (if bt524.1 < (y521.length : Int) then (if 0 < (y521.length : Int) then (some ((y521.set (0 : Int).toNat (⟨(rd_T39 y521 bt524.1).f0, (rd_T39 y521 bt524.1).f1, (rd_T39 y521 bt524.1).f2, (rd_T39 y521 bt524.1).f3, (rd_T39 y521 bt524.1).f4, (rd_T39 y521 bt524.1).f5, (rd_T39 y521 bt524.1).f6, (rd_T39 y521 bt524.1).f7⟩ : S39)), bt526.2)) else (none)) else (none)) else (none)) else (if bt526.1 = 2 then ((spec_l1Rd_pick.f k s0_0 bt526.2 2).bind fun bt534 => (spec_l5Spoil.l0 k y521 (wrap64 (12 + bt534.1)) 0 s0_0 bt534.2)) else (if 0 ≤ bt524.1 then (if bt524.1 < (y521.length : Int) then ((spec_l5SpoilPhase.f k s0_0 bt526.2 ((rd_T39 y521 bt524.1).f0) ((rd_T39 y521 bt524.1).f1) ((rd_T39 y521 bt524.1).f2) ((rd_T39 y521 bt524.1).f3) ((rd_T39 y521 bt524.1).f4) ((rd_T39 y521 bt524.1).f5) ((rd_T39 y521 bt524.1).f6) ((rd_T39 y521 bt524.1).f7)).bind fun bt553 => (some ((y521.set (bt524.1 : Int).toNat (⟨bt553.1, bt553.2.1, bt553.2.2.1, bt553.2.2.2.1, bt553.2.2.2.2.1, bt553.2.2.2.2.2.1, bt553.2.2.2.2.2.2.1, bt553.2.2.2.2.2.2.2.1⟩ : S39)), bt553.2.2.2.2.2.2.2.2))) else (none)) else (none))))))) = some (r1, r2) := rpl H hy521
  have Ny521 := Aside0.mk hy521
  clear hy521
  replace H := Option.bind_eq_some_iff.mp H
  obtain ⟨⟨t524, t525⟩, A40, H⟩ := H
  try dsimp only at H
  have A4 := Aside0.mk A40
  clear A40
  replace H := Option.bind_eq_some_iff.mp H
  obtain ⟨⟨t526, t527⟩, A50, H⟩ := H
  try dsimp only at H
  have A5 := Aside0.mk A50
  clear A50
  by_cases c6 : t526 = 0
  ·rw [if_pos c6] at H
   have c6b0 : (t526 == 0) = true := beq_iff_eq.mpr c6
   have c6b1 : (t526 != 0) = false := bne_eq_false_iff_eq.mpr c6
   clear c6
   by_cases c7 : 0 ≤ t524
   ·rw [if_pos c7] at H
    have c7b0 : decide (0 ≤ t524) = true := decide_eq_true c7
    clear c7
    by_cases c8 : t524 < (y521.length : Int)
    ·rw [if_pos c8] at H
     have c8b0 : decide (t524 < (y521.length : Int)) = true := decide_eq_true c8
     clear c8
     by_cases c9 : y521.length < 1353245080339
     ·rw [if_pos c9] at H
      have LMc9 := Aside0.mk c9
      clear c9
      obtain ⟨y529, hy529⟩ : ∃ y_ : List (S39), y_ = (y521 ++ [(⟨(rd_T39 y521 t524).f0, (rd_T39 y521 t524).f1, (rd_T39 y521 t524).f2, (rd_T39 y521 t524).f3, (rd_T39 y521 t524).f4, (rd_T39 y521 t524).f5, (rd_T39 y521 t524).f6, (rd_T39 y521 t524).f7⟩ : S39)]) := ⟨_, rfl⟩
      replace H : (some (y529, t527)) = some (r1, r2) := rpl H hy529
      have Ny529 := Aside0.mk hy529
      clear hy529
      simp only [Option.some.injEq, Prod.mk.injEq] at H
      obtain ⟨rfl, rfl⟩ := H
      go_enter Try.func94, Try.ntmps94
      go_wp2_with (first | ((with_reducible refine gate_dst (N := 9) rfl ?_); refine Kd.R_lit k39 _ 39 ?hg (N := 9) ?hd (xs := ([] : List (S39))) (inner := []) (ok := fun _ => True) (okp := fun _ => True) ?hr ?hp (fun _ hk => hk) trivial (Below.refl _ _) (Nat.le_refl _) (by simp) ?_; (case hd => rfl); (case hg => rfl); (case hr => first | (go_simp; done) | (go_simp; rfl)); (case hp => exact (Reps.none _ _)); intro v519 w10 ho11 hb hg_ hnew_; clear hg_ hnew_; (first | rw [← Ny518.out] at ho11 | (simp only [Int.reduceToNat] at ho11; rw [← Ny518.out] at ho11)); have t_ := And.intro (Aside0.mk (Kd.R_lower ho11 (keep_size (w := w) (g := g) (row := none) (kb HK.out)))) <| And.intro (Aside0.mk (IsS107.below (ib HI0.out) hb)) <| And.intro (kt HK (KeepBut.of_below hb g none)) <| (bsi HB hb); clear HI0 HK HB; obtain ⟨HO520, HI0, HK, HB⟩ := t_; clear hb ho11) | ((with_reducible refine gate_builtin (b := .append) (xs := #[.tmp 9, .tmp 10]) rfl ?_); at_builtin; refine Kd.R_append_rows k39 w.heap.size rfl (.tmp 9) (.tmp 10) 26 39 (.agg #[(.string ⟨#[]⟩), (.int .i64 0), (.string ⟨#[]⟩), (.string ⟨#[]⟩), (.int .i64 0), (.int .i64 0), (.string ⟨#[]⟩), (.string ⟨#[]⟩)]) 104 rfl Try.underlying26 info39 rfl (by decide) (by omega) v519 y518 l1 _ _ _ (fun _ => True) (fun _ => False) rfl rfl ?aO ?aR (fun _ _ h => h) (fun _ h => h.elim) ?aF (Below.refl _ _) ?aS ?aL ?_; (case aR => exact Kd.C_foot_now HR1.out (kb HK.out)); (case aF => exact (fun _ _ => trivial)); (case aO => exact (rx HO520.out)); (case aS => exact (keep_size (w := w) (g := g) (row := none) (kb HK.out))); (case aL => have := LMc3.out; omega); intro v522 w12 ho hb hg hat; rw [← Ny521.out] at ho; have t_ := And.intro (Aside0.mk (IsS107.grown (ib HI0.out) hg (IsS107.own_ne HI0.out HO520.out (by decide)))) <| And.intro (Aside0.mk (below_weaken (bi HB.out) HL.out hb)) <| And.intro (Aside0.mk (KeepBut.trans (kb HK.out) (KeepBut.of_grown hg g) (Kd.R_base2 HO520.out))) <| (Aside0.mk (ho)); clear HI0 HB HK HO520; obtain ⟨HI0, HB, HK, HO523⟩ := t_; clear ho hb hg hat; obtain ⟨Ao13, co13, eo13⟩ := Kd.R_slice HO523.out; subst eo13) | ((with_reducible refine gate_callee (f := 64) rfl ?_); refine goesL_ (some 15) rfl rfl Try.func64 (by kernel_rfl) rfl #[.pointer (some ⟨g, 0, none⟩), .int .i64 (y521.length : Int)] rfl mxp ?_; (with_reducible refine (spec_l1Rd_pick.calls k g s0_0 s0_1 (y521.length : Int) t524 t525 w0 _ ?side1 ?side2 A4.out).mono ?_); (case side1 => exact ib HI0.out); (case side2 => exact bi HB.out); rintro e w14 ⟨rfl, hi, hb, hk⟩; refine ⟨_, rfl, ?_⟩; have t_ := And.intro (Aside0.mk (Kd.R_mono (Kd.R_keep (IsS107.apart (show IsS107 w0 _ g s0_0 s0_1 from ib HI0.out) (rx HO523.out) (by decide)) hk (fun _ h => h.2)) (fun _ h => h.1))) <| And.intro (kt HK hk) <| And.intro (Aside0.mk (hb)) <| (Aside0.mk (hi)); clear HO523 HK HB HI0; obtain ⟨HO523, HK, HB, HI0⟩ := t_; (try clear hb); (try clear hb2); (try clear hk); (try clear hi)) | ((with_reducible refine gate_callee (f := 64) rfl ?_); refine goesL_ (some 17) rfl rfl Try.func64 (by kernel_rfl) rfl #[.pointer (some ⟨g, 0, none⟩), .int .i64 6] rfl mxp ?_; (with_reducible refine (spec_l1Rd_pick.calls k g s0_0 t525 6 t526 t527 w0 _ ?side1 ?side2 A5.out).mono ?_); (case side1 => exact ib HI0.out); (case side2 => exact bi HB.out); rintro e w15 ⟨rfl, hi, hb, hk⟩; refine ⟨_, rfl, ?_⟩; have t_ := And.intro (Aside0.mk (Kd.R_mono (Kd.R_keep (IsS107.apart (show IsS107 w0 _ g s0_0 t525 from ib HI0.out) (rx HO523.out) (by decide)) hk (fun _ h => h.2)) (fun _ h => h.1))) <| And.intro (kt HK hk) <| And.intro (Aside0.mk (hb)) <| (Aside0.mk (hi)); clear HO523 HK HB HI0; obtain ⟨HO523, HK, HB, HI0⟩ := t_; (try clear hb); (try clear hb2); (try clear hk); (try clear hi); have p528 : 0 ≤ (t524 : Int) := oda; have q528 : t524 < (y521.length : Int) := oda; obtain ⟨ad528, e528, hx528_0, hx528_1, hx528_2, hx528_3, hx528_4, hx528_5, hx528_6, hx528_7⟩ := at_T39 (Kd.R_reads' HO523.out).2.2 t524 p528 q528; cases e528; replace p528 := eq_true p528; replace q528 := eq_true q528) | ((with_reducible refine gate_builtin (b := .append) (xs := #[.tmp 29, .tmp 34]) rfl ?_); at_builtin; refine Kd.R_append k39 w.heap.size rfl (.tmp 29) (.tmp 34) 26 39 (.agg #[(.string ⟨#[]⟩), (.int .i64 0), (.string ⟨#[]⟩), (.string ⟨#[]⟩), (.int .i64 0), (.int .i64 0), (.string ⟨#[]⟩), (.string ⟨#[]⟩)]) 104 rfl Try.underlying26 info39 rfl (by decide) (by omega) (.slice (some ad528) y521.length co13) y521 (⟨(rd_T39 y521 t524).f0, (rd_T39 y521 t524).f1, (rd_T39 y521 t524).f2, (rd_T39 y521 t524).f3, (rd_T39 y521 t524).f4, (rd_T39 y521 t524).f5, (rd_T39 y521 t524).f6, (rd_T39 y521 t524).f7⟩ : S39) [.string ((rd_T39 y521 t524).f0), .int .i64 ((rd_T39 y521 t524).f1), .string ((rd_T39 y521 t524).f2), .string ((rd_T39 y521 t524).f3), .int .i64 ((rd_T39 y521 t524).f4), .int .i64 ((rd_T39 y521 t524).f5), .string ((rd_T39 y521 t524).f6), .string ((rd_T39 y521 t524).f7)] (fun _ => True) (fun _ => False) rfl rfl ?aP (fun _ hk => hk.elim) ?aF ?aO (Below.refl _ _) ?aS ?aL ?_; (case aP => exact k39_mkM _ _ _ (⟨(rd_T39 y521 t524).f0, (rd_T39 y521 t524).f1, (rd_T39 y521 t524).f2, (rd_T39 y521 t524).f3, (rd_T39 y521 t524).f4, (rd_T39 y521 t524).f5, (rd_T39 y521 t524).f6, (rd_T39 y521 t524).f7⟩ : S39)); (case aF => exact (fun _ _ => trivial)); (case aO => exact (rx HO523.out)); (case aS => exact (keep_size (w := w) (g := g) (row := none) (kb HK.out))); (case aL => have := LMc9.out; omega); intro v530 w16 ho hb hg hat; rw [← Ny529.out] at ho; have t_ := And.intro (Aside0.mk (IsS107.grown (ib HI0.out) hg (IsS107.own_ne HI0.out HO523.out (by decide)))) <| And.intro (Aside0.mk (below_weaken (bi HB.out) HL.out hb)) <| And.intro (Aside0.mk (KeepBut.trans (kb HK.out) (KeepBut.of_grown hg g) (Kd.R_base2 HO523.out))) <| (Aside0.mk (ho)); clear HI0 HB HK HO523; obtain ⟨HI0, HB, HK, HO531⟩ := t_; clear ho hb hg hat))
      go_ret
      exact ⟨_, exq, by refine rx ?_; exact HO531.out, ib HI0.out, bi HB.out, kb HK.out⟩
     ·rw [if_neg c9] at H
      exact absurd H (by simp)
    ·rw [if_neg c8] at H
     exact absurd H (by simp)
   ·rw [if_neg c7] at H
    exact absurd H (by simp)
  ·rw [if_neg c6] at H
   have c6b0 : (t526 == 0) = false := beq_eq_false_iff_ne.mpr c6
   have c6b1 : (t526 != 0) = true := bne_iff_ne.mpr c6
   by_cases c17 : t526 = 1
   ·rw [if_pos c17] at H
    have c17b0 : (t526 == 1) = true := beq_iff_eq.mpr c17
    have c17b1 : (t526 != 1) = false := bne_eq_false_iff_eq.mpr c17
    clear c17
    by_cases c18 : 0 ≤ t524
    ·rw [if_pos c18] at H
     have c18b0 : decide (0 ≤ t524) = true := decide_eq_true c18
     clear c18
     by_cases c19 : t524 < (y521.length : Int)
     ·rw [if_pos c19] at H
      have c19b0 : decide (t524 < (y521.length : Int)) = true := decide_eq_true c19
      clear c19
      by_cases c20 : 0 < (y521.length : Int)
      ·rw [if_pos c20] at H
       have c20b0 : decide (0 < (y521.length : Int)) = true := decide_eq_true c20
       have c20b1 : decide (0 < y521.length) = true := decide_eq_true (by omega)
       clear c20
       obtain ⟨y533, hy533⟩ : ∃ y_ : List (S39), y_ = (y521.set (0 : Int).toNat (⟨(rd_T39 y521 t524).f0, (rd_T39 y521 t524).f1, (rd_T39 y521 t524).f2, (rd_T39 y521 t524).f3, (rd_T39 y521 t524).f4, (rd_T39 y521 t524).f5, (rd_T39 y521 t524).f6, (rd_T39 y521 t524).f7⟩ : S39)) := ⟨_, rfl⟩
       replace H : (some (y533, t527)) = some (r1, r2) := rpl H hy533
       have Ny533 := Aside0.mk hy533
       clear hy533
       simp only [Option.some.injEq, Prod.mk.injEq] at H
       obtain ⟨rfl, rfl⟩ := H
       go_enter Try.func94, Try.ntmps94
       go_wp2_with (first | ((with_reducible refine gate_dst (N := 9) rfl ?_); refine Kd.R_lit k39 _ 39 ?hg (N := 9) ?hd (xs := ([] : List (S39))) (inner := []) (ok := fun _ => True) (okp := fun _ => True) ?hr ?hp (fun _ hk => hk) trivial (Below.refl _ _) (Nat.le_refl _) (by simp) ?_; (case hd => rfl); (case hg => rfl); (case hr => first | (go_simp; done) | (go_simp; rfl)); (case hp => exact (Reps.none _ _)); intro v519 w22 ho23 hb hg_ hnew_; clear hg_ hnew_; (first | rw [← Ny518.out] at ho23 | (simp only [Int.reduceToNat] at ho23; rw [← Ny518.out] at ho23)); have t_ := And.intro (Aside0.mk (Kd.R_lower ho23 (keep_size (w := w) (g := g) (row := none) (kb HK.out)))) <| And.intro (Aside0.mk (IsS107.below (ib HI0.out) hb)) <| And.intro (kt HK (KeepBut.of_below hb g none)) <| (bsi HB hb); clear HI0 HK HB; obtain ⟨HO520, HI0, HK, HB⟩ := t_; clear hb ho23) | ((with_reducible refine gate_builtin (b := .append) (xs := #[.tmp 9, .tmp 10]) rfl ?_); at_builtin; refine Kd.R_append_rows k39 w.heap.size rfl (.tmp 9) (.tmp 10) 26 39 (.agg #[(.string ⟨#[]⟩), (.int .i64 0), (.string ⟨#[]⟩), (.string ⟨#[]⟩), (.int .i64 0), (.int .i64 0), (.string ⟨#[]⟩), (.string ⟨#[]⟩)]) 104 rfl Try.underlying26 info39 rfl (by decide) (by omega) v519 y518 l1 _ _ _ (fun _ => True) (fun _ => False) rfl rfl ?aO ?aR (fun _ _ h => h) (fun _ h => h.elim) ?aF (Below.refl _ _) ?aS ?aL ?_; (case aR => exact Kd.C_foot_now HR1.out (kb HK.out)); (case aF => exact (fun _ _ => trivial)); (case aO => exact (rx HO520.out)); (case aS => exact (keep_size (w := w) (g := g) (row := none) (kb HK.out))); (case aL => have := LMc3.out; omega); intro v522 w24 ho hb hg hat; rw [← Ny521.out] at ho; have t_ := And.intro (Aside0.mk (IsS107.grown (ib HI0.out) hg (IsS107.own_ne HI0.out HO520.out (by decide)))) <| And.intro (Aside0.mk (below_weaken (bi HB.out) HL.out hb)) <| And.intro (Aside0.mk (KeepBut.trans (kb HK.out) (KeepBut.of_grown hg g) (Kd.R_base2 HO520.out))) <| (Aside0.mk (ho)); clear HI0 HB HK HO520; obtain ⟨HI0, HB, HK, HO523⟩ := t_; clear ho hb hg hat; obtain ⟨Ao25, co25, eo25⟩ := Kd.R_slice HO523.out; subst eo25) | ((with_reducible refine gate_callee (f := 64) rfl ?_); refine goesL_ (some 15) rfl rfl Try.func64 (by kernel_rfl) rfl #[.pointer (some ⟨g, 0, none⟩), .int .i64 (y521.length : Int)] rfl mxp ?_; (with_reducible refine (spec_l1Rd_pick.calls k g s0_0 s0_1 (y521.length : Int) t524 t525 w0 _ ?side1 ?side2 A4.out).mono ?_); (case side1 => exact ib HI0.out); (case side2 => exact bi HB.out); rintro e w26 ⟨rfl, hi, hb, hk⟩; refine ⟨_, rfl, ?_⟩; have t_ := And.intro (Aside0.mk (Kd.R_mono (Kd.R_keep (IsS107.apart (show IsS107 w0 _ g s0_0 s0_1 from ib HI0.out) (rx HO523.out) (by decide)) hk (fun _ h => h.2)) (fun _ h => h.1))) <| And.intro (kt HK hk) <| And.intro (Aside0.mk (hb)) <| (Aside0.mk (hi)); clear HO523 HK HB HI0; obtain ⟨HO523, HK, HB, HI0⟩ := t_; (try clear hb); (try clear hb2); (try clear hk); (try clear hi)) | ((with_reducible refine gate_callee (f := 64) rfl ?_); refine goesL_ (some 17) rfl rfl Try.func64 (by kernel_rfl) rfl #[.pointer (some ⟨g, 0, none⟩), .int .i64 6] rfl mxp ?_; (with_reducible refine (spec_l1Rd_pick.calls k g s0_0 t525 6 t526 t527 w0 _ ?side1 ?side2 A5.out).mono ?_); (case side1 => exact ib HI0.out); (case side2 => exact bi HB.out); rintro e w27 ⟨rfl, hi, hb, hk⟩; refine ⟨_, rfl, ?_⟩; have t_ := And.intro (Aside0.mk (Kd.R_mono (Kd.R_keep (IsS107.apart (show IsS107 w0 _ g s0_0 t525 from ib HI0.out) (rx HO523.out) (by decide)) hk (fun _ h => h.2)) (fun _ h => h.1))) <| And.intro (kt HK hk) <| And.intro (Aside0.mk (hb)) <| (Aside0.mk (hi)); clear HO523 HK HB HI0; obtain ⟨HO523, HK, HB, HI0⟩ := t_; (try clear hb); (try clear hb2); (try clear hk); (try clear hi); have p532 : 0 ≤ (t524 : Int) := oda; have q532 : t524 < (y521.length : Int) := oda; obtain ⟨ad532, e532, hx532_0, hx532_1, hx532_2, hx532_3, hx532_4, hx532_5, hx532_6, hx532_7⟩ := at_T39 (Kd.R_reads' HO523.out).2.2 t524 p532 q532; cases e532; replace p532 := eq_true p532; replace q532 := eq_true q532; have p21 : 0 ≤ (0 : Int) := (by omega); have q21 : (0 : Int) < ((y521.length : Int) : Int) := oda; have qi21 : (0 < y521.length) = True := eq_true (by omega); obtain ⟨go21, co21, eo21, gb21, gl21, cl21, HG21⟩ := Kd.R_form HO523.out (by omega); (first | cases eo21 | (injection eo21 with ea_ en_ ec_; (first | subst ea_ | (injection ea_ with ea_; subst ea_)); subst ec_; clear en_)); have GB21 := Aside0.mk gb21; have GG21 := Aside0.mk HG21; clear gb21 gl21 HG21; (first | simp only [add_plain] at hx532_0 | skip); (first | simp only [add_plain] at hx532_1 | skip); (first | simp only [add_plain] at hx532_2 | skip); (first | simp only [add_plain] at hx532_3 | skip); (first | simp only [add_plain] at hx532_4 | skip); (first | simp only [add_plain] at hx532_5 | skip); (first | simp only [add_plain] at hx532_6 | skip); (first | simp only [add_plain] at hx532_7 | skip); obtain ⟨ce21, hcl21, hM21, hcc21, hfr21⟩ := Kd.R_elem HO523.out z39 (0 : Int) p21 q21; obtain rfl := k39_openM hM21; have hx21_0 : w27.cell? ⟨go21, (0 : Int).toNat * 8, none⟩ = some (.string ((rd_T39 y521 0).f0)) := hcc21 0 _ rfl; have hx21_1 : w27.cell? ⟨go21, (0 : Int).toNat * 8 + 1, none⟩ = some (.int .i64 ((rd_T39 y521 0).f1)) := hcc21 1 _ rfl; have hx21_2 : w27.cell? ⟨go21, (0 : Int).toNat * 8 + 2, none⟩ = some (.string ((rd_T39 y521 0).f2)) := hcc21 2 _ rfl; have hx21_3 : w27.cell? ⟨go21, (0 : Int).toNat * 8 + 3, none⟩ = some (.string ((rd_T39 y521 0).f3)) := hcc21 3 _ rfl; have hx21_4 : w27.cell? ⟨go21, (0 : Int).toNat * 8 + 4, none⟩ = some (.int .i64 ((rd_T39 y521 0).f4)) := hcc21 4 _ rfl; have hx21_5 : w27.cell? ⟨go21, (0 : Int).toNat * 8 + 5, none⟩ = some (.int .i64 ((rd_T39 y521 0).f5)) := hcc21 5 _ rfl; have hx21_6 : w27.cell? ⟨go21, (0 : Int).toNat * 8 + 6, none⟩ = some (.string ((rd_T39 y521 0).f6)) := hcc21 6 _ rfl; have hx21_7 : w27.cell? ⟨go21, (0 : Int).toNat * 8 + 7, none⟩ = some (.string ((rd_T39 y521 0).f7)) := hcc21 7 _ rfl; have hf21_0 : w27.frozen? ⟨go21, (0 : Int).toNat * 8, none⟩ = false := hfr21 0; have hf21_1 : w27.frozen? ⟨go21, (0 : Int).toNat * 8 + 1, none⟩ = false := hfr21 1; have hf21_2 : w27.frozen? ⟨go21, (0 : Int).toNat * 8 + 2, none⟩ = false := hfr21 2; have hf21_3 : w27.frozen? ⟨go21, (0 : Int).toNat * 8 + 3, none⟩ = false := hfr21 3; have hf21_4 : w27.frozen? ⟨go21, (0 : Int).toNat * 8 + 4, none⟩ = false := hfr21 4; have hf21_5 : w27.frozen? ⟨go21, (0 : Int).toNat * 8 + 5, none⟩ = false := hfr21 5; have hf21_6 : w27.frozen? ⟨go21, (0 : Int).toNat * 8 + 6, none⟩ = false := hfr21 6; have hf21_7 : w27.frozen? ⟨go21, (0 : Int).toNat * 8 + 7, none⟩ = false := hfr21 7; clear hcl21 hcc21 hfr21 hM21; (try rw [show ((0 : Int)).toNat = 0 from rfl] at hx21_0); (try simp only [Nat.reduceMul, Nat.zero_mul, Nat.zero_add, Nat.reduceAdd] at hx21_0); (try rw [show ((0 : Int)).toNat = 0 from rfl] at hf21_0); (try simp only [Nat.reduceMul, Nat.zero_mul, Nat.zero_add, Nat.reduceAdd] at hf21_0); (try rw [show ((0 : Int)).toNat = 0 from rfl] at hx21_1); (try simp only [Nat.reduceMul, Nat.zero_mul, Nat.zero_add, Nat.reduceAdd] at hx21_1); (try rw [show ((0 : Int)).toNat = 0 from rfl] at hf21_1); (try simp only [Nat.reduceMul, Nat.zero_mul, Nat.zero_add, Nat.reduceAdd] at hf21_1); (try rw [show ((0 : Int)).toNat = 0 from rfl] at hx21_2); (try simp only [Nat.reduceMul, Nat.zero_mul, Nat.zero_add, Nat.reduceAdd] at hx21_2); (try rw [show ((0 : Int)).toNat = 0 from rfl] at hf21_2); (try simp only [Nat.reduceMul, Nat.zero_mul, Nat.zero_add, Nat.reduceAdd] at hf21_2); (try rw [show ((0 : Int)).toNat = 0 from rfl] at hx21_3); (try simp only [Nat.reduceMul, Nat.zero_mul, Nat.zero_add, Nat.reduceAdd] at hx21_3); (try rw [show ((0 : Int)).toNat = 0 from rfl] at hf21_3); (try simp only [Nat.reduceMul, Nat.zero_mul, Nat.zero_add, Nat.reduceAdd] at hf21_3); (try rw [show ((0 : Int)).toNat = 0 from rfl] at hx21_4); (try simp only [Nat.reduceMul, Nat.zero_mul, Nat.zero_add, Nat.reduceAdd] at hx21_4); (try rw [show ((0 : Int)).toNat = 0 from rfl] at hf21_4); (try simp only [Nat.reduceMul, Nat.zero_mul, Nat.zero_add, Nat.reduceAdd] at hf21_4); (try rw [show ((0 : Int)).toNat = 0 from rfl] at hx21_5); (try simp only [Nat.reduceMul, Nat.zero_mul, Nat.zero_add, Nat.reduceAdd] at hx21_5); (try rw [show ((0 : Int)).toNat = 0 from rfl] at hf21_5); (try simp only [Nat.reduceMul, Nat.zero_mul, Nat.zero_add, Nat.reduceAdd] at hf21_5); (try rw [show ((0 : Int)).toNat = 0 from rfl] at hx21_6); (try simp only [Nat.reduceMul, Nat.zero_mul, Nat.zero_add, Nat.reduceAdd] at hx21_6); (try rw [show ((0 : Int)).toNat = 0 from rfl] at hf21_6); (try simp only [Nat.reduceMul, Nat.zero_mul, Nat.zero_add, Nat.reduceAdd] at hf21_6); (try rw [show ((0 : Int)).toNat = 0 from rfl] at hx21_7); (try simp only [Nat.reduceMul, Nat.zero_mul, Nat.zero_add, Nat.reduceAdd] at hx21_7); (try rw [show ((0 : Int)).toNat = 0 from rfl] at hf21_7); (try simp only [Nat.reduceMul, Nat.zero_mul, Nat.zero_add, Nat.reduceAdd] at hf21_7); replace p21 := eq_true p21; replace q21 := eq_true q21; have HX28 := Aside0.mk (show Kd.R k39 39 w27 w.heap.size (fun _ => True) (.slice (some ⟨go21, 0, none⟩) y521.length co25) y521 from (rx HO523.out)); obtain ⟨ce28, hcl28, hM28, hcc28, hfr28⟩ := Kd.R_elem HX28.out z39 (0 : Int) (by omega) (by have h_ : (0 : Int) < ((y521.length : Int) : Int) := oda; first | exact h_ | (have e_ := (Kd.R_reads' HO523.out).1; omega) | simpa using h_); obtain rfl := k39_openM hM28; have HP28 := Kd.R_seg HX28.out (0 : Int) (by omega) (by have h_ : (0 : Int) < ((y521.length : Int) : Int) := oda; first | exact h_ | (have e_ := (Kd.R_reads' HO523.out).1; omega) | simpa using h_) (seg := [.string ((rd_T39 y521 t524).f0), .int .i64 ((rd_T39 y521 t524).f1), .string ((rd_T39 y521 t524).f2), .string ((rd_T39 y521 t524).f3), .int .i64 ((rd_T39 y521 t524).f4), .int .i64 ((rd_T39 y521 t524).f5), .string ((rd_T39 y521 t524).f6), .string ((rd_T39 y521 t524).f7)]) (j := 0) hcl28 hcc28 (show 8 ≤ 8 from by decide) (x' := (⟨(rd_T39 y521 t524).f0, (rd_T39 y521 t524).f1, (rd_T39 y521 t524).f2, (rd_T39 y521 t524).f3, (rd_T39 y521 t524).f4, (rd_T39 y521 t524).f5, (rd_T39 y521 t524).f6, (rd_T39 y521 t524).f7⟩ : S39)) (k39_mkM _ _ _ (⟨(rd_T39 y521 t524).f0, (rd_T39 y521 t524).f1, (rd_T39 y521 t524).f2, (rd_T39 y521 t524).f3, (rd_T39 y521 t524).f4, (rd_T39 y521 t524).f5, (rd_T39 y521 t524).f6, (rd_T39 y521 t524).f7⟩ : S39) ) (fun _ hk => hk); have hx28_0 := hcc28 0 _ rfl; (try simp only [show (k39).sz = 8 from rfl, Nat.mul_one, Nat.add_zero] at hx28_0); (try rw [show ((0 : Int)).toNat = 0 from rfl] at hx28_0); (try simp only [Nat.reduceMul, Nat.zero_mul, Nat.zero_add, Nat.reduceAdd] at hx28_0); have hf28_0 := hfr28 0; (try simp only [show (k39).sz = 8 from rfl, Nat.mul_one, Nat.add_zero] at hf28_0); (try rw [show ((0 : Int)).toNat = 0 from rfl] at hf28_0); (try simp only [Nat.reduceMul, Nat.zero_mul, Nat.zero_add, Nat.reduceAdd] at hf28_0); have hx28_1 := hcc28 1 _ rfl; (try simp only [show (k39).sz = 8 from rfl, Nat.mul_one, Nat.add_zero] at hx28_1); (try rw [show ((0 : Int)).toNat = 0 from rfl] at hx28_1); (try simp only [Nat.reduceMul, Nat.zero_mul, Nat.zero_add, Nat.reduceAdd] at hx28_1); have hf28_1 := hfr28 1; (try simp only [show (k39).sz = 8 from rfl, Nat.mul_one, Nat.add_zero] at hf28_1); (try rw [show ((0 : Int)).toNat = 0 from rfl] at hf28_1); (try simp only [Nat.reduceMul, Nat.zero_mul, Nat.zero_add, Nat.reduceAdd] at hf28_1); have hx28_2 := hcc28 2 _ rfl; (try simp only [show (k39).sz = 8 from rfl, Nat.mul_one, Nat.add_zero] at hx28_2); (try rw [show ((0 : Int)).toNat = 0 from rfl] at hx28_2); (try simp only [Nat.reduceMul, Nat.zero_mul, Nat.zero_add, Nat.reduceAdd] at hx28_2); have hf28_2 := hfr28 2; (try simp only [show (k39).sz = 8 from rfl, Nat.mul_one, Nat.add_zero] at hf28_2); (try rw [show ((0 : Int)).toNat = 0 from rfl] at hf28_2); (try simp only [Nat.reduceMul, Nat.zero_mul, Nat.zero_add, Nat.reduceAdd] at hf28_2); have hx28_3 := hcc28 3 _ rfl; (try simp only [show (k39).sz = 8 from rfl, Nat.mul_one, Nat.add_zero] at hx28_3); (try rw [show ((0 : Int)).toNat = 0 from rfl] at hx28_3); (try simp only [Nat.reduceMul, Nat.zero_mul, Nat.zero_add, Nat.reduceAdd] at hx28_3); have hf28_3 := hfr28 3; (try simp only [show (k39).sz = 8 from rfl, Nat.mul_one, Nat.add_zero] at hf28_3); (try rw [show ((0 : Int)).toNat = 0 from rfl] at hf28_3); (try simp only [Nat.reduceMul, Nat.zero_mul, Nat.zero_add, Nat.reduceAdd] at hf28_3); have hx28_4 := hcc28 4 _ rfl; (try simp only [show (k39).sz = 8 from rfl, Nat.mul_one, Nat.add_zero] at hx28_4); (try rw [show ((0 : Int)).toNat = 0 from rfl] at hx28_4); (try simp only [Nat.reduceMul, Nat.zero_mul, Nat.zero_add, Nat.reduceAdd] at hx28_4); have hf28_4 := hfr28 4; (try simp only [show (k39).sz = 8 from rfl, Nat.mul_one, Nat.add_zero] at hf28_4); (try rw [show ((0 : Int)).toNat = 0 from rfl] at hf28_4); (try simp only [Nat.reduceMul, Nat.zero_mul, Nat.zero_add, Nat.reduceAdd] at hf28_4); have hx28_5 := hcc28 5 _ rfl; (try simp only [show (k39).sz = 8 from rfl, Nat.mul_one, Nat.add_zero] at hx28_5); (try rw [show ((0 : Int)).toNat = 0 from rfl] at hx28_5); (try simp only [Nat.reduceMul, Nat.zero_mul, Nat.zero_add, Nat.reduceAdd] at hx28_5); have hf28_5 := hfr28 5; (try simp only [show (k39).sz = 8 from rfl, Nat.mul_one, Nat.add_zero] at hf28_5); (try rw [show ((0 : Int)).toNat = 0 from rfl] at hf28_5); (try simp only [Nat.reduceMul, Nat.zero_mul, Nat.zero_add, Nat.reduceAdd] at hf28_5); have hx28_6 := hcc28 6 _ rfl; (try simp only [show (k39).sz = 8 from rfl, Nat.mul_one, Nat.add_zero] at hx28_6); (try rw [show ((0 : Int)).toNat = 0 from rfl] at hx28_6); (try simp only [Nat.reduceMul, Nat.zero_mul, Nat.zero_add, Nat.reduceAdd] at hx28_6); have hf28_6 := hfr28 6; (try simp only [show (k39).sz = 8 from rfl, Nat.mul_one, Nat.add_zero] at hf28_6); (try rw [show ((0 : Int)).toNat = 0 from rfl] at hf28_6); (try simp only [Nat.reduceMul, Nat.zero_mul, Nat.zero_add, Nat.reduceAdd] at hf28_6); have hx28_7 := hcc28 7 _ rfl; (try simp only [show (k39).sz = 8 from rfl, Nat.mul_one, Nat.add_zero] at hx28_7); (try rw [show ((0 : Int)).toNat = 0 from rfl] at hx28_7); (try simp only [Nat.reduceMul, Nat.zero_mul, Nat.zero_add, Nat.reduceAdd] at hx28_7); have hf28_7 := hfr28 7; (try simp only [show (k39).sz = 8 from rfl, Nat.mul_one, Nat.add_zero] at hf28_7); (try rw [show ((0 : Int)).toNat = 0 from rfl] at hf28_7); (try simp only [Nat.reduceMul, Nat.zero_mul, Nat.zero_add, Nat.reduceAdd] at hf28_7); clear hcl28 hcc28 hfr28 hM28) | ((with_reducible refine gate_store (t := 39) (p := 43) rfl ?_); refine store_event (t := 39) (p := 43) (v := ?vo_w29) (w1 := ((((((((w27.setCell ⟨go21, 0, none⟩ (.string ((rd_T39 y521 t524).f0))).setCell ⟨go21, 1, none⟩ (.int .i64 ((rd_T39 y521 t524).f1))).setCell ⟨go21, 2, none⟩ (.string ((rd_T39 y521 t524).f2))).setCell ⟨go21, 3, none⟩ (.string ((rd_T39 y521 t524).f3))).setCell ⟨go21, 4, none⟩ (.int .i64 ((rd_T39 y521 t524).f4))).setCell ⟨go21, 5, none⟩ (.int .i64 ((rd_T39 y521 t524).f5))).setCell ⟨go21, 6, none⟩ (.string ((rd_T39 y521 t524).f6))).setCell ⟨go21, 7, none⟩ (.string ((rd_T39 y521 t524).f7)))) ?hg ?ho ?hn ?hr ?_; (case ho => rfl); (case hg => rfl); (case hn => rfl); (case hr => first | (go_simp; done) | (go_simp; rfl)); intro w29 hw; have hg : w27.grownBy w29 (some go21) := (by rw [hw]; exact HP28.2); have hp_ : Kd.R k39 39 w29 w.heap.size (fun _ => True) (.slice (some ⟨go21, 0, none⟩) y521.length co25) y533 := (by rw [hw, Ny533.out]; exact HP28.1); clear HP28; have t_ := And.intro (Aside0.mk (IsS107.grown (ib HI0.out) hg (IsS107.own_ne HI0.out HO523.out (by decide)))) <| And.intro (Aside0.mk (hp_)) <| And.intro (Aside0.mk ((by rw [hw]; exact below_set (below_set (below_set (below_set (below_set (below_set (below_set (below_set (HB.out) (Nat.le_trans HL.out GB21.out)) (Nat.le_trans HL.out GB21.out)) (Nat.le_trans HL.out GB21.out)) (Nat.le_trans HL.out GB21.out)) (Nat.le_trans HL.out GB21.out)) (Nat.le_trans HL.out GB21.out)) (Nat.le_trans HL.out GB21.out)) (Nat.le_trans HL.out GB21.out) : Below w0.heap.size w0 w29))) <| (Aside0.mk (KeepBut.trans (kb HK.out) (KeepBut.of_grown hg g) (Kd.R_base2 HO523.out))); clear HI0 HO523 HB HK; obtain ⟨HI0, HO523, HB, HK⟩ := t_; clear hg hw hp_))
       go_ret
       exact ⟨_, exq, by refine rx ?_; exact HO523.out, ib HI0.out, bi HB.out, kb HK.out⟩
      ·rw [if_neg c20] at H
       exact absurd H (by simp)
     ·rw [if_neg c19] at H
      exact absurd H (by simp)
    ·rw [if_neg c18] at H
     exact absurd H (by simp)
   ·rw [if_neg c17] at H
    have c17b0 : (t526 == 1) = false := beq_eq_false_iff_ne.mpr c17
    have c17b1 : (t526 != 1) = true := bne_iff_ne.mpr c17
    by_cases c30 : t526 = 2
    ·rw [if_pos c30] at H
     have c30b0 : (t526 == 2) = true := beq_iff_eq.mpr c30
     have c30b1 : (t526 != 2) = false := bne_eq_false_iff_eq.mpr c30
     clear c30
     replace H := Option.bind_eq_some_iff.mp H
     obtain ⟨⟨t534, t535⟩, A310, H⟩ := H
     try dsimp only at H
     have A31 := Aside0.mk A310
     clear A310
     have H' := Aside0.mk H
     clear H
     go_enter Try.func94, Try.ntmps94
     go_wp2_with (first | ((with_reducible refine gate_dst (N := 9) rfl ?_); refine Kd.R_lit k39 _ 39 ?hg (N := 9) ?hd (xs := ([] : List (S39))) (inner := []) (ok := fun _ => True) (okp := fun _ => True) ?hr ?hp (fun _ hk => hk) trivial (Below.refl _ _) (Nat.le_refl _) (by simp) ?_; (case hd => rfl); (case hg => rfl); (case hr => first | (go_simp; done) | (go_simp; rfl)); (case hp => exact (Reps.none _ _)); intro v519 w32 ho33 hb hg_ hnew_; clear hg_ hnew_; (first | rw [← Ny518.out] at ho33 | (simp only [Int.reduceToNat] at ho33; rw [← Ny518.out] at ho33)); have t_ := And.intro (Aside0.mk (Kd.R_lower ho33 (keep_size (w := w) (g := g) (row := none) (kb HK.out)))) <| And.intro (Aside0.mk (IsS107.below (ib HI0.out) hb)) <| And.intro (kt HK (KeepBut.of_below hb g none)) <| (bsi HB hb); clear HI0 HK HB; obtain ⟨HO520, HI0, HK, HB⟩ := t_; clear hb ho33) | ((with_reducible refine gate_builtin (b := .append) (xs := #[.tmp 9, .tmp 10]) rfl ?_); at_builtin; refine Kd.R_append_rows k39 w.heap.size rfl (.tmp 9) (.tmp 10) 26 39 (.agg #[(.string ⟨#[]⟩), (.int .i64 0), (.string ⟨#[]⟩), (.string ⟨#[]⟩), (.int .i64 0), (.int .i64 0), (.string ⟨#[]⟩), (.string ⟨#[]⟩)]) 104 rfl Try.underlying26 info39 rfl (by decide) (by omega) v519 y518 l1 _ _ _ (fun _ => True) (fun _ => False) rfl rfl ?aO ?aR (fun _ _ h => h) (fun _ h => h.elim) ?aF (Below.refl _ _) ?aS ?aL ?_; (case aR => exact Kd.C_foot_now HR1.out (kb HK.out)); (case aF => exact (fun _ _ => trivial)); (case aO => exact (rx HO520.out)); (case aS => exact (keep_size (w := w) (g := g) (row := none) (kb HK.out))); (case aL => have := LMc3.out; omega); intro v522 w34 ho hb hg hat; rw [← Ny521.out] at ho; have t_ := And.intro (Aside0.mk (IsS107.grown (ib HI0.out) hg (IsS107.own_ne HI0.out HO520.out (by decide)))) <| And.intro (Aside0.mk (below_weaken (bi HB.out) HL.out hb)) <| And.intro (Aside0.mk (KeepBut.trans (kb HK.out) (KeepBut.of_grown hg g) (Kd.R_base2 HO520.out))) <| (Aside0.mk (ho)); clear HI0 HB HK HO520; obtain ⟨HI0, HB, HK, HO523⟩ := t_; clear ho hb hg hat; obtain ⟨Ao35, co35, eo35⟩ := Kd.R_slice HO523.out; subst eo35) | ((with_reducible refine gate_callee (f := 64) rfl ?_); refine goesL_ (some 15) rfl rfl Try.func64 (by kernel_rfl) rfl #[.pointer (some ⟨g, 0, none⟩), .int .i64 (y521.length : Int)] rfl mxp ?_; (with_reducible refine (spec_l1Rd_pick.calls k g s0_0 s0_1 (y521.length : Int) t524 t525 w0 _ ?side1 ?side2 A4.out).mono ?_); (case side1 => exact ib HI0.out); (case side2 => exact bi HB.out); rintro e w36 ⟨rfl, hi, hb, hk⟩; refine ⟨_, rfl, ?_⟩; have t_ := And.intro (Aside0.mk (Kd.R_mono (Kd.R_keep (IsS107.apart (show IsS107 w0 _ g s0_0 s0_1 from ib HI0.out) (rx HO523.out) (by decide)) hk (fun _ h => h.2)) (fun _ h => h.1))) <| And.intro (kt HK hk) <| And.intro (Aside0.mk (hb)) <| (Aside0.mk (hi)); clear HO523 HK HB HI0; obtain ⟨HO523, HK, HB, HI0⟩ := t_; (try clear hb); (try clear hb2); (try clear hk); (try clear hi)) | ((with_reducible refine gate_callee (f := 64) rfl ?_); refine goesL_ (some 17) rfl rfl Try.func64 (by kernel_rfl) rfl #[.pointer (some ⟨g, 0, none⟩), .int .i64 6] rfl mxp ?_; (with_reducible refine (spec_l1Rd_pick.calls k g s0_0 t525 6 t526 t527 w0 _ ?side1 ?side2 A5.out).mono ?_); (case side1 => exact ib HI0.out); (case side2 => exact bi HB.out); rintro e w37 ⟨rfl, hi, hb, hk⟩; refine ⟨_, rfl, ?_⟩; have t_ := And.intro (Aside0.mk (Kd.R_mono (Kd.R_keep (IsS107.apart (show IsS107 w0 _ g s0_0 t525 from ib HI0.out) (rx HO523.out) (by decide)) hk (fun _ h => h.2)) (fun _ h => h.1))) <| And.intro (kt HK hk) <| And.intro (Aside0.mk (hb)) <| (Aside0.mk (hi)); clear HO523 HK HB HI0; obtain ⟨HO523, HK, HB, HI0⟩ := t_; (try clear hb); (try clear hb2); (try clear hk); (try clear hi)) | ((with_reducible refine gate_callee (f := 64) rfl ?_); refine goesL_ (some 47) rfl rfl Try.func64 (by kernel_rfl) rfl #[.pointer (some ⟨g, 0, none⟩), .int .i64 2] rfl mxp ?_; (with_reducible refine (spec_l1Rd_pick.calls k g s0_0 t527 2 t534 t535 w0 _ ?side1 ?side2 A31.out).mono ?_); (case side1 => exact ib HI0.out); (case side2 => exact bi HB.out); rintro e w38 ⟨rfl, hi, hb, hk⟩; refine ⟨_, rfl, ?_⟩; have t_ := And.intro (Aside0.mk (Kd.R_mono (Kd.R_keep (IsS107.apart (show IsS107 w0 _ g s0_0 t527 from ib HI0.out) (rx HO523.out) (by decide)) hk (fun _ h => h.2)) (fun _ h => h.1))) <| And.intro (kt HK hk) <| And.intro (Aside0.mk (hb)) <| (Aside0.mk (hi)); clear HO523 HK HB HI0; obtain ⟨HO523, HK, HB, HI0⟩ := t_; (try clear hb); (try clear hb2); (try clear hk); (try clear hi)))
     go_loopg [5, 8] k (fun kq v5 v8 w' => ∃ (x5_1 : List (S39)) (x8_1 : Int) (x1001_1 : Int), v8 = .int .i64 x8_1 ∧ Aside0 (spec_l5Spoil.l0 kq x5_1 (wrap64 (12 + t534)) x8_1 s0_0 x1001_1 = some (r1, r2)) ∧ Aside0 (kq ≤ k) ∧ Aside0 (Kd.R k39 39 w' w.heap.size (fun _ => True) v5 x5_1) ∧ Aside0 (IsS107 w0 w' g s0_0 x1001_1) ∧ Aside0 (KeepBut w w' g none) ∧ Aside0 (Below w0.heap.size w0 w'))
     case atStart => exact ⟨(y521), (0), (t535), (by first | rfl | (simp; done) | (simp [*]; done)), H', ⟨Nat.le_refl _⟩, ⟨by refine rx ?_; exact HO523.out⟩, ⟨ib HI0.out⟩, ⟨kb HK.out⟩, (hbi HB)⟩
     case round =>
      clear H'
      obtain ⟨x5_1, x8_1, x1001_1, rfl, HA, HK1, HO_5, HI0, HK, HB⟩ := hrel
      cases gk with
      | zero => exact absurd HA.out (by simp [spec_l5Spoil.l0])
      | succ k1 =>
       have H := HA.out
       clear HA
       simp only [spec_l5Spoil.l0] at H
       by_cases c39 : (x5_1.length : Int) < (wrap64 (12 + t534))
       ·rw [if_pos c39] at H
        have c39b0 : decide ((x5_1.length : Int) < (wrap64 (12 + t534))) = true := decide_eq_true c39
        clear c39
        replace H := Option.bind_eq_some_iff.mp H
        obtain ⟨t536, A400, H⟩ := H
        try dsimp only at H
        have A40 := Aside0.mk A400
        clear A400
        by_cases c41 : 1 + t536.size ≤ 9223372036854775807
        ·rw [if_pos c41] at H
         have c41b0 := eq_true c41
         have c41b1 : decide (1 + t536.size ≤ 9223372036854775807) = true := decide_eq_true c41
         try have c41b2 : (9223372036854775807 < 1 + t536.size) = False := eq_false (Nat.not_lt.2 c41)
         obtain ⟨y537, hy537⟩ : ∃ y_ : List ByteArray, y_ = (([] : List ByteArray)) := ⟨_, rfl⟩
         replace H : ((spec_l5Phase.f k1 s0_0 x1001_1 ((⟨#[122]⟩ : ByteArray) ++ t536) y537).bind fun bt540 => (if x5_1.length < 1353245080339 then (spec_l5Spoil.l0 k1 (x5_1 ++ [(⟨bt540.1, bt540.2.1, bt540.2.2.1, bt540.2.2.2.1, bt540.2.2.2.2.1, bt540.2.2.2.2.2.1, bt540.2.2.2.2.2.2.1, bt540.2.2.2.2.2.2.2.1⟩ : S39)]) (wrap64 (12 + t534)) (wrap64 (x8_1 + 1)) s0_0 bt540.2.2.2.2.2.2.2.2) else (none))) = some (r1, r2) := rpl H hy537
         have Ny537 := Aside0.mk hy537
         clear hy537
         replace H := Option.bind_eq_some_iff.mp H
         obtain ⟨⟨t540, t541, t542, t543, t544, t545, t546, t547, t548⟩, A420, H⟩ := H
         try dsimp only at H
         have A42 := Aside0.mk A420
         clear A420
         by_cases c43 : x5_1.length < 1353245080339
         ·rw [if_pos c43] at H
          have LMc43 := Aside0.mk c43
          clear c43
          obtain ⟨y549, hy549⟩ : ∃ y_ : List (S39), y_ = (x5_1 ++ [(⟨t540, t541, t542, t543, t544, t545, t546, t547⟩ : S39)]) := ⟨_, rfl⟩
          replace H : (spec_l5Spoil.l0 k1 y549 (wrap64 (12 + t534)) (wrap64 (x8_1 + 1)) s0_0 t548) = some (r1, r2) := rpl H hy549
          have Ny549 := Aside0.mk hy549
          clear hy549
          have H' := Aside0.mk H
          clear H
          obtain ⟨Ao44, co44, eo44⟩ := Kd.R_slice HO_5.out
          subst eo44
          go_wp2_with (first | ((with_reducible refine gate_callee (f := 102) rfl ?_); refine goesL_ (some 58) rfl rfl Try.func102 (by kernel_rfl) rfl #[.int .i64 x8_1] rfl mxp ?_; (with_reducible refine (spec_l3Dec.calls k1 x8_1 t536 _ A40.out).mono ?_); rintro e w45 ⟨rfl, hb⟩; refine ⟨_, rfl, ?_⟩; have t_ := And.intro (Aside0.mk (Kd.R_below (rx HO_5.out) hb)) <| And.intro (Aside0.mk (IsS107.below (ib HI0.out) hb)) <| And.intro (kt HK (KeepBut.of_below hb g none)) <| (bsi HB hb); clear HO_5 HI0 HK HB; obtain ⟨HO_5, HI0, HK, HB⟩ := t_; (try clear hb); (try clear hb2); (try clear hk); (try clear hi)) | ((with_reducible refine gate_dst (N := 60) rfl ?_); refine Kd.R_lit Kd.string _ 9 ?hg (N := 60) ?hd (xs := ([] : List ByteArray)) (inner := []) (ok := fun _ => True) (okp := fun _ => True) ?hr ?hp (fun _ hk => hk) trivial (Below.refl _ _) (Nat.le_refl _) (by simp) ?_; (case hd => rfl); (case hg => rfl); (case hr => first | (go_simp; done) | (go_simp; rfl)); (case hp => exact (Reps.none _ _)); intro v538 w46 ho47 hb hg_ hnew_; clear hg_ hnew_; (first | rw [← Ny537.out] at ho47 | (simp only [Int.reduceToNat] at ho47; rw [← Ny537.out] at ho47)); have t_ := And.intro (Aside0.mk (Kd.R_below (rx HO_5.out) hb)) <| And.intro (Aside0.mk (Kd.R_lower ho47 (keep_size (w := w) (g := g) (row := none) (kb HK.out)))) <| And.intro (Aside0.mk (IsS107.below (ib HI0.out) hb)) <| And.intro (kt HK (KeepBut.of_below hb g none)) <| (bsi HB hb); clear HO_5 HI0 HK HB; obtain ⟨HO_5, HO539, HI0, HK, HB⟩ := t_; clear hb ho47; obtain ⟨Ao48, co48, eo48⟩ := Kd.R_slice HO539.out; subst eo48) | ((with_reducible refine gate_callee (f := 79) rfl ?_); refine goesL_ (some 61) rfl rfl Try.func79 (by kernel_rfl) rfl #[.pointer (some ⟨g, 0, none⟩), .string ((⟨#[122]⟩ : ByteArray) ++ t536), .slice Ao48 y537.length co48] rfl mxp ?_; (with_reducible refine (spec_l5Phase.calls k1 g s0_0 x1001_1 ((⟨#[122]⟩ : ByteArray) ++ t536) _ _ y537 t540 t541 t542 t543 t544 t545 t546 t547 t548 w0 _ ?side1 ?side2 ?side3 ?side4 ?side5 A42.out).mono ?_); (case side1 => exact ib HI0.out); (case side2 => exact bi HB.out); (case side3 => exact cx (Kd.R_reads' HO539.out).2.2); (case side4 => exact (Kd.R_reads' HO539.out).2.1); (case side5 => exact far_slice (IsS107.own_ne HI0.out HO539.out (by decide))); rintro e w49 ⟨rfl, hi, hb, hk⟩; refine ⟨_, rfl, ?_⟩; have t_ := And.intro (Aside0.mk (Kd.R_mono (Kd.R_keep (IsS107.apart (show IsS107 w0 _ g s0_0 x1001_1 from ib HI0.out) (rx HO_5.out) (by decide)) hk (fun _ h => h.2)) (fun _ h => h.1))) <| And.intro (Aside0.mk (Kd.R_mono (Kd.R_keep (IsS107.apart (show IsS107 w0 _ g s0_0 x1001_1 from ib HI0.out) (rx HO539.out) (by decide)) hk (fun _ h => h.2)) (fun _ h => h.1))) <| And.intro (kt HK hk) <| And.intro (Aside0.mk (hb)) <| (Aside0.mk (hi)); clear HO_5 HO539 HK HB HI0; obtain ⟨HO_5, HO539, HK, HB, HI0⟩ := t_; (try clear hb); (try clear hb2); (try clear hk); (try clear hi)) | ((with_reducible refine gate_builtin (b := .append) (xs := #[.tmp 55, .tmp 62]) rfl ?_); at_builtin; refine Kd.R_append k39 w.heap.size rfl (.tmp 55) (.tmp 62) 26 39 (.agg #[(.string ⟨#[]⟩), (.int .i64 0), (.string ⟨#[]⟩), (.string ⟨#[]⟩), (.int .i64 0), (.int .i64 0), (.string ⟨#[]⟩), (.string ⟨#[]⟩)]) 104 rfl Try.underlying26 info39 rfl (by decide) (by omega) (.slice Ao44 x5_1.length co44) x5_1 (⟨t540, t541, t542, t543, t544, t545, t546, t547⟩ : S39) [.string t540, .int .i64 t541, .string t542, .string t543, .int .i64 t544, .int .i64 t545, .string t546, .string t547] (fun _ => True) (fun _ => False) rfl rfl ?aP (fun _ hk => hk.elim) ?aF ?aO (Below.refl _ _) ?aS ?aL ?_; (case aP => exact k39_mkM _ _ _ (⟨t540, t541, t542, t543, t544, t545, t546, t547⟩ : S39)); (case aF => exact (fun _ _ => trivial)); (case aO => exact (rx HO_5.out)); (case aS => exact (keep_size (w := w) (g := g) (row := none) (kb HK.out))); (case aL => have := LMc43.out; omega); intro v550 w50 ho hb hg hat; rw [← Ny549.out] at ho; have t_ := And.intro (Aside0.mk (IsS107.grown (ib HI0.out) hg (IsS107.own_ne HI0.out HO_5.out (by decide)))) <| And.intro (Aside0.mk (Kd.R_over' (rx HO539.out) (Kd.R_typed (rx HO_5.out)) (by decide) hg)) <| And.intro (Aside0.mk (below_weaken (bi HB.out) HL.out hb)) <| And.intro (Aside0.mk (KeepBut.trans (kb HK.out) (KeepBut.of_grown hg g) (Kd.R_base2 HO_5.out))) <| (Aside0.mk (ho)); clear HI0 HO539 HB HK HO_5; obtain ⟨HI0, HO539, HB, HK, HO551⟩ := t_; clear ho hb hg hat))
          go_roundg k1
          case measure => have := HK1.out; omega
          case rel => exact ⟨(y549), (wrap64 (x8_1 + 1)), (t548), (by first | rfl | (simp; done) | (simp [*]; done)), H', ⟨by have := HK1.out; omega⟩, ⟨by refine rx ?_; exact HO551.out⟩, ⟨ib HI0.out⟩, ⟨kb HK.out⟩, (hbi HB)⟩
         ·rw [if_neg c43] at H
          exact absurd H (by simp)
        ·rw [if_neg c41] at H
         exact absurd H (by simp)
       ·rw [if_neg c39] at H
        have c39b0 : decide ((x5_1.length : Int) < (wrap64 (12 + t534))) = false := decide_eq_false c39
        clear c39
        simp only [Option.some.injEq, Prod.mk.injEq] at H
        obtain ⟨rfl, rfl⟩ := H
        obtain ⟨Ao51, co51, eo51⟩ := Kd.R_slice HO_5.out
        subst eo51
        go_wp2
        go_ret
        exact ⟨_, exq, by refine rx ?_; exact HO_5.out, ib HI0.out, bi HB.out, kb HK.out⟩
    ·rw [if_neg c30] at H
     have c30b0 : (t526 == 2) = false := beq_eq_false_iff_ne.mpr c30
     have c30b1 : (t526 != 2) = true := bne_iff_ne.mpr c30
     by_cases c52 : 0 ≤ t524
     ·rw [if_pos c52] at H
      have c52b0 : decide (0 ≤ t524) = true := decide_eq_true c52
      clear c52
      by_cases c53 : t524 < (y521.length : Int)
      ·rw [if_pos c53] at H
       have c53b0 : decide (t524 < (y521.length : Int)) = true := decide_eq_true c53
       clear c53
       replace H := Option.bind_eq_some_iff.mp H
       obtain ⟨⟨t553, t554, t555, t556, t557, t558, t559, t560, t561⟩, A540, H⟩ := H
       try dsimp only at H
       have A54 := Aside0.mk A540
       clear A540
       obtain ⟨y562, hy562⟩ : ∃ y_ : List (S39), y_ = (y521.set (t524 : Int).toNat (⟨t553, t554, t555, t556, t557, t558, t559, t560⟩ : S39)) := ⟨_, rfl⟩
       replace H : (some (y562, t561)) = some (r1, r2) := rpl H hy562
       have Ny562 := Aside0.mk hy562
       clear hy562
       simp only [Option.some.injEq, Prod.mk.injEq] at H
       obtain ⟨rfl, rfl⟩ := H
       go_enter Try.func94, Try.ntmps94
       go_wp2_with (first | ((with_reducible refine gate_dst (N := 9) rfl ?_); refine Kd.R_lit k39 _ 39 ?hg (N := 9) ?hd (xs := ([] : List (S39))) (inner := []) (ok := fun _ => True) (okp := fun _ => True) ?hr ?hp (fun _ hk => hk) trivial (Below.refl _ _) (Nat.le_refl _) (by simp) ?_; (case hd => rfl); (case hg => rfl); (case hr => first | (go_simp; done) | (go_simp; rfl)); (case hp => exact (Reps.none _ _)); intro v519 w56 ho57 hb hg_ hnew_; clear hg_ hnew_; (first | rw [← Ny518.out] at ho57 | (simp only [Int.reduceToNat] at ho57; rw [← Ny518.out] at ho57)); have t_ := And.intro (Aside0.mk (Kd.R_lower ho57 (keep_size (w := w) (g := g) (row := none) (kb HK.out)))) <| And.intro (Aside0.mk (IsS107.below (ib HI0.out) hb)) <| And.intro (kt HK (KeepBut.of_below hb g none)) <| (bsi HB hb); clear HI0 HK HB; obtain ⟨HO520, HI0, HK, HB⟩ := t_; clear hb ho57) | ((with_reducible refine gate_builtin (b := .append) (xs := #[.tmp 9, .tmp 10]) rfl ?_); at_builtin; refine Kd.R_append_rows k39 w.heap.size rfl (.tmp 9) (.tmp 10) 26 39 (.agg #[(.string ⟨#[]⟩), (.int .i64 0), (.string ⟨#[]⟩), (.string ⟨#[]⟩), (.int .i64 0), (.int .i64 0), (.string ⟨#[]⟩), (.string ⟨#[]⟩)]) 104 rfl Try.underlying26 info39 rfl (by decide) (by omega) v519 y518 l1 _ _ _ (fun _ => True) (fun _ => False) rfl rfl ?aO ?aR (fun _ _ h => h) (fun _ h => h.elim) ?aF (Below.refl _ _) ?aS ?aL ?_; (case aR => exact Kd.C_foot_now HR1.out (kb HK.out)); (case aF => exact (fun _ _ => trivial)); (case aO => exact (rx HO520.out)); (case aS => exact (keep_size (w := w) (g := g) (row := none) (kb HK.out))); (case aL => have := LMc3.out; omega); intro v522 w58 ho hb hg hat; rw [← Ny521.out] at ho; have t_ := And.intro (Aside0.mk (IsS107.grown (ib HI0.out) hg (IsS107.own_ne HI0.out HO520.out (by decide)))) <| And.intro (Aside0.mk (below_weaken (bi HB.out) HL.out hb)) <| And.intro (Aside0.mk (KeepBut.trans (kb HK.out) (KeepBut.of_grown hg g) (Kd.R_base2 HO520.out))) <| (Aside0.mk (ho)); clear HI0 HB HK HO520; obtain ⟨HI0, HB, HK, HO523⟩ := t_; clear ho hb hg hat; obtain ⟨Ao59, co59, eo59⟩ := Kd.R_slice HO523.out; subst eo59) | ((with_reducible refine gate_callee (f := 64) rfl ?_); refine goesL_ (some 15) rfl rfl Try.func64 (by kernel_rfl) rfl #[.pointer (some ⟨g, 0, none⟩), .int .i64 (y521.length : Int)] rfl mxp ?_; (with_reducible refine (spec_l1Rd_pick.calls k g s0_0 s0_1 (y521.length : Int) t524 t525 w0 _ ?side1 ?side2 A4.out).mono ?_); (case side1 => exact ib HI0.out); (case side2 => exact bi HB.out); rintro e w60 ⟨rfl, hi, hb, hk⟩; refine ⟨_, rfl, ?_⟩; have t_ := And.intro (Aside0.mk (Kd.R_mono (Kd.R_keep (IsS107.apart (show IsS107 w0 _ g s0_0 s0_1 from ib HI0.out) (rx HO523.out) (by decide)) hk (fun _ h => h.2)) (fun _ h => h.1))) <| And.intro (kt HK hk) <| And.intro (Aside0.mk (hb)) <| (Aside0.mk (hi)); clear HO523 HK HB HI0; obtain ⟨HO523, HK, HB, HI0⟩ := t_; (try clear hb); (try clear hb2); (try clear hk); (try clear hi)) | ((with_reducible refine gate_callee (f := 64) rfl ?_); refine goesL_ (some 17) rfl rfl Try.func64 (by kernel_rfl) rfl #[.pointer (some ⟨g, 0, none⟩), .int .i64 6] rfl mxp ?_; (with_reducible refine (spec_l1Rd_pick.calls k g s0_0 t525 6 t526 t527 w0 _ ?side1 ?side2 A5.out).mono ?_); (case side1 => exact ib HI0.out); (case side2 => exact bi HB.out); rintro e w61 ⟨rfl, hi, hb, hk⟩; refine ⟨_, rfl, ?_⟩; have t_ := And.intro (Aside0.mk (Kd.R_mono (Kd.R_keep (IsS107.apart (show IsS107 w0 _ g s0_0 t525 from ib HI0.out) (rx HO523.out) (by decide)) hk (fun _ h => h.2)) (fun _ h => h.1))) <| And.intro (kt HK hk) <| And.intro (Aside0.mk (hb)) <| (Aside0.mk (hi)); clear HO523 HK HB HI0; obtain ⟨HO523, HK, HB, HI0⟩ := t_; (try clear hb); (try clear hb2); (try clear hk); (try clear hi); have p552 : 0 ≤ (t524 : Int) := oda; have q552 : t524 < (y521.length : Int) := oda; obtain ⟨ad552, e552, hx552_0, hx552_1, hx552_2, hx552_3, hx552_4, hx552_5, hx552_6, hx552_7⟩ := at_T39 (Kd.R_reads' HO523.out).2.2 t524 p552 q552; cases e552; replace p552 := eq_true p552; replace q552 := eq_true q552) | ((with_reducible refine gate_callee (f := 82) rfl ?_); refine goesL_ (some 25) rfl rfl Try.func82 (by kernel_rfl) rfl #[.pointer (some ⟨g, 0, none⟩), .agg #[.string ((rd_T39 y521 t524).f0), .int .i64 ((rd_T39 y521 t524).f1), .string ((rd_T39 y521 t524).f2), .string ((rd_T39 y521 t524).f3), .int .i64 ((rd_T39 y521 t524).f4), .int .i64 ((rd_T39 y521 t524).f5), .string ((rd_T39 y521 t524).f6), .string ((rd_T39 y521 t524).f7)]] rfl mxp ?_; (with_reducible refine (spec_l5SpoilPhase.calls k g s0_0 t527 ((rd_T39 y521 t524).f0) ((rd_T39 y521 t524).f1) ((rd_T39 y521 t524).f2) ((rd_T39 y521 t524).f3) ((rd_T39 y521 t524).f4) ((rd_T39 y521 t524).f5) ((rd_T39 y521 t524).f6) ((rd_T39 y521 t524).f7) t553 t554 t555 t556 t557 t558 t559 t560 t561 w0 _ ?side1 ?side2 A54.out).mono ?_); (case side1 => exact ib HI0.out); (case side2 => exact bi HB.out); rintro e w62 ⟨rfl, hi, hb, hk⟩; refine ⟨_, rfl, ?_⟩; have t_ := And.intro (Aside0.mk (Kd.R_mono (Kd.R_keep (IsS107.apart (show IsS107 w0 _ g s0_0 t527 from ib HI0.out) (rx HO523.out) (by decide)) hk (fun _ h => h.2)) (fun _ h => h.1))) <| And.intro (kt HK hk) <| And.intro (Aside0.mk (hb)) <| (Aside0.mk (hi)); clear HO523 HK HB HI0; obtain ⟨HO523, HK, HB, HI0⟩ := t_; (try clear hb); (try clear hb2); (try clear hk); (try clear hi); have p55 : 0 ≤ (t524 : Int) := oda; have q55 : (t524 : Int) < ((y521.length : Int) : Int) := oda; obtain ⟨go55, co55, eo55, gb55, gl55, cl55, HG55⟩ := Kd.R_form HO523.out (by omega); (first | cases eo55 | (injection eo55 with ea_ en_ ec_; (first | subst ea_ | (injection ea_ with ea_; subst ea_)); subst ec_; clear en_)); have GB55 := Aside0.mk gb55; have GG55 := Aside0.mk HG55; clear gb55 gl55 HG55; (first | simp only [add_plain] at hx552_0 | skip); (first | simp only [add_plain] at hx552_1 | skip); (first | simp only [add_plain] at hx552_2 | skip); (first | simp only [add_plain] at hx552_3 | skip); (first | simp only [add_plain] at hx552_4 | skip); (first | simp only [add_plain] at hx552_5 | skip); (first | simp only [add_plain] at hx552_6 | skip); (first | simp only [add_plain] at hx552_7 | skip); obtain ⟨ce55, hcl55, hM55, hcc55, hfr55⟩ := Kd.R_elem HO523.out z39 (t524 : Int) p55 q55; obtain rfl := k39_openM hM55; have hx55_0 : w62.cell? ⟨go55, (t524 : Int).toNat * 8, none⟩ = some (.string ((rd_T39 y521 t524).f0)) := hcc55 0 _ rfl; have hx55_1 : w62.cell? ⟨go55, (t524 : Int).toNat * 8 + 1, none⟩ = some (.int .i64 ((rd_T39 y521 t524).f1)) := hcc55 1 _ rfl; have hx55_2 : w62.cell? ⟨go55, (t524 : Int).toNat * 8 + 2, none⟩ = some (.string ((rd_T39 y521 t524).f2)) := hcc55 2 _ rfl; have hx55_3 : w62.cell? ⟨go55, (t524 : Int).toNat * 8 + 3, none⟩ = some (.string ((rd_T39 y521 t524).f3)) := hcc55 3 _ rfl; have hx55_4 : w62.cell? ⟨go55, (t524 : Int).toNat * 8 + 4, none⟩ = some (.int .i64 ((rd_T39 y521 t524).f4)) := hcc55 4 _ rfl; have hx55_5 : w62.cell? ⟨go55, (t524 : Int).toNat * 8 + 5, none⟩ = some (.int .i64 ((rd_T39 y521 t524).f5)) := hcc55 5 _ rfl; have hx55_6 : w62.cell? ⟨go55, (t524 : Int).toNat * 8 + 6, none⟩ = some (.string ((rd_T39 y521 t524).f6)) := hcc55 6 _ rfl; have hx55_7 : w62.cell? ⟨go55, (t524 : Int).toNat * 8 + 7, none⟩ = some (.string ((rd_T39 y521 t524).f7)) := hcc55 7 _ rfl; have hf55_0 : w62.frozen? ⟨go55, (t524 : Int).toNat * 8, none⟩ = false := hfr55 0; have hf55_1 : w62.frozen? ⟨go55, (t524 : Int).toNat * 8 + 1, none⟩ = false := hfr55 1; have hf55_2 : w62.frozen? ⟨go55, (t524 : Int).toNat * 8 + 2, none⟩ = false := hfr55 2; have hf55_3 : w62.frozen? ⟨go55, (t524 : Int).toNat * 8 + 3, none⟩ = false := hfr55 3; have hf55_4 : w62.frozen? ⟨go55, (t524 : Int).toNat * 8 + 4, none⟩ = false := hfr55 4; have hf55_5 : w62.frozen? ⟨go55, (t524 : Int).toNat * 8 + 5, none⟩ = false := hfr55 5; have hf55_6 : w62.frozen? ⟨go55, (t524 : Int).toNat * 8 + 6, none⟩ = false := hfr55 6; have hf55_7 : w62.frozen? ⟨go55, (t524 : Int).toNat * 8 + 7, none⟩ = false := hfr55 7; clear hcl55 hcc55 hfr55 hM55; replace p55 := eq_true p55; replace q55 := eq_true q55; have HX63 := Aside0.mk (show Kd.R k39 39 w62 w.heap.size (fun _ => True) (.slice (some ⟨go55, 0, none⟩) y521.length co59) y521 from (rx HO523.out)); obtain ⟨ce63, hcl63, hM63, hcc63, hfr63⟩ := Kd.R_elem HX63.out z39 (t524 : Int) (oda) (by have h_ : (t524 : Int) < ((y521.length : Int) : Int) := oda; first | exact h_ | (have e_ := (Kd.R_reads' HO523.out).1; omega) | simpa using h_); obtain rfl := k39_openM hM63; have HP63 := Kd.R_seg HX63.out (t524 : Int) (oda) (by have h_ : (t524 : Int) < ((y521.length : Int) : Int) := oda; first | exact h_ | (have e_ := (Kd.R_reads' HO523.out).1; omega) | simpa using h_) (seg := [.string t553, .int .i64 t554, .string t555, .string t556, .int .i64 t557, .int .i64 t558, .string t559, .string t560]) (j := 0) hcl63 hcc63 (show 8 ≤ 8 from by decide) (x' := (⟨t553, t554, t555, t556, t557, t558, t559, t560⟩ : S39)) (k39_mkM _ _ _ (⟨t553, t554, t555, t556, t557, t558, t559, t560⟩ : S39) ) (fun _ hk => hk); have hx63_0 := hcc63 0 _ rfl; (try simp only [show (k39).sz = 8 from rfl, Nat.mul_one, Nat.add_zero] at hx63_0); have hf63_0 := hfr63 0; (try simp only [show (k39).sz = 8 from rfl, Nat.mul_one, Nat.add_zero] at hf63_0); have hx63_1 := hcc63 1 _ rfl; (try simp only [show (k39).sz = 8 from rfl, Nat.mul_one, Nat.add_zero] at hx63_1); have hf63_1 := hfr63 1; (try simp only [show (k39).sz = 8 from rfl, Nat.mul_one, Nat.add_zero] at hf63_1); have hx63_2 := hcc63 2 _ rfl; (try simp only [show (k39).sz = 8 from rfl, Nat.mul_one, Nat.add_zero] at hx63_2); have hf63_2 := hfr63 2; (try simp only [show (k39).sz = 8 from rfl, Nat.mul_one, Nat.add_zero] at hf63_2); have hx63_3 := hcc63 3 _ rfl; (try simp only [show (k39).sz = 8 from rfl, Nat.mul_one, Nat.add_zero] at hx63_3); have hf63_3 := hfr63 3; (try simp only [show (k39).sz = 8 from rfl, Nat.mul_one, Nat.add_zero] at hf63_3); have hx63_4 := hcc63 4 _ rfl; (try simp only [show (k39).sz = 8 from rfl, Nat.mul_one, Nat.add_zero] at hx63_4); have hf63_4 := hfr63 4; (try simp only [show (k39).sz = 8 from rfl, Nat.mul_one, Nat.add_zero] at hf63_4); have hx63_5 := hcc63 5 _ rfl; (try simp only [show (k39).sz = 8 from rfl, Nat.mul_one, Nat.add_zero] at hx63_5); have hf63_5 := hfr63 5; (try simp only [show (k39).sz = 8 from rfl, Nat.mul_one, Nat.add_zero] at hf63_5); have hx63_6 := hcc63 6 _ rfl; (try simp only [show (k39).sz = 8 from rfl, Nat.mul_one, Nat.add_zero] at hx63_6); have hf63_6 := hfr63 6; (try simp only [show (k39).sz = 8 from rfl, Nat.mul_one, Nat.add_zero] at hf63_6); have hx63_7 := hcc63 7 _ rfl; (try simp only [show (k39).sz = 8 from rfl, Nat.mul_one, Nat.add_zero] at hx63_7); have hf63_7 := hfr63 7; (try simp only [show (k39).sz = 8 from rfl, Nat.mul_one, Nat.add_zero] at hf63_7); clear hcl63 hcc63 hfr63 hM63) | ((with_reducible refine gate_store (t := 39) (p := 26) rfl ?_); refine store_event (t := 39) (p := 26) (v := ?vo_w64) (w1 := ((((((((w62.setCell ⟨go55, (t524 : Int).toNat * 8, none⟩ (.string t553)).setCell ⟨go55, (t524 : Int).toNat * 8 + 1, none⟩ (.int .i64 t554)).setCell ⟨go55, (t524 : Int).toNat * 8 + 2, none⟩ (.string t555)).setCell ⟨go55, (t524 : Int).toNat * 8 + 3, none⟩ (.string t556)).setCell ⟨go55, (t524 : Int).toNat * 8 + 4, none⟩ (.int .i64 t557)).setCell ⟨go55, (t524 : Int).toNat * 8 + 5, none⟩ (.int .i64 t558)).setCell ⟨go55, (t524 : Int).toNat * 8 + 6, none⟩ (.string t559)).setCell ⟨go55, (t524 : Int).toNat * 8 + 7, none⟩ (.string t560))) ?hg ?ho ?hn ?hr ?_; (case ho => rfl); (case hg => rfl); (case hn => rfl); (case hr => first | (go_simp; done) | (go_simp; rfl)); intro w64 hw; have hg : w62.grownBy w64 (some go55) := (by rw [hw]; exact HP63.2); have hp_ : Kd.R k39 39 w64 w.heap.size (fun _ => True) (.slice (some ⟨go55, 0, none⟩) y521.length co59) y562 := (by rw [hw, Ny562.out]; exact HP63.1); clear HP63; have t_ := And.intro (Aside0.mk (IsS107.grown (ib HI0.out) hg (IsS107.own_ne HI0.out HO523.out (by decide)))) <| And.intro (Aside0.mk (hp_)) <| And.intro (Aside0.mk ((by rw [hw]; exact below_set (below_set (below_set (below_set (below_set (below_set (below_set (below_set (HB.out) (Nat.le_trans HL.out GB55.out)) (Nat.le_trans HL.out GB55.out)) (Nat.le_trans HL.out GB55.out)) (Nat.le_trans HL.out GB55.out)) (Nat.le_trans HL.out GB55.out)) (Nat.le_trans HL.out GB55.out)) (Nat.le_trans HL.out GB55.out)) (Nat.le_trans HL.out GB55.out) : Below w0.heap.size w0 w64))) <| (Aside0.mk (KeepBut.trans (kb HK.out) (KeepBut.of_grown hg g) (Kd.R_base2 HO523.out))); clear HI0 HO523 HB HK; obtain ⟨HI0, HO523, HB, HK⟩ := t_; clear hg hw hp_))
       go_ret
       exact ⟨_, exq, by refine rx ?_; exact HO523.out, ib HI0.out, bi HB.out, kb HK.out⟩
      ·rw [if_neg c53] at H
       exact absurd H (by simp)
     ·rw [if_neg c52] at H
      exact absurd H (by simp)
 ·rw [if_neg c3] at H
  exact absurd H (by simp)


/-! ### spec_l5Any: function 63 -/
def spec_l5Any.f (k : Nat) (s0_0 : List Int) (s0_1 : Int) : Option ((List (S39)) × Int) := (spec_l5Recipe.f k s0_0 s0_1).bind fun bt563 => ((spec_l1Rd_pick.f k s0_0 bt563.2 24).bind fun bt567 => (if bt567.1 = 0 then ((spec_l5Spoil.f k s0_0 bt567.2 bt563.1).bind fun bt569 => (some (bt569.1, bt569.2))) else (if bt567.1 = 1 then (some ((([] : List (S39))), bt567.2)) else (some (bt563.1, bt567.2)))))
theorem spec_l5Any.mono : ∀ a0 a1 k, LeO (spec_l5Any.f k a0 a1) (spec_l5Any.f (k + 1) a0 a1) := by
 intro a0 a1 k
 unfold spec_l5Any.f
 repeat' first
   | (with_reducible exact spec_l1Rd_pick.mono _ _ _ _)
   | (with_reducible exact spec_l5Recipe.mono _ _ _)
   | (with_reducible exact spec_l5Spoil.mono _ _ _ _)
   | (with_reducible exact LeO.refl _)
   | (with_reducible exact LeO.none _)
   | (with_reducible refine LeO.ite ?_ ?_)
   | (with_reducible refine LeO.bind ?_ (fun _ => ?_))
   | exact spec_l1Rd_pick.mono _ _ _ _
   | exact spec_l5Recipe.mono _ _ _
   | exact spec_l5Spoil.mono _ _ _ _
   | exact LeO.none _
   | refine LeO.ite ?_ ?_
   | refine LeO.bind ?_ (fun _ => ?_)
set_option maxHeartbeats 8000000 in
set_option maxRecDepth 100000 in
theorem spec_l5Any.calls (k : Nat) (g : Nat) (s0_0 : List Int) (s0_1 : Int) (r1 : List (S39)) (r2 : Int) (w0 w : World) (hI : IsS107 w0 w g s0_0 s0_1) (hB : Below w0.heap.size w0 w) (h : spec_l5Any.f k s0_0 s0_1 = some (r1, r2)) :
  Calls Try.prog 63 #[.pointer (some ⟨g, 0, none⟩)] w fun e w' => ∃ v0_ : Value, e = .returned (v0_) ∧ Kd.R k39 39 w' w.heap.size (fun _ => True) v0_ r1 ∧ IsS107 w0 w' g s0_0 r2 ∧ Below w0.heap.size w0 w' ∧ KeepBut w w' g none := by
 have HI0 := Aside0.mk hI
 have HK := Aside0.mk (KeepBut.refl w g none)
 have HL := Aside0.mk hB.size
 clear hI
 have HW0 := Aside0.mk hB.size
 have HB := Aside0.mk hB
 clear hB
 have H : ((spec_l5Recipe.f k s0_0 s0_1).bind fun bt563 => ((spec_l1Rd_pick.f k s0_0 bt563.2 24).bind fun bt567 => (if bt567.1 = 0 then ((spec_l5Spoil.f k s0_0 bt567.2 bt563.1).bind fun bt569 => (some (bt569.1, bt569.2))) else (if bt567.1 = 1 then (some ((([] : List (S39))), bt567.2)) else (some (bt563.1, bt567.2)))))) = some (r1, r2) := h
 clear h
 replace H := Option.bind_eq_some_iff.mp H
 obtain ⟨⟨t563, t566⟩, A20, H⟩ := H
 try dsimp only at H
 have A2 := Aside0.mk A20
 clear A20
 replace H := Option.bind_eq_some_iff.mp H
 obtain ⟨⟨t567, t568⟩, A30, H⟩ := H
 try dsimp only at H
 have A3 := Aside0.mk A30
 clear A30
 by_cases c4 : t567 = 0
 ·rw [if_pos c4] at H
  have c4b0 : (t567 == 0) = true := beq_iff_eq.mpr c4
  have c4b1 : (t567 != 0) = false := bne_eq_false_iff_eq.mpr c4
  clear c4
  replace H := Option.bind_eq_some_iff.mp H
  obtain ⟨⟨t569, t572⟩, A50, H⟩ := H
  try dsimp only at H
  have A5 := Aside0.mk A50
  clear A50
  simp only [Option.some.injEq, Prod.mk.injEq] at H
  obtain ⟨rfl, rfl⟩ := H
  go_enter Try.func63, Try.ntmps63
  go_wp2_with (first | ((with_reducible refine gate_callee (f := 93) rfl ?_); refine goesL_ (some 5) rfl rfl Try.func93 (by kernel_rfl) rfl #[.pointer (some ⟨g, 0, none⟩)] rfl mxp ?_; (with_reducible refine (spec_l5Recipe.calls k g s0_0 s0_1 t563 t566 w0 _ ?side1 ?side2 A2.out).mono ?_); (case side1 => exact ib HI0.out); (case side2 => exact bi HB.out); rintro e w6 ⟨v564, rfl, ho0, hi, hb, hk⟩; refine ⟨_, rfl, ?_⟩; have t_ := And.intro (Aside0.mk (Kd.R_lower ho0 (keep_size (w := w) (g := g) (row := none) (kb HK.out)))) <| And.intro (kt HK hk) <| And.intro (Aside0.mk (hb)) <| (Aside0.mk (hi)); clear HK HB HI0; obtain ⟨HO565, HK, HB, HI0⟩ := t_; (try clear hb); (try clear hb2); (try clear hk); (try clear hi); (try clear ho0)) | ((with_reducible refine gate_callee (f := 64) rfl ?_); refine goesL_ (some 7) rfl rfl Try.func64 (by kernel_rfl) rfl #[.pointer (some ⟨g, 0, none⟩), .int .i64 24] rfl mxp ?_; (with_reducible refine (spec_l1Rd_pick.calls k g s0_0 t566 24 t567 t568 w0 _ ?side1 ?side2 A3.out).mono ?_); (case side1 => exact ib HI0.out); (case side2 => exact bi HB.out); rintro e w7 ⟨rfl, hi, hb, hk⟩; refine ⟨_, rfl, ?_⟩; have t_ := And.intro (Aside0.mk (Kd.R_mono (Kd.R_keep (IsS107.apart (show IsS107 w0 _ g s0_0 t566 from ib HI0.out) (rx HO565.out) (by decide)) hk (fun _ h => h.2)) (fun _ h => h.1))) <| And.intro (kt HK hk) <| And.intro (Aside0.mk (hb)) <| (Aside0.mk (hi)); clear HO565 HK HB HI0; obtain ⟨HO565, HK, HB, HI0⟩ := t_; (try clear hb); (try clear hb2); (try clear hk); (try clear hi); obtain ⟨Ao8, co8, eo8⟩ := Kd.R_slice HO565.out; subst eo8) | ((with_reducible refine gate_callee (f := 94) rfl ?_); refine goesL_ (some 12) rfl rfl Try.func94 (by kernel_rfl) rfl #[.pointer (some ⟨g, 0, none⟩), .slice Ao8 t563.length co8] rfl mxp ?_; (with_reducible refine (spec_l5Spoil.calls k g s0_0 t568 _ _ t563 t569 t572 w0 _ ?side1 ?side2 ?side3 ?side4 A5.out).mono ?_); (case side1 => exact ib HI0.out); (case side2 => exact bi HB.out); (case side3 => exact Kd.C_foot_own (IsS107.apart (show IsS107 w0 _ g s0_0 t568 from ib HI0.out) (rx HO565.out) (by decide)) (fun _ h_ => h_.2)); (case side4 => exact (Kd.R_reads' HO565.out).2.1); rintro e w9 ⟨v570, rfl, ho0, hi, hb, hk⟩; refine ⟨_, rfl, ?_⟩; have t_ := And.intro (Aside0.mk (Kd.R_mono (Kd.R_told (Kd.R_oldK (IsS107.apart (show IsS107 w0 _ g s0_0 t568 from ib HI0.out) (rx HO565.out) (by decide)) hk) (Kd.R_base ho0)) (fun _ h_ => h_.1))) <| And.intro (Aside0.mk (Kd.R_lower (Kd.R_new' ho0 (Kd.R_lt (rx HO565.out))) (keep_size (w := w) (g := g) (row := none) (kb HK.out)))) <| And.intro (kt HK hk) <| And.intro (Aside0.mk (hb)) <| (Aside0.mk (hi)); clear HO565 HK HB HI0; obtain ⟨HO565, HO571, HK, HB, HI0⟩ := t_; (try clear hb); (try clear hb2); (try clear hk); (try clear hi); (try clear ho0)))
  go_ret
  exact ⟨_, exq, by refine rx ?_; exact Kd.R_mono HO571.out (fun _ hk => trivial), ib HI0.out, bi HB.out, kb HK.out⟩
 ·rw [if_neg c4] at H
  have c4b0 : (t567 == 0) = false := beq_eq_false_iff_ne.mpr c4
  have c4b1 : (t567 != 0) = true := bne_iff_ne.mpr c4
  by_cases c10 : t567 = 1
  ·rw [if_pos c10] at H
   have c10b0 : (t567 == 1) = true := beq_iff_eq.mpr c10
   have c10b1 : (t567 != 1) = false := bne_eq_false_iff_eq.mpr c10
   clear c10
   obtain ⟨y573, hy573⟩ : ∃ y_ : List (S39), y_ = (([] : List (S39))) := ⟨_, rfl⟩
   replace H : (some (y573, t568)) = some (r1, r2) := rpl H hy573
   have Ny573 := Aside0.mk hy573
   clear hy573
   simp only [Option.some.injEq, Prod.mk.injEq] at H
   obtain ⟨rfl, rfl⟩ := H
   go_enter Try.func63, Try.ntmps63
   go_wp2_with (first | ((with_reducible refine gate_callee (f := 93) rfl ?_); refine goesL_ (some 5) rfl rfl Try.func93 (by kernel_rfl) rfl #[.pointer (some ⟨g, 0, none⟩)] rfl mxp ?_; (with_reducible refine (spec_l5Recipe.calls k g s0_0 s0_1 t563 t566 w0 _ ?side1 ?side2 A2.out).mono ?_); (case side1 => exact ib HI0.out); (case side2 => exact bi HB.out); rintro e w11 ⟨v564, rfl, ho0, hi, hb, hk⟩; refine ⟨_, rfl, ?_⟩; have t_ := And.intro (Aside0.mk (Kd.R_lower ho0 (keep_size (w := w) (g := g) (row := none) (kb HK.out)))) <| And.intro (kt HK hk) <| And.intro (Aside0.mk (hb)) <| (Aside0.mk (hi)); clear HK HB HI0; obtain ⟨HO565, HK, HB, HI0⟩ := t_; (try clear hb); (try clear hb2); (try clear hk); (try clear hi); (try clear ho0)) | ((with_reducible refine gate_callee (f := 64) rfl ?_); refine goesL_ (some 7) rfl rfl Try.func64 (by kernel_rfl) rfl #[.pointer (some ⟨g, 0, none⟩), .int .i64 24] rfl mxp ?_; (with_reducible refine (spec_l1Rd_pick.calls k g s0_0 t566 24 t567 t568 w0 _ ?side1 ?side2 A3.out).mono ?_); (case side1 => exact ib HI0.out); (case side2 => exact bi HB.out); rintro e w12 ⟨rfl, hi, hb, hk⟩; refine ⟨_, rfl, ?_⟩; have t_ := And.intro (Aside0.mk (Kd.R_mono (Kd.R_keep (IsS107.apart (show IsS107 w0 _ g s0_0 t566 from ib HI0.out) (rx HO565.out) (by decide)) hk (fun _ h => h.2)) (fun _ h => h.1))) <| And.intro (kt HK hk) <| And.intro (Aside0.mk (hb)) <| (Aside0.mk (hi)); clear HO565 HK HB HI0; obtain ⟨HO565, HK, HB, HI0⟩ := t_; (try clear hb); (try clear hb2); (try clear hk); (try clear hi)) | ((with_reducible refine gate_dst (N := 15) rfl ?_); refine Kd.R_lit k39 _ 39 ?hg (N := 15) ?hd (xs := ([] : List (S39))) (inner := []) (ok := fun _ => True) (okp := fun _ => True) ?hr ?hp (fun _ hk => hk) trivial (Below.refl _ _) (Nat.le_refl _) (by simp) ?_; (case hd => rfl); (case hg => rfl); (case hr => first | (go_simp; done) | (go_simp; rfl)); (case hp => exact (Reps.none _ _)); intro v574 w13 ho14 hb hg_ hnew_; clear hg_ hnew_; (first | rw [← Ny573.out] at ho14 | (simp only [Int.reduceToNat] at ho14; rw [← Ny573.out] at ho14)); have t_ := And.intro (Aside0.mk (Kd.R_elder' (rx HO565.out) (Kd.R_base ho14) hb)) <| And.intro (Aside0.mk (Kd.R_lower (Kd.R_new' ho14 (Kd.R_lt (rx HO565.out))) (keep_size (w := w) (g := g) (row := none) (kb HK.out)))) <| And.intro (Aside0.mk (IsS107.below (ib HI0.out) hb)) <| And.intro (kt HK (KeepBut.of_below hb g none)) <| (bsi HB hb); clear HO565 HI0 HK HB; obtain ⟨HO565, HO575, HI0, HK, HB⟩ := t_; clear hb ho14))
   go_ret
   exact ⟨_, exq, by refine rx ?_; exact Kd.R_mono HO575.out (fun _ hk => trivial), ib HI0.out, bi HB.out, kb HK.out⟩
  ·rw [if_neg c10] at H
   have c10b0 : (t567 == 1) = false := beq_eq_false_iff_ne.mpr c10
   have c10b1 : (t567 != 1) = true := bne_iff_ne.mpr c10
   simp only [Option.some.injEq, Prod.mk.injEq] at H
   obtain ⟨rfl, rfl⟩ := H
   go_enter Try.func63, Try.ntmps63
   go_wp2_with (first | ((with_reducible refine gate_callee (f := 93) rfl ?_); refine goesL_ (some 5) rfl rfl Try.func93 (by kernel_rfl) rfl #[.pointer (some ⟨g, 0, none⟩)] rfl mxp ?_; (with_reducible refine (spec_l5Recipe.calls k g s0_0 s0_1 t563 t566 w0 _ ?side1 ?side2 A2.out).mono ?_); (case side1 => exact ib HI0.out); (case side2 => exact bi HB.out); rintro e w15 ⟨v564, rfl, ho0, hi, hb, hk⟩; refine ⟨_, rfl, ?_⟩; have t_ := And.intro (Aside0.mk (Kd.R_lower ho0 (keep_size (w := w) (g := g) (row := none) (kb HK.out)))) <| And.intro (kt HK hk) <| And.intro (Aside0.mk (hb)) <| (Aside0.mk (hi)); clear HK HB HI0; obtain ⟨HO565, HK, HB, HI0⟩ := t_; (try clear hb); (try clear hb2); (try clear hk); (try clear hi); (try clear ho0)) | ((with_reducible refine gate_callee (f := 64) rfl ?_); refine goesL_ (some 7) rfl rfl Try.func64 (by kernel_rfl) rfl #[.pointer (some ⟨g, 0, none⟩), .int .i64 24] rfl mxp ?_; (with_reducible refine (spec_l1Rd_pick.calls k g s0_0 t566 24 t567 t568 w0 _ ?side1 ?side2 A3.out).mono ?_); (case side1 => exact ib HI0.out); (case side2 => exact bi HB.out); rintro e w16 ⟨rfl, hi, hb, hk⟩; refine ⟨_, rfl, ?_⟩; have t_ := And.intro (Aside0.mk (Kd.R_mono (Kd.R_keep (IsS107.apart (show IsS107 w0 _ g s0_0 t566 from ib HI0.out) (rx HO565.out) (by decide)) hk (fun _ h => h.2)) (fun _ h => h.1))) <| And.intro (kt HK hk) <| And.intro (Aside0.mk (hb)) <| (Aside0.mk (hi)); clear HO565 HK HB HI0; obtain ⟨HO565, HK, HB, HI0⟩ := t_; (try clear hb); (try clear hb2); (try clear hk); (try clear hi)))
   go_ret
   exact ⟨_, exq, by refine rx ?_; exact HO565.out, ib HI0.out, bi HB.out, kb HK.out⟩


/-! ### spec_l5Say: function 65 -/
def spec_l5Say.f (k : Nat) (s0_0 : List Int) (s0_1 : Int) : Option (Int × Bool × Int) := (spec_l1Rd_pick.f k s0_0 s0_1 24).bind fun bt703 => ((spec_l1Rd_pick.f k s0_0 bt703.2 3).bind fun bt705 => ((spec_l1Rd_pick.f k s0_0 bt705.2 24).bind fun bt708 => (if bt708.1 = 0 then ((some (([(-1), (-9223372036854775808), 9223372036854775807, 0] : List Int) : List Int)).bind fun y710 => ((spec_l1Rd_pick.f k s0_0 bt708.2 4).bind fun bt713 => (if 0 ≤ bt713.1 then (if bt713.1 < (y710.length : Int) then (some (rd y710 bt713.1, decide (bt705.1 > 0), bt713.2)) else (none)) else (none)))) else (some (bt703.1, decide (bt705.1 > 0), bt708.2)))))
theorem spec_l5Say.mono : ∀ a0 a1 k, LeO (spec_l5Say.f k a0 a1) (spec_l5Say.f (k + 1) a0 a1) := by
 intro a0 a1 k
 unfold spec_l5Say.f
 repeat' first
   | (with_reducible exact spec_l1Rd_pick.mono _ _ _ _)
   | (with_reducible exact LeO.refl _)
   | (with_reducible exact LeO.none _)
   | (with_reducible refine LeO.ite ?_ ?_)
   | (with_reducible refine LeO.bind ?_ (fun _ => ?_))
   | exact spec_l1Rd_pick.mono _ _ _ _
   | exact LeO.none _
   | refine LeO.ite ?_ ?_
   | refine LeO.bind ?_ (fun _ => ?_)
set_option maxHeartbeats 8000000 in
set_option maxRecDepth 100000 in
theorem spec_l5Say.calls (k : Nat) (g : Nat) (s0_0 : List Int) (s0_1 : Int) (r1 : Int) (r2 : Bool) (r3 : Int) (w0 w : World) (hI : IsS107 w0 w g s0_0 s0_1) (hB : Below w0.heap.size w0 w) (h : spec_l5Say.f k s0_0 s0_1 = some (r1, r2, r3)) :
  Calls Try.prog 65 #[.pointer (some ⟨g, 0, none⟩)] w fun e w' => e = .returned (.agg #[.int .i64 r1, .bool r2]) ∧ IsS107 w0 w' g s0_0 r3 ∧ Below w0.heap.size w0 w' ∧ KeepBut w w' g none := by
 have hu43 := Try.underlying43
 have HI0 := Aside0.mk hI
 have HK := Aside0.mk (KeepBut.refl w g none)
 have HL := Aside0.mk hB.size
 clear hI
 have HW0 := Aside0.mk hB.size
 have HB := Aside0.mk hB
 clear hB
 have H : ((spec_l1Rd_pick.f k s0_0 s0_1 24).bind fun bt703 => ((spec_l1Rd_pick.f k s0_0 bt703.2 3).bind fun bt705 => ((spec_l1Rd_pick.f k s0_0 bt705.2 24).bind fun bt708 => (if bt708.1 = 0 then ((some (([(-1), (-9223372036854775808), 9223372036854775807, 0] : List Int) : List Int)).bind fun y710 => ((spec_l1Rd_pick.f k s0_0 bt708.2 4).bind fun bt713 => (if 0 ≤ bt713.1 then (if bt713.1 < (y710.length : Int) then (some (rd y710 bt713.1, decide (bt705.1 > 0), bt713.2)) else (none)) else (none)))) else (some (bt703.1, decide (bt705.1 > 0), bt708.2)))))) = some (r1, r2, r3) := h
 clear h
 replace H := Option.bind_eq_some_iff.mp H
 obtain ⟨⟨t703, t704⟩, A20, H⟩ := H
 try dsimp only at H
 have A2 := Aside0.mk A20
 clear A20
 replace H := Option.bind_eq_some_iff.mp H
 obtain ⟨⟨t705, t706⟩, A30, H⟩ := H
 try dsimp only at H
 have A3 := Aside0.mk A30
 clear A30
 replace H := Option.bind_eq_some_iff.mp H
 obtain ⟨⟨t708, t709⟩, A40, H⟩ := H
 try dsimp only at H
 have A4 := Aside0.mk A40
 clear A40
 by_cases c5 : t708 = 0
 ·rw [if_pos c5] at H
  have c5b0 : (t708 == 0) = true := beq_iff_eq.mpr c5
  have c5b1 : (t708 != 0) = false := bne_eq_false_iff_eq.mpr c5
  clear c5
  obtain ⟨y710, hy710⟩ : ∃ y_ : List Int, y_ = (([(-1), (-9223372036854775808), 9223372036854775807, 0] : List Int)) := ⟨_, rfl⟩
  replace H : ((spec_l1Rd_pick.f k s0_0 t709 4).bind fun bt713 => (if 0 ≤ bt713.1 then (if bt713.1 < (y710.length : Int) then (some (rd y710 bt713.1, decide (t705 > 0), bt713.2)) else (none)) else (none))) = some (r1, r2, r3) := rpl H hy710
  have Ny710 := Aside0.mk hy710
  clear hy710
  replace H := Option.bind_eq_some_iff.mp H
  obtain ⟨⟨t713, t714⟩, A60, H⟩ := H
  try dsimp only at H
  have A6 := Aside0.mk A60
  clear A60
  by_cases c7 : 0 ≤ t713
  ·rw [if_pos c7] at H
   have c7b0 : decide (0 ≤ t713) = true := decide_eq_true c7
   clear c7
   by_cases c8 : t713 < (y710.length : Int)
   ·rw [if_pos c8] at H
    have c8b0 : decide (t713 < (y710.length : Int)) = true := decide_eq_true c8
    clear c8
    simp only [Option.some.injEq, Prod.mk.injEq] at H
    obtain ⟨rfl, rfl, rfl⟩ := H
    go_enter Try.func65, Try.ntmps65
    go_wp2_with (first | ((with_reducible refine gate_dst (N := 2) rfl ?_); refine box_event ?hg (N := 2) ?hd (cs := #[.int .i64 0, .bool false]) (t := 43) ?hr ?_; (case hd => rfl); (case hg => rfl); (case hr => first | (go_simp; done) | (go_simp; rfl)); intro gb702 hg w9 hbox hb; have t_ := And.intro (Aside0.mk (IsS107.below (ib HI0.out) hb)) <| And.intro (kt HK (KeepBut.of_below hb g none)) <| And.intro (bsi HB hb) <| And.intro (Aside0.mk (hbox)) <| And.intro (Aside0.mk ((by rw [hg]; exact (keep_size (w := w) (g := g) (row := none) (kb HK.out)) : w.heap.size ≤ gb702))) <| And.intro (Aside0.mk ((Nat.le_trans HW0.out (by rw [hg]; exact (keep_size (w := w) (g := g) (row := none) (kb HK.out)) : w.heap.size ≤ gb702) : w0.heap.size ≤ gb702))) <| And.intro (Aside0.mk ((by rw [hg]; exact Nat.ne_of_lt (IsS107.lt (show IsS107 w0 _ g s0_0 s0_1 from ib HI0.out)) : g ≠ gb702))) <| (Aside0.mk ((by rw [hg]; exact Nat.ne_of_gt (IsS107.lt (show IsS107 w0 _ g s0_0 s0_1 from ib HI0.out)) : gb702 ≠ g))); clear HI0 HK HB; obtain ⟨HI0, HK, HB, BK702, GW702, GE702, NB0_702, NB702_0⟩ := t_; clear hb hbox hg) | ((with_reducible refine gate_callee (f := 64) rfl ?_); refine goesL_ (some 5) rfl rfl Try.func64 (by kernel_rfl) rfl #[.pointer (some ⟨g, 0, none⟩), .int .i64 24] rfl mxp ?_; (with_reducible refine (spec_l1Rd_pick.calls k g s0_0 s0_1 24 t703 t704 w0 _ ?side1 ?side2 A2.out).mono ?_); (case side1 => exact ib HI0.out); (case side2 => exact bi HB.out); rintro e w10 ⟨rfl, hi, hb, hk⟩; refine ⟨_, rfl, ?_⟩; have t_ := And.intro (kp BK702 hk NB702_0) <| And.intro (kt HK hk) <| And.intro (Aside0.mk (hb)) <| (Aside0.mk (hi)); clear BK702 HK HB HI0; obtain ⟨BK702, HK, HB, HI0⟩ := t_; (try clear hb); (try clear hb2); (try clear hk); (try clear hi)) | ((with_reducible refine gate_callee (f := 64) rfl ?_); refine goesL_ (some 7) rfl rfl Try.func64 (by kernel_rfl) rfl #[.pointer (some ⟨g, 0, none⟩), .int .i64 3] rfl mxp ?_; (with_reducible refine (spec_l1Rd_pick.calls k g s0_0 t704 3 t705 t706 w0 _ ?side1 ?side2 A3.out).mono ?_); (case side1 => exact ib HI0.out); (case side2 => exact bi HB.out); rintro e w11 ⟨rfl, hi, hb, hk⟩; refine ⟨_, rfl, ?_⟩; have t_ := And.intro (kp BK702 hk NB702_0) <| And.intro (kt HK hk) <| And.intro (Aside0.mk (hb)) <| (Aside0.mk (hi)); clear BK702 HK HB HI0; obtain ⟨BK702, HK, HB, HI0⟩ := t_; (try clear hb); (try clear hb2); (try clear hk); (try clear hi)) | ((with_reducible refine gate_dst (N := 3) rfl ?_); refine box_event ?hg (N := 3) ?hd (cs := #[.int .i64 0, .bool false]) (t := 43) ?hr ?_; (case hd => rfl); (case hg => rfl); (case hr => first | (go_simp; done) | (go_simp; rfl)); intro gb707 hg w12 hbox hb; have t_ := And.intro (Aside0.mk (IsS107.below (ib HI0.out) hb)) <| And.intro (up BK702 hb) <| And.intro (kt HK (KeepBut.of_below hb g none)) <| And.intro (bsi HB hb) <| And.intro (Aside0.mk (hbox)) <| And.intro (Aside0.mk ((by rw [hg]; exact (keep_size (w := w) (g := g) (row := none) (kb HK.out)) : w.heap.size ≤ gb707))) <| And.intro (Aside0.mk ((Nat.le_trans HW0.out (by rw [hg]; exact (keep_size (w := w) (g := g) (row := none) (kb HK.out)) : w.heap.size ≤ gb707) : w0.heap.size ≤ gb707))) <| And.intro (nlt' hg BK702) <| And.intro (ngt' hg BK702) <| And.intro (Aside0.mk ((by rw [hg]; exact Nat.ne_of_lt (IsS107.lt (show IsS107 w0 _ g s0_0 t706 from ib HI0.out)) : g ≠ gb707))) <| (Aside0.mk ((by rw [hg]; exact Nat.ne_of_gt (IsS107.lt (show IsS107 w0 _ g s0_0 t706 from ib HI0.out)) : gb707 ≠ g))); clear HI0 BK702 HK HB; obtain ⟨HI0, BK702, HK, HB, BK707, GW707, GE707, NB702_707, NB707_702, NB0_707, NB707_0⟩ := t_; clear hb hbox hg; have hnb13 := NB707_702.out; have hnc13 := NB702_707.out; have hnb14 := NB707_0.out; have hnc14 := NB0_707.out; have hcz15_0 := b0 BK707; have hcz15_1 := b1 BK707; have hfz15_0 := fz BK707 0; have hfz15_1 := fz BK707 1) | ((with_reducible refine gate_callee (f := 64) rfl ?_); refine goesL_ (some 11) rfl rfl Try.func64 (by kernel_rfl) rfl #[.pointer (some ⟨g, 0, none⟩), .int .i64 24] rfl mxp ?_; (with_reducible refine (spec_l1Rd_pick.calls k g s0_0 t706 24 t708 t709 w0 _ ?side1 ?side2 A4.out).mono ?_); (case side1 => exact ib HI0.out); (case side2 => exact bi HB.out); rintro e w16 ⟨rfl, hi, hb, hk⟩; refine ⟨_, rfl, ?_⟩; have t_ := And.intro (Aside0.mk (KeepBut.blk hk (g' := gb702) (o := .cells #[.int .i64 0, .bool false] 43 (0, 0)) (by refine bx ?_; refine blk_far ?_ NB702_707.out _; refine bx ?_; refine blk_far ?_ NB702_707.out _; refine bx ?_; exact BK702.out) NB702_0.out (by simp))) <| And.intro (Aside0.mk (KeepBut.blk hk (g' := gb707) (o := .cells #[.int .i64 t703, .bool (decide (t705 > 0))] 43 (0, 0)) (by refine bx ?_; refine blk_put (cs := #[.int .i64 t703, .bool false]) ?_ 1 _ rfl; refine bx ?_; refine blk_put (cs := #[.int .i64 0, .bool false]) ?_ 0 _ rfl; refine bx ?_; exact BK707.out) NB707_0.out (by simp))) <| And.intro (kt HK hk) <| And.intro (Aside0.mk (hb)) <| (Aside0.mk (hi)); clear BK702 BK707 HK HB HI0; obtain ⟨BK702, BK707, HK, HB, HI0⟩ := t_; (try clear hb); (try clear hb2); (try clear hk); (try clear hi)) | ((with_reducible refine gate_dst (N := 13) rfl ?_); refine Kd.R_lit (Kd.int .i64) _ 3 ?hg (N := 13) ?hd (xs := ([(-1), (-9223372036854775808), 9223372036854775807, 0] : List Int)) (inner := [.int .i64 (-1), .int .i64 (-9223372036854775808), .int .i64 9223372036854775807, .int .i64 0]) (ok := fun _ => True) (okp := fun _ => True) ?hr ?hp (fun _ hk => hk) trivial (Below.refl _ _) (Nat.le_refl _) (by simp) ?_; (case hd => rfl); (case hg => rfl); (case hr => first | (go_simp; done) | (go_simp; rfl)); (case hp => exact (Reps.one (show Kd.M (Kd.int .i64) _ _ _ (-1) [.int .i64 (-1)] from rfl) (Reps.one (show Kd.M (Kd.int .i64) _ _ _ (-9223372036854775808) [.int .i64 (-9223372036854775808)] from rfl) (Reps.one (show Kd.M (Kd.int .i64) _ _ _ 9223372036854775807 [.int .i64 9223372036854775807] from rfl) (Reps.one (show Kd.M (Kd.int .i64) _ _ _ 0 [.int .i64 0] from rfl) (Reps.none _ _)))))); intro v711 w17 ho18 hb hg_ hnew_; clear hg_ hnew_; (first | rw [← Ny710.out] at ho18 | (simp only [Int.reduceToNat] at ho18; rw [← Ny710.out] at ho18)); have t_ := And.intro (Aside0.mk (Kd.R_lower ho18 (keep_size (w := w) (g := g) (row := none) (kb HK.out)))) <| And.intro (Aside0.mk (IsS107.below (ib HI0.out) hb)) <| And.intro (up BK702 hb) <| And.intro (up BK707 hb) <| And.intro (kt HK (KeepBut.of_below hb g none)) <| (bsi HB hb); clear HI0 BK702 BK707 HK HB; obtain ⟨HO712, HI0, BK702, BK707, HK, HB⟩ := t_; clear hb ho18) | ((with_reducible refine gate_callee (f := 64) rfl ?_); refine goesL_ (some 15) rfl rfl Try.func64 (by kernel_rfl) rfl #[.pointer (some ⟨g, 0, none⟩), .int .i64 4] rfl mxp ?_; (with_reducible refine (spec_l1Rd_pick.calls k g s0_0 t709 4 t713 t714 w0 _ ?side1 ?side2 A6.out).mono ?_); (case side1 => exact ib HI0.out); (case side2 => exact bi HB.out); rintro e w19 ⟨rfl, hi, hb, hk⟩; refine ⟨_, rfl, ?_⟩; have t_ := And.intro (kp BK702 hk NB702_0) <| And.intro (kp BK707 hk NB707_0) <| And.intro (Aside0.mk (Kd.R_mono (Kd.R_keep (IsS107.apart (show IsS107 w0 _ g s0_0 t709 from ib HI0.out) (rx HO712.out) (by decide)) hk (fun _ h => h.2)) (fun _ h => h.1))) <| And.intro (kt HK hk) <| And.intro (Aside0.mk (hb)) <| (Aside0.mk (hi)); clear BK702 BK707 HO712 HK HB HI0; obtain ⟨BK702, BK707, HO712, HK, HB, HI0⟩ := t_; (try clear hb); (try clear hb2); (try clear hk); (try clear hi); obtain ⟨Ao20, co20, eo20⟩ := Kd.R_slice HO712.out; subst eo20; have p715 : 0 ≤ (t713 : Int) := oda; have q715 : t713 < (y710.length : Int) := oda; obtain ⟨ad715, e715, hx715_0⟩ := Kd.at_int (Kd.R_reads' HO712.out).2.2 t713 p715 q715; cases e715; replace p715 := eq_true p715; replace q715 := eq_true q715; have hcz21_0 := b0 BK707; have hcz21_1 := b1 BK707; have hfz21_0 := fz BK707 0; have hfz21_1 := fz BK707 1; have hnb22 := NB702_0.out; have hnc22 := NB0_702.out; have hcz23_0 := b0 BK702; have hcz23_1 := b1 BK702; have hfz23_0 := fz BK702 0; have hfz23_1 := fz BK702 1))
    refine bodyPost_ret (results_cell_row rfl _ _ gb702 43 #[.int .i64 (rd y710 t713), .bool (decide (t705 > 0))] (0, 0) _ rfl (by refine bx ?_; refine blk_put (cs := #[.int .i64 (rd y710 t713), .bool false]) ?_ 1 _ rfl; refine bx ?_; refine blk_put (cs := #[.int .i64 0, .bool false]) ?_ 0 _ rfl; refine bx ?_; refine blk_far ?_ NB702_707.out _; refine bx ?_; exact BK702.out) Try.underlying43 rfl (by kernel_rfl)) rfl ?_
    exact ⟨exq, ib HI0.out, bi HB.out, kb HK.out⟩
   ·rw [if_neg c8] at H
    exact absurd H (by simp)
  ·rw [if_neg c7] at H
   exact absurd H (by simp)
 ·rw [if_neg c5] at H
  have c5b0 : (t708 == 0) = false := beq_eq_false_iff_ne.mpr c5
  have c5b1 : (t708 != 0) = true := bne_iff_ne.mpr c5
  simp only [Option.some.injEq, Prod.mk.injEq] at H
  obtain ⟨rfl, rfl, rfl⟩ := H
  go_enter Try.func65, Try.ntmps65
  go_wp2_with (first | ((with_reducible refine gate_dst (N := 2) rfl ?_); refine box_event ?hg (N := 2) ?hd (cs := #[.int .i64 0, .bool false]) (t := 43) ?hr ?_; (case hd => rfl); (case hg => rfl); (case hr => first | (go_simp; done) | (go_simp; rfl)); intro gb702 hg w24 hbox hb; have t_ := And.intro (Aside0.mk (IsS107.below (ib HI0.out) hb)) <| And.intro (kt HK (KeepBut.of_below hb g none)) <| And.intro (bsi HB hb) <| And.intro (Aside0.mk (hbox)) <| And.intro (Aside0.mk ((by rw [hg]; exact (keep_size (w := w) (g := g) (row := none) (kb HK.out)) : w.heap.size ≤ gb702))) <| And.intro (Aside0.mk ((Nat.le_trans HW0.out (by rw [hg]; exact (keep_size (w := w) (g := g) (row := none) (kb HK.out)) : w.heap.size ≤ gb702) : w0.heap.size ≤ gb702))) <| And.intro (Aside0.mk ((by rw [hg]; exact Nat.ne_of_lt (IsS107.lt (show IsS107 w0 _ g s0_0 s0_1 from ib HI0.out)) : g ≠ gb702))) <| (Aside0.mk ((by rw [hg]; exact Nat.ne_of_gt (IsS107.lt (show IsS107 w0 _ g s0_0 s0_1 from ib HI0.out)) : gb702 ≠ g))); clear HI0 HK HB; obtain ⟨HI0, HK, HB, BK702, GW702, GE702, NB0_702, NB702_0⟩ := t_; clear hb hbox hg) | ((with_reducible refine gate_callee (f := 64) rfl ?_); refine goesL_ (some 5) rfl rfl Try.func64 (by kernel_rfl) rfl #[.pointer (some ⟨g, 0, none⟩), .int .i64 24] rfl mxp ?_; (with_reducible refine (spec_l1Rd_pick.calls k g s0_0 s0_1 24 t703 t704 w0 _ ?side1 ?side2 A2.out).mono ?_); (case side1 => exact ib HI0.out); (case side2 => exact bi HB.out); rintro e w25 ⟨rfl, hi, hb, hk⟩; refine ⟨_, rfl, ?_⟩; have t_ := And.intro (kp BK702 hk NB702_0) <| And.intro (kt HK hk) <| And.intro (Aside0.mk (hb)) <| (Aside0.mk (hi)); clear BK702 HK HB HI0; obtain ⟨BK702, HK, HB, HI0⟩ := t_; (try clear hb); (try clear hb2); (try clear hk); (try clear hi)) | ((with_reducible refine gate_callee (f := 64) rfl ?_); refine goesL_ (some 7) rfl rfl Try.func64 (by kernel_rfl) rfl #[.pointer (some ⟨g, 0, none⟩), .int .i64 3] rfl mxp ?_; (with_reducible refine (spec_l1Rd_pick.calls k g s0_0 t704 3 t705 t706 w0 _ ?side1 ?side2 A3.out).mono ?_); (case side1 => exact ib HI0.out); (case side2 => exact bi HB.out); rintro e w26 ⟨rfl, hi, hb, hk⟩; refine ⟨_, rfl, ?_⟩; have t_ := And.intro (kp BK702 hk NB702_0) <| And.intro (kt HK hk) <| And.intro (Aside0.mk (hb)) <| (Aside0.mk (hi)); clear BK702 HK HB HI0; obtain ⟨BK702, HK, HB, HI0⟩ := t_; (try clear hb); (try clear hb2); (try clear hk); (try clear hi)) | ((with_reducible refine gate_dst (N := 3) rfl ?_); refine box_event ?hg (N := 3) ?hd (cs := #[.int .i64 0, .bool false]) (t := 43) ?hr ?_; (case hd => rfl); (case hg => rfl); (case hr => first | (go_simp; done) | (go_simp; rfl)); intro gb707 hg w27 hbox hb; have t_ := And.intro (Aside0.mk (IsS107.below (ib HI0.out) hb)) <| And.intro (up BK702 hb) <| And.intro (kt HK (KeepBut.of_below hb g none)) <| And.intro (bsi HB hb) <| And.intro (Aside0.mk (hbox)) <| And.intro (Aside0.mk ((by rw [hg]; exact (keep_size (w := w) (g := g) (row := none) (kb HK.out)) : w.heap.size ≤ gb707))) <| And.intro (Aside0.mk ((Nat.le_trans HW0.out (by rw [hg]; exact (keep_size (w := w) (g := g) (row := none) (kb HK.out)) : w.heap.size ≤ gb707) : w0.heap.size ≤ gb707))) <| And.intro (nlt' hg BK702) <| And.intro (ngt' hg BK702) <| And.intro (Aside0.mk ((by rw [hg]; exact Nat.ne_of_lt (IsS107.lt (show IsS107 w0 _ g s0_0 t706 from ib HI0.out)) : g ≠ gb707))) <| (Aside0.mk ((by rw [hg]; exact Nat.ne_of_gt (IsS107.lt (show IsS107 w0 _ g s0_0 t706 from ib HI0.out)) : gb707 ≠ g))); clear HI0 BK702 HK HB; obtain ⟨HI0, BK702, HK, HB, BK707, GW707, GE707, NB702_707, NB707_702, NB0_707, NB707_0⟩ := t_; clear hb hbox hg; have hnb28 := NB707_702.out; have hnc28 := NB702_707.out; have hnb29 := NB707_0.out; have hnc29 := NB0_707.out; have hcz30_0 := b0 BK707; have hcz30_1 := b1 BK707; have hfz30_0 := fz BK707 0; have hfz30_1 := fz BK707 1) | ((with_reducible refine gate_callee (f := 64) rfl ?_); refine goesL_ (some 11) rfl rfl Try.func64 (by kernel_rfl) rfl #[.pointer (some ⟨g, 0, none⟩), .int .i64 24] rfl mxp ?_; (with_reducible refine (spec_l1Rd_pick.calls k g s0_0 t706 24 t708 t709 w0 _ ?side1 ?side2 A4.out).mono ?_); (case side1 => exact ib HI0.out); (case side2 => exact bi HB.out); rintro e w31 ⟨rfl, hi, hb, hk⟩; refine ⟨_, rfl, ?_⟩; have t_ := And.intro (Aside0.mk (KeepBut.blk hk (g' := gb702) (o := .cells #[.int .i64 0, .bool false] 43 (0, 0)) (by refine bx ?_; refine blk_far ?_ NB702_707.out _; refine bx ?_; refine blk_far ?_ NB702_707.out _; refine bx ?_; exact BK702.out) NB702_0.out (by simp))) <| And.intro (Aside0.mk (KeepBut.blk hk (g' := gb707) (o := .cells #[.int .i64 t703, .bool (decide (t705 > 0))] 43 (0, 0)) (by refine bx ?_; refine blk_put (cs := #[.int .i64 t703, .bool false]) ?_ 1 _ rfl; refine bx ?_; refine blk_put (cs := #[.int .i64 0, .bool false]) ?_ 0 _ rfl; refine bx ?_; exact BK707.out) NB707_0.out (by simp))) <| And.intro (kt HK hk) <| And.intro (Aside0.mk (hb)) <| (Aside0.mk (hi)); clear BK702 BK707 HK HB HI0; obtain ⟨BK702, BK707, HK, HB, HI0⟩ := t_; (try clear hb); (try clear hb2); (try clear hk); (try clear hi); have hcz32_0 := b0 BK707; have hcz32_1 := b1 BK707; have hfz32_0 := fz BK707 0; have hfz32_1 := fz BK707 1; have hnb33 := NB702_0.out; have hnc33 := NB0_702.out; have hcz34_0 := b0 BK702; have hcz34_1 := b1 BK702; have hfz34_0 := fz BK702 0; have hfz34_1 := fz BK702 1))
  refine bodyPost_ret (results_cell_row rfl _ _ gb702 43 #[.int .i64 t703, .bool (decide (t705 > 0))] (0, 0) _ rfl (by refine bx ?_; refine blk_put (cs := #[.int .i64 t703, .bool false]) ?_ 1 _ rfl; refine bx ?_; refine blk_put (cs := #[.int .i64 0, .bool false]) ?_ 0 _ rfl; refine bx ?_; exact BK702.out) Try.underlying43 rfl (by kernel_rfl)) rfl ?_
  exact ⟨exq, ib HI0.out, bi HB.out, kb HK.out⟩


/-! ### spec_DrawRecRun: function 20 -/
def spec_DrawRecRun.l0 : Nat → List (S39) → List (S43) → Int → List Int → Int → Option ((List (S39)) × (List (S43)))
 | 0, _, _, _, _, _ => none
 | k + 1, x5, x6, x7, x1025000, x1025001 => if x7 > 0 then ((spec_l5Say.f k x1025000 x1025001).bind fun bt1034 => (if x6.length < 8796093022208 then (spec_DrawRecRun.l0 k x5 (x6 ++ [(⟨bt1034.1, bt1034.2.1⟩ : S43)]) (wrap64 (x7 - 1)) x1025000 bt1034.2.2) else (none))) else (some (x5, x6))
def spec_DrawRecRun.f (k : Nat) (l0 : List Int) : Option ((List (S39)) × (List (S43))) := (spec_l1Open.f l0).bind fun bt1022 => ((spec_l5Any.f k bt1022.1 bt1022.2).bind fun bt1025 => ((spec_l1Rd_pick.f k bt1022.1 bt1025.2 12).bind fun bt1032 => (spec_DrawRecRun.l0 k bt1025.1 (([] : List (S43))) bt1032.1 bt1022.1 bt1032.2)))
theorem spec_DrawRecRun.mono_l : ∀ k, (∀ y0 y1 y2 y3 y4, LeO (spec_DrawRecRun.l0 k y0 y1 y2 y3 y4) (spec_DrawRecRun.l0 (k + 1) y0 y1 y2 y3 y4))
 | 0 => fun _ _ _ _ _ r h => by simp [spec_DrawRecRun.l0] at h
 | k + 1 => by
  have ih0 := spec_DrawRecRun.mono_l k
  ·intro y0 y1 y2 y3 y4
   unfold spec_DrawRecRun.l0
   repeat' first
   | (with_reducible exact ih0 _ _ _ _ _)
   | (with_reducible exact spec_l1Rd_pick.mono _ _ _ _)
   | (with_reducible exact spec_l5Any.mono _ _ _)
   | (with_reducible exact spec_l5Say.mono _ _ _)
   | (with_reducible exact LeO.refl _)
   | (with_reducible exact LeO.none _)
   | (with_reducible refine LeO.ite ?_ ?_)
   | (with_reducible refine LeO.bind ?_ (fun _ => ?_))
   | exact ih0 _ _ _ _ _
   | exact spec_l1Rd_pick.mono _ _ _ _
   | exact spec_l5Any.mono _ _ _
   | exact spec_l5Say.mono _ _ _
   | exact LeO.none _
   | refine LeO.ite ?_ ?_
   | refine LeO.bind ?_ (fun _ => ?_)
theorem spec_DrawRecRun.mono : ∀ a0 k, LeO (spec_DrawRecRun.f k a0) (spec_DrawRecRun.f (k + 1) a0) := by
 intro a0 k
 have ih0 := spec_DrawRecRun.mono_l k
 unfold spec_DrawRecRun.f
 repeat' first
   | (with_reducible exact ih0 _ _ _ _ _)
   | (with_reducible exact spec_l1Rd_pick.mono _ _ _ _)
   | (with_reducible exact spec_l5Any.mono _ _ _)
   | (with_reducible exact spec_l5Say.mono _ _ _)
   | (with_reducible exact LeO.refl _)
   | (with_reducible exact LeO.none _)
   | (with_reducible refine LeO.ite ?_ ?_)
   | (with_reducible refine LeO.bind ?_ (fun _ => ?_))
   | exact ih0 _ _ _ _ _
   | exact spec_l1Rd_pick.mono _ _ _ _
   | exact spec_l5Any.mono _ _ _
   | exact spec_l5Say.mono _ _ _
   | exact LeO.none _
   | refine LeO.ite ?_ ?_
   | refine LeO.bind ?_ (fun _ => ?_)
set_option maxHeartbeats 8000000 in
set_option maxRecDepth 100000 in
theorem spec_DrawRecRun.calls (k : Nat) (A0 : Option Addr) (c0 : Nat) (l0 : List Int) (r1 : List (S39)) (r2 : List (S43)) (w : World) (hr0 : Kd.C (Kd.int .u8) w A0 l0.length l0) (hc0 : l0.length ≤ c0) (h : spec_DrawRecRun.f k l0 = some (r1, r2)) :
  Calls Try.prog 20 #[.slice A0 l0.length c0] w fun e w' => ∃ v0_ v1_ : Value, e = .returned (.tuple #[v0_, v1_]) ∧ Kd.R k39 39 w' w.heap.size (fun _ => True) v0_ r1 ∧ Kd.R k43 43 w' w.heap.size (fun _ => True) v1_ r2 ∧ Below w.heap.size w w' := by
 have HR0 := Aside0.mk hr0
 have HC0 := Aside0.mk hc0
 clear hr0 hc0
 have HB := Aside0.mk (Below.refl w.heap.size w)
 have H : ((spec_l1Open.f l0).bind fun bt1022 => ((spec_l5Any.f k bt1022.1 bt1022.2).bind fun bt1025 => ((spec_l1Rd_pick.f k bt1022.1 bt1025.2 12).bind fun bt1032 => (spec_DrawRecRun.l0 k bt1025.1 (([] : List (S43))) bt1032.1 bt1022.1 bt1032.2)))) = some (r1, r2) := h
 clear h
 replace H := Option.bind_eq_some_iff.mp H
 obtain ⟨⟨t1022, t1023⟩, A20, H⟩ := H
 try dsimp only at H
 have A2 := Aside0.mk A20
 clear A20
 replace H := Option.bind_eq_some_iff.mp H
 obtain ⟨⟨t1025, t1028⟩, A30, H⟩ := H
 try dsimp only at H
 have A3 := Aside0.mk A30
 clear A30
 obtain ⟨y1029, hy1029⟩ : ∃ y_ : List (S43), y_ = (([] : List (S43))) := ⟨_, rfl⟩
 replace H : ((spec_l1Rd_pick.f k t1022 t1028 12).bind fun bt1032 => (spec_DrawRecRun.l0 k t1025 y1029 bt1032.1 t1022 bt1032.2)) = some (r1, r2) := rpl H hy1029
 have Ny1029 := Aside0.mk hy1029
 clear hy1029
 replace H := Option.bind_eq_some_iff.mp H
 obtain ⟨⟨t1032, t1033⟩, A40, H⟩ := H
 try dsimp only at H
 have A4 := Aside0.mk A40
 clear A40
 have H' := Aside0.mk H
 clear H
 go_enter Try.func20, Try.ntmps20
 go_wp2_with (first | ((with_reducible refine gate_callee (f := 62) rfl ?_); refine goesL_ (some 9) rfl rfl Try.func62 (by kernel_rfl) rfl #[.slice A0 l0.length c0] rfl mxp ?_; (with_reducible refine (spec_l1Open.calls _ _ l0 t1022 t1023 w _ ?side1 ?side2 ?side3 A2.out).mono ?_); (case side1 => exact bw HB.out); (case side2 => exact HR0.out); (case side3 => exact HC0.out); rintro e w5 ⟨g1024, rfl, hi, hb, hb2⟩; refine ⟨_, rfl, ?_⟩; have t_ := And.intro (Aside0.mk (hb)) <| (Aside0.mk (hi)); clear HB; obtain ⟨HB, HI1024⟩ := t_; (try clear hb); (try clear hb2); (try clear hk); (try clear hi)) | ((with_reducible refine gate_callee (f := 63) rfl ?_); refine goesL_ (some 11) rfl rfl Try.func63 (by kernel_rfl) rfl #[.pointer (some ⟨g1024, 0, none⟩)] rfl mxp ?_; (with_reducible refine (spec_l5Any.calls k g1024 t1022 t1023 t1025 t1028 w _ ?side1 ?side2 A3.out).mono ?_); (case side1 => exact ib HI1024.out); (case side2 => exact bi HB.out); rintro e w6 ⟨v1026, rfl, ho0, hi, hb, hk⟩; refine ⟨_, rfl, ?_⟩; have t_ := And.intro (Aside0.mk (Kd.R_lower ho0 (below_size (bi HB.out)))) <| And.intro (Aside0.mk (hb)) <| (Aside0.mk (hi)); clear HB HI1024; obtain ⟨HO1027, HB, HI1024⟩ := t_; (try clear hb); (try clear hb2); (try clear hk); (try clear hi); (try clear ho0)) | ((with_reducible refine gate_dst (N := 12) rfl ?_); refine Kd.R_lit k43 _ 43 ?hg (N := 12) ?hd (xs := ([] : List (S43))) (inner := []) (ok := fun _ => True) (okp := fun _ => True) ?hr ?hp (fun _ hk => hk) trivial (Below.refl _ _) (Nat.le_refl _) (by simp) ?_; (case hd => rfl); (case hg => rfl); (case hr => first | (go_simp; done) | (go_simp; rfl)); (case hp => exact (Reps.none _ _)); intro v1030 w7 ho8 hb hg_ hnew_; clear hg_ hnew_; (first | rw [← Ny1029.out] at ho8 | (simp only [Int.reduceToNat] at ho8; rw [← Ny1029.out] at ho8)); have t_ := And.intro (Aside0.mk (Kd.R_below (rx HO1027.out) hb)) <| And.intro (Aside0.mk (Kd.R_lower ho8 (below_size (bi HB.out)))) <| And.intro (Aside0.mk (IsS107.below (ib HI1024.out) hb)) <| (bsi HB hb); clear HO1027 HI1024 HB; obtain ⟨HO1027, HO1031, HI1024, HB⟩ := t_; clear hb ho8) | ((with_reducible refine gate_callee (f := 64) rfl ?_); refine goesL_ (some 14) rfl rfl Try.func64 (by kernel_rfl) rfl #[.pointer (some ⟨g1024, 0, none⟩), .int .i64 12] rfl mxp ?_; (with_reducible refine (spec_l1Rd_pick.calls k g1024 t1022 t1028 12 t1032 t1033 w _ ?side1 ?side2 A4.out).mono ?_); (case side1 => exact ib HI1024.out); (case side2 => exact bi HB.out); rintro e w9 ⟨rfl, hi, hb, hk⟩; refine ⟨_, rfl, ?_⟩; have t_ := And.intro (Aside0.mk (Kd.R_mono (Kd.R_keep (IsS107.apart (show IsS107 w _ g1024 t1022 t1028 from ib HI1024.out) (rx HO1027.out) (by decide)) hk (fun _ h => h.2)) (fun _ h => h.1))) <| And.intro (Aside0.mk (Kd.R_mono (Kd.R_keep (IsS107.apart (show IsS107 w _ g1024 t1022 t1028 from ib HI1024.out) (rx HO1031.out) (by decide)) hk (fun _ h => h.2)) (fun _ h => h.1))) <| And.intro (Aside0.mk (hb)) <| (Aside0.mk (hi)); clear HO1027 HO1031 HB HI1024; obtain ⟨HO1027, HO1031, HB, HI1024⟩ := t_; (try clear hb); (try clear hb2); (try clear hk); (try clear hi)))
 go_loopg [6, 7] k (fun kq v6 v7 w' => ∃ (x6_1 : List (S43)) (x7_1 : Int) (x1025001_1 : Int), v7 = .int .i64 x7_1 ∧ Aside0 (spec_DrawRecRun.l0 kq t1025 x6_1 x7_1 t1022 x1025001_1 = some (r1, r2)) ∧ Aside0 (kq ≤ k) ∧ Aside0 (Kd.R k39 39 w' w.heap.size (fun _ => True) v1026 t1025) ∧ Aside0 (Kd.R k43 43 w' w.heap.size (fun _ => True) v6 x6_1) ∧ Aside0 (IsS107 w w' g1024 t1022 x1025001_1) ∧ Aside0 (Below w.heap.size w w'))
 case atStart => exact ⟨(y1029), (t1032), (t1033), (by first | rfl | (simp; done) | (simp [*]; done)), H', ⟨Nat.le_refl _⟩, ⟨by refine rx ?_; exact HO1027.out⟩, ⟨by refine rx ?_; exact HO1031.out⟩, ⟨ib HI1024.out⟩, (hbi HB)⟩
 case round =>
  clear H'
  obtain ⟨x6_1, x7_1, x1025001_1, rfl, HA, HK1, HO_5, HO_6, HI1024, HB⟩ := hrel
  cases gk with
  | zero => exact absurd HA.out (by simp [spec_DrawRecRun.l0])
  | succ k1 =>
   have H := HA.out
   clear HA
   simp only [spec_DrawRecRun.l0] at H
   by_cases c10 : x7_1 > 0
   ·rw [if_pos c10] at H
    have c10b0 : decide (0 < x7_1) = true := decide_eq_true c10
    clear c10
    replace H := Option.bind_eq_some_iff.mp H
    obtain ⟨⟨t1034, t1035, t1036⟩, A110, H⟩ := H
    try dsimp only at H
    have A11 := Aside0.mk A110
    clear A110
    by_cases c12 : x6_1.length < 8796093022208
    ·rw [if_pos c12] at H
     have LMc12 := Aside0.mk c12
     clear c12
     obtain ⟨y1037, hy1037⟩ : ∃ y_ : List (S43), y_ = (x6_1 ++ [(⟨t1034, t1035⟩ : S43)]) := ⟨_, rfl⟩
     replace H : (spec_DrawRecRun.l0 k1 t1025 y1037 (wrap64 (x7_1 - 1)) t1022 t1036) = some (r1, r2) := rpl H hy1037
     have Ny1037 := Aside0.mk hy1037
     clear hy1037
     have H' := Aside0.mk H
     clear H
     go_wp2_with (first | ((with_reducible refine gate_callee (f := 65) rfl ?_); refine goesL_ (some 21) rfl rfl Try.func65 (by kernel_rfl) rfl #[.pointer (some ⟨g1024, 0, none⟩)] rfl mxp ?_; (with_reducible refine (spec_l5Say.calls k1 g1024 t1022 x1025001_1 t1034 t1035 t1036 w _ ?side1 ?side2 A11.out).mono ?_); (case side1 => exact ib HI1024.out); (case side2 => exact bi HB.out); rintro e w13 ⟨rfl, hi, hb, hk⟩; refine ⟨_, rfl, ?_⟩; have t_ := And.intro (Aside0.mk (Kd.R_mono (Kd.R_keep (IsS107.apart (show IsS107 w _ g1024 t1022 x1025001_1 from ib HI1024.out) (rx HO_5.out) (by decide)) hk (fun _ h => h.2)) (fun _ h => h.1))) <| And.intro (Aside0.mk (Kd.R_mono (Kd.R_keep (IsS107.apart (show IsS107 w _ g1024 t1022 x1025001_1 from ib HI1024.out) (rx HO_6.out) (by decide)) hk (fun _ h => h.2)) (fun _ h => h.1))) <| And.intro (Aside0.mk (hb)) <| (Aside0.mk (hi)); clear HO_5 HO_6 HB HI1024; obtain ⟨HO_5, HO_6, HB, HI1024⟩ := t_; (try clear hb); (try clear hb2); (try clear hk); (try clear hi)) | ((with_reducible refine gate_builtin (b := .append) (xs := #[.tmp 19, .tmp 22]) rfl ?_); at_builtin; refine Kd.R_append k43 (w0 := w) w.heap.size rfl (.tmp 19) (.tmp 22) 27 43 (.agg #[(.int .i64 0), (.bool false)]) 16 rfl Try.underlying27 info43 rfl (by decide) (by omega) u6 x6_1 (⟨t1034, t1035⟩ : S43) [.int .i64 t1034, .bool t1035] (fun _ => True) (fun _ => False) rfl rfl ?aP (fun _ hk => hk.elim) ?aF ?aO ?aB ?aS ?aL ?_; (case aP => exact k43_mkM _ _ _ (⟨t1034, t1035⟩ : S43)); (case aB => exact (bi HB.out)); (case aF => exact (fun _ _ => trivial)); (case aO => exact (rx HO_6.out)); (case aS => exact (below_size (bi HB.out))); (case aL => have := LMc12.out; omega); intro v1038 w14 ho hb hg hat; rw [← Ny1037.out] at ho; have t_ := And.intro (Aside0.mk (Kd.R_over' (rx HO_5.out) (Kd.R_typed (rx HO_6.out)) (by decide) hg)) <| And.intro (Aside0.mk (IsS107.grown (ib HI1024.out) hg (IsS107.own_ne HI1024.out HO_6.out (by decide)))) <| And.intro (Aside0.mk (hb)) <| (Aside0.mk (ho)); clear HO_5 HI1024 HB HO_6; obtain ⟨HO_5, HI1024, HB, HO1039⟩ := t_; clear ho hb hg hat))
     go_roundg k1
     case measure => have := HK1.out; omega
     case rel => exact ⟨(y1037), (wrap64 (x7_1 - 1)), (t1036), (by first | rfl | (simp; done) | (simp [*]; done)), H', ⟨by have := HK1.out; omega⟩, ⟨by refine rx ?_; exact HO_5.out⟩, ⟨by refine rx ?_; exact HO1039.out⟩, ⟨ib HI1024.out⟩, (hbi HB)⟩
    ·rw [if_neg c12] at H
     exact absurd H (by simp)
   ·rw [if_neg c10] at H
    have c10b0 : decide (0 < x7_1) = false := decide_eq_false c10
    clear c10
    simp only [Option.some.injEq, Prod.mk.injEq] at H
    obtain ⟨rfl, rfl⟩ := H
    go_wp2
    go_ret2
    exact ⟨_, _, exq, by refine rx ?_; exact HO_5.out, by refine rx ?_; exact HO_6.out, bi HB.out⟩

end Go.Proofs.Ytdkologncoofdaa.P
-- Q3
namespace Go.Proofs.Ytdkologncoofdaa.P
open Go.RowKit Go.Proofs.YtdkologncoofdaaW.PrintWords Go.Proofs.YtdkologncoofdaaW.PrintLast
set_option linter.unusedVariables false
set_option linter.unusedSimpArgs false

/-! ### Places -/
/-- The first place from i on of a phase of this name. -/
theorem atOf_range (l : List S39) (a : ByteArray) : -1 ≤ atOf l a ∧ atOf l a < (l.length : Int) := by
  unfold atOf
  cases h : l.findIdx? (fun p => p.f0.toList == a.toList) with
  | none => simp only; omega
  | some i =>
    obtain ⟨hlt, _⟩ := List.findIdx?_eq_some_iff_getElem.1 h
    simp only
    omega
theorem atOf_name (l : List S39) (a : ByteArray) (h : 0 ≤ atOf l a) : (rd_T39 l (atOf l a)).f0.toList = a.toList := by
  unfold atOf at h ⊢
  cases e : l.findIdx? (fun p => p.f0.toList == a.toList) with
  | none => rw [e] at h; simp at h
  | some i =>
    obtain ⟨hlt, h1, _⟩ := List.findIdx?_eq_some_iff_getElem.1 e
    simp only [rd_T39, Int.toNat_natCast]
    rw [List.getD_eq_getElem?_getD, List.getElem?_eq_getElem hlt]
    simpa using h1
theorem atOf_not (l : List S39) (a : ByteArray) (h : atOf l a < 0) (j : Nat) (hj : j < l.length) : (l.getD j z39).f0.toList ≠ a.toList := by
  unfold atOf at h
  cases e : l.findIdx? (fun p => p.f0.toList == a.toList) with
  | some i => rw [e] at h; simp only at h; omega
  | none =>
    have h2 := List.findIdx?_eq_none_iff.1 e (l.getD j z39) (by rw [List.getD_eq_getElem?_getD, List.getElem?_eq_getElem hj]; exact List.getElem_mem hj)
    simpa using h2
theorem at_loop (l : List S39) (a : ByteArray) (hl : l.length ≤ 9223372036854775807) (d : Nat) : ∀ (i k : Nat), i ≤ l.length → l.length - i = d → d < k →
    (∀ j, j < i → ((l.getD j z39).f0.toList == a.toList) = false) → spec_l2At.l0 k l a (i : Int) = some (atOf l a) := by
  induction d with
  | zero =>
    intro i k hi hd hk hb
    obtain ⟨k, rfl⟩ : ∃ m, k = m + 1 := ⟨k - 1, by omega⟩
    simp only [spec_l2At.l0]
    rw [if_neg (by omega), atOf_miss l a (fun j hj => hb j (by omega))]
  | succ d ih =>
    intro i k hi hd hk hb
    obtain ⟨k, rfl⟩ : ∃ m, k = m + 1 := ⟨k - 1, by omega⟩
    simp only [spec_l2At.l0]
    have e : rd_T39 l (i : Int) = l.getD i z39 := by simp [rd_T39]
    rw [if_pos (by omega), if_pos (by omega), e]
    by_cases h : (l.getD i z39).f0.toList = a.toList
    · rw [if_pos h, atOf_hit l a i (by omega) (by simpa using h) hb]
    · rw [if_neg h, show wrap64 ((i : Int) + 1) = ((i + 1 : Nat) : Int) from by rw [wrap_id (by omega) (by omega)]; omega]
      refine ih (i + 1) k (by omega) (by omega) (by omega) (fun j hj => ?_)
      by_cases e2 : j = i
      · subst e2; simpa using h
      · exact hb j (by omega)
theorem spec_at (l : List S39) (a : ByteArray) (hl : l.length ≤ 9223372036854775807) (k : Nat) (hk : l.length < k) : spec_l2At.f k l a = some (atOf l a) :=
  at_loop l a hl l.length 0 k (by omega) (by omega) hk (fun j hj => absurd hj (Nat.not_lt_zero _))

/-! ### Recipes -/
def refOk (l : List S39) (i : Int) (n : ByteArray) : Bool := !(endOf n == 0) || decide (i < atOf l n)
def okAt (l : List S39) (i : Nat) : Bool := phOk (rd_T39 l i) && (atOf l (rd_T39 l i).f0 == (i : Int)) && refOk l i (rd_T39 l i).f6 && refOk l i (rd_T39 l i).f7
def restOk (l : List S39) (i : Nat) : Bool := (List.range (l.length - i)).all fun j => okAt l (i + j)
def recOk (l : List S39) : Bool := inB (l.length : Int) 1 12 && restOk l 0
theorem restOk_end (l : List S39) (i : Nat) (h : l.length ≤ i) : restOk l i = true := by
  unfold restOk; rw [show l.length - i = 0 from by omega]; rfl
theorem restOk_step (l : List S39) (i : Nat) (h : i < l.length) : restOk l i = (okAt l i && restOk l (i + 1)) := by
  unfold restOk
  rw [show l.length - i = (l.length - (i + 1)) + 1 from by omega, List.range_succ_eq_map, List.all_cons, List.all_map]
  congr 1
  apply congrArg
  funext j
  simp only [Function.comp_apply, Nat.succ_eq_add_one]
  rw [show i + (j + 1) = i + 1 + j from by omega]
theorem recOk_at (l : List S39) (h : recOk l = true) (i : Nat) (hi : i < l.length) : okAt l i = true := by
  unfold recOk restOk at h
  simp only [Bool.and_eq_true, List.all_eq_true] at h
  have := h.2 i (List.mem_range.2 (by omega))
  simpa using this
theorem recOk_len (l : List S39) (h : recOk l = true) : 1 ≤ l.length ∧ l.length ≤ 12 := by
  unfold recOk at h
  simp only [Bool.and_eq_true, inB_iff] at h
  omega

theorem spec_ok_loop (l : List S39) (hl : l.length ≤ 12) (d : Nat) : ∀ (i k : Nat), i ≤ l.length → l.length - i = d → 2 * d + 20 ≤ k → spec_RecOk.l0 k l (i : Int) = some (restOk l i) := by
  induction d with
  | zero =>
    intro i k hi hd hk
    obtain ⟨k, rfl⟩ : ∃ m, k = m + 1 := ⟨k - 1, by omega⟩
    simp only [spec_RecOk.l0]
    rw [if_neg (by omega), restOk_end l i (by omega)]
  | succ d ih =>
    intro i k hi hd hk
    obtain ⟨k, rfl⟩ : ∃ m, k = m + 2 := ⟨k - 2, by omega⟩
    have hi' := ih (i + 1) k (by omega) (by omega) (by omega)
    have hw : wrap64 ((i : Int) + 1) = ((i + 1 : Nat) : Int) := by rw [wrap_id (by omega) (by omega)]; omega
    have hph : spec_RecPhaseOk.f (k + 1) (rd_T39 l i).f0 (rd_T39 l i).f1 (rd_T39 l i).f2 (rd_T39 l i).f3 (rd_T39 l i).f4 (rd_T39 l i).f5 (rd_T39 l i).f6 (rd_T39 l i).f7 = some (phOk (rd_T39 l i)) := by
      obtain ⟨m, hm⟩ : ∃ m, k + 1 = m + 9 := ⟨k - 8, by omega⟩
      rw [hm]; exact spec_ph _ m
    have hat : ∀ n, spec_l2At.f (k + 1) l n = some (atOf l n) := fun n => spec_at l n (by omega) _ (by omega)
    have hat' : ∀ n, spec_l2At.f k l n = some (atOf l n) := fun n => spec_at l n (by omega) _ (by omega)
    simp only [spec_RecOk.l0]
    rw [if_pos (by omega), if_pos (by omega), hph, Option.bind_some, hat, Option.bind_some, restOk_step l i (by omega)]
    unfold okAt
    cases h1 : phOk (rd_T39 l i)
    · rw [if_neg (by decide)]
      simp [spec_RecOk.j1]
    · rw [if_pos rfl]
      simp only [spec_RecOk.j1]
      by_cases h2 : atOf l (rd_T39 l i).f0 = (i : Int)
      · rw [if_neg (by simp [h2]), if_pos (by omega), if_pos (by omega), spec_end, Option.bind_some, spec_end, Option.bind_some, hat', hat', Option.bind_some, Option.bind_some, hw, hi']
        unfold refOk
        rw [show (atOf l (rd_T39 l i).f0 == (i : Int)) = true from beq_iff_eq.2 h2]
        by_cases e6 : endOf (rd_T39 l i).f6 = 0 <;> by_cases e7 : endOf (rd_T39 l i).f7 = 0 <;> by_cases a6 : atOf l (rd_T39 l i).f6 ≤ (i : Int) <;> by_cases a7 : atOf l (rd_T39 l i).f7 ≤ (i : Int) <;>
          simp [e6, e7, a6, a7, show (decide ((i : Int) < atOf l (rd_T39 l i).f6)) = !(decide (atOf l (rd_T39 l i).f6 ≤ (i : Int))) from by simp [← decide_not, Int.not_le], show (decide ((i : Int) < atOf l (rd_T39 l i).f7)) = !(decide (atOf l (rd_T39 l i).f7 ≤ (i : Int))) from by simp [← decide_not, Int.not_le]]
      · rw [if_pos (by simpa using h2), show (atOf l (rd_T39 l i).f0 == (i : Int)) = false from beq_eq_false_iff_ne.2 h2]
        simp
theorem spec_ok (l : List S39) (k : Nat) (hk : 44 ≤ k) : spec_RecOk.f k l = some (recOk l) := by
  unfold spec_RecOk.f recOk
  rw [spec_in, Option.bind_some]
  by_cases h : inB (l.length : Int) 1 12 = true
  · rw [if_pos h, h]
    have := inB_iff.1 h
    exact spec_ok_loop l (by omega) l.length 0 k (by omega) (by omega) (by omega)
  · rw [if_neg h, Bool.eq_false_iff.2 h]; rfl

/-- What stands behind a pair of names. -/
theorem impl_pair (l : List S39) (i : Nat) (x12 : Int) (k : Nat) (hk : 10 ≤ k) (n6 n7 : ByteArray) (r : Bool) (h0 : impl_RecOk.l0 k l l x12 (wrap64 ((i : Int) + 1)) = some r) :
    impl_RecOk.l1 (k + 3) l i l x12 i [n6, n7] 2 0 = some (refOk l i n6 && (refOk l i n7 && r)) := by
  have he : ∀ n m, 4 ≤ m → impl_RecEnd.f m n = some (endOf n) := fun n m hm => by
    obtain ⟨q, rfl⟩ : ∃ q, m = q + 4 := ⟨m - 4, by omega⟩
    exact impl_end n q
  have w1 : wrap64 (0 + 1) = 1 := wrap_id (by omega) (by omega)
  have w2 : wrap64 (1 + 1) = 2 := wrap_id (by omega) (by omega)
  have e0 : rdOf ByteArray.empty [n6, n7] 0 = n6 := rfl
  have e1 : rdOf ByteArray.empty [n6, n7] 1 = n7 := rfl
  simp only [impl_RecOk.l1, impl_at.f, w1, w2, e0, e1, List.length_cons, List.length_nil, he n6 (k + 2) (by omega), he n7 (k + 1) (by omega), Option.bind_some, h0]
  unfold refOk
  by_cases e6 : endOf n6 = 0 <;> by_cases e7 : endOf n7 = 0 <;> by_cases a6 : atOf l n6 ≤ (i : Int) <;> by_cases a7 : atOf l n7 ≤ (i : Int) <;>
    simp [show (endOf n6 == 0) = decide (endOf n6 = 0) from rfl, show (endOf n7 == 0) = decide (endOf n7 = 0) from rfl, e6, e7, a6, a7, show (decide ((i : Int) < atOf l n6)) = !(decide (atOf l n6 ≤ (i : Int))) from by simp [← decide_not, Int.not_le], show (decide ((i : Int) < atOf l n7)) = !(decide (atOf l n7 ≤ (i : Int))) from by simp [← decide_not, Int.not_le]]
theorem impl_ok_loop (l : List S39) (hl : l.length ≤ 12) (d : Nat) : ∀ (i k : Nat), i ≤ l.length → l.length - i = d → 5 * d + 20 ≤ k → impl_RecOk.l0 k l l (l.length : Int) (i : Int) = some (restOk l i) := by
  induction d with
  | zero =>
    intro i k hi hd hk
    obtain ⟨k, rfl⟩ : ∃ m, k = m + 1 := ⟨k - 1, by omega⟩
    simp only [impl_RecOk.l0]
    rw [if_neg (by omega), restOk_end l i (by omega)]
  | succ d ih =>
    intro i k hi hd hk
    obtain ⟨k, rfl⟩ : ∃ m, k = m + 5 := ⟨k - 5, by omega⟩
    have hi' := ih (i + 1) k (by omega) (by omega) (by omega)
    have hw : wrap64 ((i : Int) + 1) = ((i + 1 : Nat) : Int) := by rw [wrap_id (by omega) (by omega)]; omega
    have hph : impl_RecPhaseOk.f (k + 4) (rd_T39 l i).f0 (rd_T39 l i).f1 (rd_T39 l i).f2 (rd_T39 l i).f3 (rd_T39 l i).f4 (rd_T39 l i).f5 (rd_T39 l i).f6 (rd_T39 l i).f7 = some (phOk (rd_T39 l i)) := by
      obtain ⟨m, hm⟩ : ∃ m, k + 4 = m + 11 := ⟨k - 7, by omega⟩
      rw [hm]; exact impl_ph _ m
    have hp := impl_pair l i (l.length : Int) k (by omega) (rd_T39 l i).f6 (rd_T39 l i).f7 (restOk l (i + 1)) (by rw [hw]; exact hi')
    simp only [impl_RecOk.l0]
    rw [if_pos (by omega), if_pos (by omega), if_pos (by omega), hph, Option.bind_some, restOk_step l i (by omega)]
    unfold okAt
    cases h1 : phOk (rd_T39 l i)
    · rw [if_neg (by decide)]
      simp [impl_RecOk.j1]
    · rw [if_pos rfl]
      simp only [impl_RecOk.j1, impl_at.f, Option.bind_some]
      by_cases h2 : atOf l (rd_T39 l i).f0 = (i : Int)
      · rw [if_neg (by simp [h2])]
        simp only [List.length_cons, List.length_nil]
        rw [show (((0 + 1 + 1 : Nat) : Int)) = 2 from rfl, hp, show (atOf l (rd_T39 l i).f0 == (i : Int)) = true from beq_iff_eq.2 h2]
        simp only [Bool.true_and, Bool.and_assoc]
      · rw [if_pos (by simpa using h2), show (atOf l (rd_T39 l i).f0 == (i : Int)) = false from beq_eq_false_iff_ne.2 h2]
        simp
theorem impl_ok (l : List S39) (k : Nat) (hk : 80 ≤ k) : impl_RecOk.f k l = some (recOk l) := by
  unfold impl_RecOk.f recOk
  rw [impl_in', Option.bind_some]
  by_cases h : inB (l.length : Int) 1 12 = true
  · rw [if_pos h, h]
    have := inB_iff.1 h
    exact impl_ok_loop l (by omega) l.length 0 k (by omega) (by omega) (by omega)
  · rw [if_neg h, Bool.eq_false_iff.2 h]; rfl

end Go.Proofs.Ytdkologncoofdaa.P
-- Px7
namespace Go.Proofs.Ytdkologncoofdaa.P
open Go.RowKit Go.Proofs.YtdkologncoofdaaW.PrintWords Go.Proofs.YtdkologncoofdaaW.PrintLast Go.Proofs.YtdkologncoofdaaW.PrintMore
attribute [local go_sem] max2_int min2_int max_two min_two max_three min_three max_four min_four   -- for this text's walks alone
set_option linter.unusedVariables false
set_option linter.unusedSimpArgs false

/-! ### laws_szRecPhase: function 31 -/
def laws_szRecPhase.f (a0_0 : ByteArray) (a0_1 : Int) (a0_2 : ByteArray) (a0_3 : ByteArray) (a0_4 : Int) (a0_5 : Int) (a0_6 : ByteArray) (a0_7 : ByteArray) (a1 : Int) : Option (Int) := if (wrap64 (a1 - (a0_0.size : Int))) < 0 then (some (-1)) else (if (wrap64 ((wrap64 (a1 - (a0_0.size : Int))) - (a0_2.size : Int))) < 0 then (some (-1)) else (if (wrap64 ((wrap64 ((wrap64 (a1 - (a0_0.size : Int))) - (a0_2.size : Int))) - (a0_3.size : Int))) < 0 then (some (-1)) else (if (wrap64 ((wrap64 ((wrap64 ((wrap64 (a1 - (a0_0.size : Int))) - (a0_2.size : Int))) - (a0_3.size : Int))) - (a0_6.size : Int))) < 0 then (some (-1)) else (if (wrap64 ((wrap64 ((wrap64 ((wrap64 ((wrap64 (a1 - (a0_0.size : Int))) - (a0_2.size : Int))) - (a0_3.size : Int))) - (a0_6.size : Int))) - (a0_7.size : Int))) < 0 then (some (-1)) else (some (wrap64 ((wrap64 ((wrap64 ((wrap64 ((wrap64 (a1 - (a0_0.size : Int))) - (a0_2.size : Int))) - (a0_3.size : Int))) - (a0_6.size : Int))) - (a0_7.size : Int))))))))
set_option maxHeartbeats 8000000 in
set_option maxRecDepth 100000 in
theorem laws_szRecPhase.calls (a0_0 : ByteArray) (a0_1 : Int) (a0_2 : ByteArray) (a0_3 : ByteArray) (a0_4 : Int) (a0_5 : Int) (a0_6 : ByteArray) (a0_7 : ByteArray) (a1 : Int) (r : Int) (w : World) (h : laws_szRecPhase.f a0_0 a0_1 a0_2 a0_3 a0_4 a0_5 a0_6 a0_7 a1 = some r) :
  Calls Try.prog 31 #[.agg #[.string a0_0, .int .i64 a0_1, .string a0_2, .string a0_3, .int .i64 a0_4, .int .i64 a0_5, .string a0_6, .string a0_7], .int .i64 a1] w fun e w' => e = .returned (.int .i64 r) ∧ Below w.heap.size w w' := by
 have H := Aside0.mk h
 clear h
 go_enter Try.func31, Try.ntmps31
 go_wp2
 all_goals
  go_ret
  refine ⟨?_, by repeat (first | exact Below.refl _ _ | apply below_alloc | apply pw_below_drewN | apply below_drew1)⟩
  have h := H.out
  simp_all [laws_szRecPhase.f, ← Int.not_le]


/-! ### laws_szRecPhaseS: function 37 -/
def laws_szRecPhaseS.l0 : Nat → List (S48) → Int → Int → Option (Int)
 | 0, _, _, _ => none
 | k + 1, x0, x1, x5 => if x5 < (x0.length : Int) then (if 0 ≤ x5 then ((laws_szRecPhase.f ((rd_T48 x0 x5).f0) ((rd_T48 x0 x5).f1) ((rd_T48 x0 x5).f2) ((rd_T48 x0 x5).f3) ((rd_T48 x0 x5).f4) ((rd_T48 x0 x5).f5) ((rd_T48 x0 x5).f6) ((rd_T48 x0 x5).f7) x1).bind fun t349 => (if t349 < 0 then (some (-1)) else (laws_szRecPhaseS.l0 k x0 t349 (wrap64 (x5 + 1))))) else (none)) else (some x1)
def laws_szRecPhaseS.f (k : Nat) (l0 : List (S48)) (a1 : Int) : Option (Int) := if (wrap64 (a1 - (l0.length : Int))) < 0 then (some (-1)) else (laws_szRecPhaseS.l0 k l0 (wrap64 (a1 - (l0.length : Int))) 0)
theorem laws_szRecPhaseS.mono_l : ∀ k, (∀ y0 y1 y2, LeO (laws_szRecPhaseS.l0 k y0 y1 y2) (laws_szRecPhaseS.l0 (k + 1) y0 y1 y2))
 | 0 => fun _ _ _ r h => by simp [laws_szRecPhaseS.l0] at h
 | k + 1 => by
  have ih0 := laws_szRecPhaseS.mono_l k
  ·intro y0 y1 y2
   unfold laws_szRecPhaseS.l0
   repeat' first
   | (with_reducible exact ih0 _ _ _)
   | (with_reducible exact LeO.refl _)
   | (with_reducible exact LeO.none _)
   | (with_reducible refine LeO.ite ?_ ?_)
   | (with_reducible refine LeO.bind ?_ (fun _ => ?_))
   | exact ih0 _ _ _
   | exact LeO.none _
   | refine LeO.ite ?_ ?_
   | refine LeO.bind ?_ (fun _ => ?_)
theorem laws_szRecPhaseS.mono : ∀ a0 a1 k, LeO (laws_szRecPhaseS.f k a0 a1) (laws_szRecPhaseS.f (k + 1) a0 a1) := by
 intro a0 a1 k
 have ih0 := laws_szRecPhaseS.mono_l k
 unfold laws_szRecPhaseS.f
 repeat' first
   | (with_reducible exact ih0 _ _ _)
   | (with_reducible exact LeO.refl _)
   | (with_reducible exact LeO.none _)
   | (with_reducible refine LeO.ite ?_ ?_)
   | (with_reducible refine LeO.bind ?_ (fun _ => ?_))
   | exact ih0 _ _ _
   | exact LeO.none _
   | refine LeO.ite ?_ ?_
   | refine LeO.bind ?_ (fun _ => ?_)
set_option maxHeartbeats 8000000 in
set_option maxRecDepth 100000 in
theorem laws_szRecPhaseS.calls (k : Nat) (A0 : Option Addr) (c0 : Nat) (l0 : List (S48)) (a1 : Int) (r : Int) (w : World) (hr0 : Kd.C k48 w A0 l0.length l0) (hc0 : l0.length ≤ c0) (h : laws_szRecPhaseS.f k l0 a1 = some r) :
  Calls Try.prog 37 #[.slice A0 l0.length c0, .int .i64 a1] w fun e w' => e = .returned (.int .i64 r) ∧ Below w.heap.size w w' := by
 have hu48 := Try.underlying48
 have HR0 := Aside0.mk hr0
 have HC0 := Aside0.mk hc0
 clear hr0 hc0
 have HB := Aside0.mk (Below.refl w.heap.size w)
 have H : (if (wrap64 (a1 - (l0.length : Int))) < 0 then (some (-1)) else (laws_szRecPhaseS.l0 k l0 (wrap64 (a1 - (l0.length : Int))) 0)) = some r := h
 clear h
 by_cases c3 : (wrap64 (a1 - (l0.length : Int))) < 0
 ·rw [if_pos c3] at H
  have c3b0 : decide ((wrap64 (a1 - (l0.length : Int))) < 0) = true := decide_eq_true c3
  clear c3
  obtain rfl := Option.some.inj H
  go_enter Try.func37, Try.ntmps37
  go_wp2
  go_ret
  exact ⟨exq, bw HB.out⟩
 ·rw [if_neg c3] at H
  have c3b0 : decide ((wrap64 (a1 - (l0.length : Int))) < 0) = false := decide_eq_false c3
  clear c3
  have H' := Aside0.mk H
  clear H
  go_enter Try.func37, Try.ntmps37
  go_wp2
  go_loopg [1, 5] k (fun kq v1 v5 w' => ∃ (x1_1 : Int) (x5_1 : Int), v1 = .int .i64 x1_1 ∧ v5 = .int .i64 x5_1 ∧ Aside0 (laws_szRecPhaseS.l0 kq l0 x1_1 x5_1 = some r) ∧ Aside0 (kq ≤ k) ∧ Aside0 (Below w.heap.size w w'))
  case atStart => exact ⟨(wrap64 (a1 - (l0.length : Int))), (0), (by first | rfl | (simp; done) | (simp [*]; done)), (by first | rfl | (simp; done) | (simp [*]; done)), H', ⟨Nat.le_refl _⟩, (hbw HB)⟩
  case round =>
   clear H'
   obtain ⟨x1_1, x5_1, rfl, rfl, HA, HK1, HB⟩ := hrel
   cases gk with
   | zero => exact absurd HA.out (by simp [laws_szRecPhaseS.l0])
   | succ k1 =>
    have H := HA.out
    clear HA
    simp only [laws_szRecPhaseS.l0] at H
    by_cases c4 : x5_1 < (l0.length : Int)
    ·rw [if_pos c4] at H
     have c4b0 : decide (x5_1 < (l0.length : Int)) = true := decide_eq_true c4
     clear c4
     by_cases c5 : 0 ≤ x5_1
     ·rw [if_pos c5] at H
      have c5b0 : decide (0 ≤ x5_1) = true := decide_eq_true c5
      clear c5
      replace H := Option.bind_eq_some_iff.mp H
      obtain ⟨t349, A60, H⟩ := H
      try dsimp only at H
      have A6 := Aside0.mk A60
      clear A60
      by_cases c7 : t349 < 0
      ·rw [if_pos c7] at H
       have c7b0 : decide (t349 < 0) = true := decide_eq_true c7
       clear c7
       obtain rfl := Option.some.inj H
       have p348 : 0 ≤ (x5_1 : Int) := oda
       have q348 : x5_1 < (l0.length : Int) := oda
       obtain ⟨ad348, e348, hx348_0, hx348_1, hx348_2, hx348_3, hx348_4, hx348_5, hx348_6, hx348_7⟩ := at_T48 HR0.out x5_1 p348 q348
       cases e348
       replace hx348_0 := bcl HB hx348_0
       replace hx348_1 := bcl HB hx348_1
       replace hx348_2 := bcl HB hx348_2
       replace hx348_3 := bcl HB hx348_3
       replace hx348_4 := bcl HB hx348_4
       replace hx348_5 := bcl HB hx348_5
       replace hx348_6 := bcl HB hx348_6
       replace hx348_7 := bcl HB hx348_7
       replace p348 := eq_true p348
       replace q348 := eq_true q348
       go_wp2_with (first | ((with_reducible refine gate_callee (f := 31) rfl ?_); refine goesL_ (some 23) rfl rfl Try.func31 (by kernel_rfl) rfl #[.agg #[.string ((rd_T48 l0 x5_1).f0), .int .i64 ((rd_T48 l0 x5_1).f1), .string ((rd_T48 l0 x5_1).f2), .string ((rd_T48 l0 x5_1).f3), .int .i64 ((rd_T48 l0 x5_1).f4), .int .i64 ((rd_T48 l0 x5_1).f5), .string ((rd_T48 l0 x5_1).f6), .string ((rd_T48 l0 x5_1).f7)], .int .i64 x1_1] rfl mxp ?_; (with_reducible refine (laws_szRecPhase.calls ((rd_T48 l0 x5_1).f0) ((rd_T48 l0 x5_1).f1) ((rd_T48 l0 x5_1).f2) ((rd_T48 l0 x5_1).f3) ((rd_T48 l0 x5_1).f4) ((rd_T48 l0 x5_1).f5) ((rd_T48 l0 x5_1).f6) ((rd_T48 l0 x5_1).f7) x1_1 t349 _ A6.out).mono ?_); rintro e w8 ⟨rfl, hb⟩; refine ⟨_, rfl, ?_⟩; replace HB := bs HB hb; (try clear hb); (try clear hb2); (try clear hk); (try clear hi)))
       go_ret
       exact ⟨exq, bw HB.out⟩
      ·rw [if_neg c7] at H
       have c7b0 : decide (t349 < 0) = false := decide_eq_false c7
       clear c7
       have H' := Aside0.mk H
       clear H
       have p348 : 0 ≤ (x5_1 : Int) := oda
       have q348 : x5_1 < (l0.length : Int) := oda
       obtain ⟨ad348, e348, hx348_0, hx348_1, hx348_2, hx348_3, hx348_4, hx348_5, hx348_6, hx348_7⟩ := at_T48 HR0.out x5_1 p348 q348
       cases e348
       replace hx348_0 := bcl HB hx348_0
       replace hx348_1 := bcl HB hx348_1
       replace hx348_2 := bcl HB hx348_2
       replace hx348_3 := bcl HB hx348_3
       replace hx348_4 := bcl HB hx348_4
       replace hx348_5 := bcl HB hx348_5
       replace hx348_6 := bcl HB hx348_6
       replace hx348_7 := bcl HB hx348_7
       replace p348 := eq_true p348
       replace q348 := eq_true q348
       go_wp2_with (first | ((with_reducible refine gate_callee (f := 31) rfl ?_); refine goesL_ (some 23) rfl rfl Try.func31 (by kernel_rfl) rfl #[.agg #[.string ((rd_T48 l0 x5_1).f0), .int .i64 ((rd_T48 l0 x5_1).f1), .string ((rd_T48 l0 x5_1).f2), .string ((rd_T48 l0 x5_1).f3), .int .i64 ((rd_T48 l0 x5_1).f4), .int .i64 ((rd_T48 l0 x5_1).f5), .string ((rd_T48 l0 x5_1).f6), .string ((rd_T48 l0 x5_1).f7)], .int .i64 x1_1] rfl mxp ?_; (with_reducible refine (laws_szRecPhase.calls ((rd_T48 l0 x5_1).f0) ((rd_T48 l0 x5_1).f1) ((rd_T48 l0 x5_1).f2) ((rd_T48 l0 x5_1).f3) ((rd_T48 l0 x5_1).f4) ((rd_T48 l0 x5_1).f5) ((rd_T48 l0 x5_1).f6) ((rd_T48 l0 x5_1).f7) x1_1 t349 _ A6.out).mono ?_); rintro e w9 ⟨rfl, hb⟩; refine ⟨_, rfl, ?_⟩; replace HB := bs HB hb; (try clear hb); (try clear hb2); (try clear hk); (try clear hi)))
       go_roundg k1
       case measure => have := HK1.out; omega
       case rel => exact ⟨(t349), (wrap64 (x5_1 + 1)), (by first | rfl | (simp; done) | (simp [*]; done)), (by first | rfl | (simp; done) | (simp [*]; done)), H', ⟨by have := HK1.out; omega⟩, (hbw HB)⟩
     ·rw [if_neg c5] at H
      exact absurd H (by simp)
    ·rw [if_neg c4] at H
     have c4b0 : decide (x5_1 < (l0.length : Int)) = false := decide_eq_false c4
     clear c4
     obtain rfl := Option.some.inj H
     go_wp2
     go_ret
     exact ⟨exq, bw HB.out⟩


/-! ### laws_toRecPhase: function 33 -/
def laws_toRecPhase.f (a0_0 : ByteArray) (a0_1 : Int) (a0_2 : ByteArray) (a0_3 : ByteArray) (a0_4 : Int) (a0_5 : Int) (a0_6 : ByteArray) (a0_7 : ByteArray) : Option (ByteArray × Int × ByteArray × ByteArray × Int × Int × ByteArray × ByteArray) := some (a0_0, a0_1, a0_2, a0_3, a0_4, a0_5, a0_6, a0_7)
set_option maxHeartbeats 8000000 in
set_option maxRecDepth 100000 in
theorem laws_toRecPhase.calls (a0_0 : ByteArray) (a0_1 : Int) (a0_2 : ByteArray) (a0_3 : ByteArray) (a0_4 : Int) (a0_5 : Int) (a0_6 : ByteArray) (a0_7 : ByteArray) (r1 : ByteArray) (r2 : Int) (r3 : ByteArray) (r4 : ByteArray) (r5 : Int) (r6 : Int) (r7 : ByteArray) (r8 : ByteArray) (w : World) (h : laws_toRecPhase.f a0_0 a0_1 a0_2 a0_3 a0_4 a0_5 a0_6 a0_7 = some (r1, r2, r3, r4, r5, r6, r7, r8)) :
  Calls Try.prog 33 #[.agg #[.string a0_0, .int .i64 a0_1, .string a0_2, .string a0_3, .int .i64 a0_4, .int .i64 a0_5, .string a0_6, .string a0_7]] w fun e w' => e = .returned (.agg #[.string r1, .int .i64 r2, .string r3, .string r4, .int .i64 r5, .int .i64 r6, .string r7, .string r8]) ∧ Below w.heap.size w w' := by
 have hu48 := Try.underlying48
 have hu39 := Try.underlying39
 have HB := Aside0.mk (Below.refl w.heap.size w)
 have H : (some (a0_0, a0_1, a0_2, a0_3, a0_4, a0_5, a0_6, a0_7)) = some (r1, r2, r3, r4, r5, r6, r7, r8) := h
 clear h
 simp only [Option.some.injEq, Prod.mk.injEq] at H
 obtain ⟨rfl, rfl, rfl, rfl, rfl, rfl, rfl, rfl⟩ := H
 go_enter Try.func33, Try.ntmps33
 go_wp2_with (first | ((with_reducible refine gate_dst (N := 1) rfl ?_); refine box_event ?hg (N := 1) ?hd (cs := #[.string a0_0, .int .i64 a0_1, .string a0_2, .string a0_3, .int .i64 a0_4, .int .i64 a0_5, .string a0_6, .string a0_7]) (t := 48) ?hr ?_; (case hd => rfl); (case hg => rfl); (case hr => first | (go_simp; done) | (go_simp; rfl)); intro gb133 hg w2 hbox hb; have t_ := And.intro (bs HB hb) <| And.intro (Aside0.mk (hbox)) <| And.intro (gh hg HB) <| (gh hg HB); clear HB; obtain ⟨HB, BK133, GW133, GE133⟩ := t_; clear hb hbox hg) | ((with_reducible refine gate_dst (N := 2) rfl ?_); refine box_event ?hg (N := 2) ?hd (cs := #[.string (⟨#[]⟩ : ByteArray), .int .i64 0, .string (⟨#[]⟩ : ByteArray), .string (⟨#[]⟩ : ByteArray), .int .i64 0, .int .i64 0, .string (⟨#[]⟩ : ByteArray), .string (⟨#[]⟩ : ByteArray)]) (t := 39) ?hr ?_; (case hd => rfl); (case hg => rfl); (case hr => first | (go_simp; done) | (go_simp; rfl)); intro gb134 hg w3 hbox hb; have t_ := And.intro (up BK133 hb) <| And.intro (bs HB hb) <| And.intro (Aside0.mk (hbox)) <| And.intro (gh hg HB) <| And.intro (gh hg HB) <| And.intro (nlt' hg BK133) <| (ngt' hg BK133); clear BK133 HB; obtain ⟨BK133, HB, BK134, GW134, GE134, NB133_134, NB134_133⟩ := t_; clear hb hbox hg) | ((with_reducible refine gate_dst (N := 3) rfl ?_); refine box_event ?hg (N := 3) ?hd (cs := #[.string (⟨#[]⟩ : ByteArray), .int .i64 0, .string (⟨#[]⟩ : ByteArray), .string (⟨#[]⟩ : ByteArray), .int .i64 0, .int .i64 0, .string (⟨#[]⟩ : ByteArray), .string (⟨#[]⟩ : ByteArray)]) (t := 39) ?hr ?_; (case hd => rfl); (case hg => rfl); (case hr => first | (go_simp; done) | (go_simp; rfl)); intro gb135 hg w4 hbox hb; have t_ := And.intro (up BK133 hb) <| And.intro (up BK134 hb) <| And.intro (bs HB hb) <| And.intro (Aside0.mk (hbox)) <| And.intro (gh hg HB) <| And.intro (gh hg HB) <| And.intro (nlt' hg BK133) <| And.intro (ngt' hg BK133) <| And.intro (nlt' hg BK134) <| (ngt' hg BK134); clear BK133 BK134 HB; obtain ⟨BK133, BK134, HB, BK135, GW135, GE135, NB133_135, NB135_133, NB134_135, NB135_134⟩ := t_; clear hb hbox hg; have hnb5 := NB133_134.out; have hnc5 := NB134_133.out; have hnb6 := NB133_135.out; have hnc6 := NB135_133.out; have hcz7_0 := b0 BK133; have hcz7_1 := b1 BK133; have hcz7_2 := b2 BK133; have hcz7_3 := b3 BK133; have hcz7_4 := b4 BK133; have hcz7_5 := b5 BK133; have hcz7_6 := b6 BK133; have hcz7_7 := b7 BK133; have hfz7_0 := fz BK133 0; have hfz7_1 := fz BK133 1; have hfz7_2 := fz BK133 2; have hfz7_3 := fz BK133 3; have hfz7_4 := fz BK133 4; have hfz7_5 := fz BK133 5; have hfz7_6 := fz BK133 6; have hfz7_7 := fz BK133 7; have hnb8 := NB135_134.out; have hnc8 := NB134_135.out; have hcz9_0 := b0 BK135; have hcz9_1 := b1 BK135; have hcz9_2 := b2 BK135; have hcz9_3 := b3 BK135; have hcz9_4 := b4 BK135; have hcz9_5 := b5 BK135; have hcz9_6 := b6 BK135; have hcz9_7 := b7 BK135; have hfz9_0 := fz BK135 0; have hfz9_1 := fz BK135 1; have hfz9_2 := fz BK135 2; have hfz9_3 := fz BK135 3; have hfz9_4 := fz BK135 4; have hfz9_5 := fz BK135 5; have hfz9_6 := fz BK135 6; have hfz9_7 := fz BK135 7; have hcz10_0 := b0 BK134; have hcz10_1 := b1 BK134; have hcz10_2 := b2 BK134; have hcz10_3 := b3 BK134; have hcz10_4 := b4 BK134; have hcz10_5 := b5 BK134; have hcz10_6 := b6 BK134; have hcz10_7 := b7 BK134; have hfz10_0 := fz BK134 0; have hfz10_1 := fz BK134 1; have hfz10_2 := fz BK134 2; have hfz10_3 := fz BK134 3; have hfz10_4 := fz BK134 4; have hfz10_5 := fz BK134 5; have hfz10_6 := fz BK134 6; have hfz10_7 := fz BK134 7))
 refine bodyPost_ret (results_cell_row rfl _ _ gb134 39 #[.string a0_0, .int .i64 a0_1, .string a0_2, .string a0_3, .int .i64 a0_4, .int .i64 a0_5, .string a0_6, .string a0_7] (0, 0) _ rfl (by refine bx ?_; refine blk_put (cs := #[.string a0_0, .int .i64 a0_1, .string a0_2, .string a0_3, .int .i64 a0_4, .int .i64 a0_5, .string a0_6, .string (⟨#[]⟩ : ByteArray)]) ?_ 7 _ rfl; refine bx ?_; refine blk_put (cs := #[.string a0_0, .int .i64 a0_1, .string a0_2, .string a0_3, .int .i64 a0_4, .int .i64 a0_5, .string (⟨#[]⟩ : ByteArray), .string (⟨#[]⟩ : ByteArray)]) ?_ 6 _ rfl; refine bx ?_; refine blk_put (cs := #[.string a0_0, .int .i64 a0_1, .string a0_2, .string a0_3, .int .i64 a0_4, .int .i64 0, .string (⟨#[]⟩ : ByteArray), .string (⟨#[]⟩ : ByteArray)]) ?_ 5 _ rfl; refine bx ?_; refine blk_put (cs := #[.string a0_0, .int .i64 a0_1, .string a0_2, .string a0_3, .int .i64 0, .int .i64 0, .string (⟨#[]⟩ : ByteArray), .string (⟨#[]⟩ : ByteArray)]) ?_ 4 _ rfl; refine bx ?_; refine blk_put (cs := #[.string a0_0, .int .i64 a0_1, .string a0_2, .string (⟨#[]⟩ : ByteArray), .int .i64 0, .int .i64 0, .string (⟨#[]⟩ : ByteArray), .string (⟨#[]⟩ : ByteArray)]) ?_ 3 _ rfl; refine bx ?_; refine blk_put (cs := #[.string a0_0, .int .i64 a0_1, .string (⟨#[]⟩ : ByteArray), .string (⟨#[]⟩ : ByteArray), .int .i64 0, .int .i64 0, .string (⟨#[]⟩ : ByteArray), .string (⟨#[]⟩ : ByteArray)]) ?_ 2 _ rfl; refine bx ?_; refine blk_put (cs := #[.string a0_0, .int .i64 0, .string (⟨#[]⟩ : ByteArray), .string (⟨#[]⟩ : ByteArray), .int .i64 0, .int .i64 0, .string (⟨#[]⟩ : ByteArray), .string (⟨#[]⟩ : ByteArray)]) ?_ 1 _ rfl; refine bx ?_; refine blk_put (cs := #[.string (⟨#[]⟩ : ByteArray), .int .i64 0, .string (⟨#[]⟩ : ByteArray), .string (⟨#[]⟩ : ByteArray), .int .i64 0, .int .i64 0, .string (⟨#[]⟩ : ByteArray), .string (⟨#[]⟩ : ByteArray)]) ?_ 0 _ rfl; refine bx ?_; refine blk_far ?_ NB134_135.out _; refine bx ?_; refine blk_far ?_ NB134_135.out _; refine bx ?_; refine blk_far ?_ NB134_135.out _; refine bx ?_; refine blk_far ?_ NB134_135.out _; refine bx ?_; refine blk_far ?_ NB134_135.out _; refine bx ?_; refine blk_far ?_ NB134_135.out _; refine bx ?_; refine blk_far ?_ NB134_135.out _; refine bx ?_; refine blk_far ?_ NB134_135.out _; refine bx ?_; exact BK134.out) Try.underlying39 rfl (by kernel_rfl)) rfl ?_
 exact ⟨exq, bw HB.out⟩


/-! ### laws_toRecPhaseS: function 38 -/
def laws_toRecPhaseS.l0 : Nat → List (S48) → List (S39) → Int → Option ((List (S39)))
 | 0, _, _, _ => none
 | k + 1, x0, x3, x4 => if x4 < (x0.length : Int) then (if 0 ≤ x4 then ((laws_toRecPhase.f ((rd_T48 x0 x4).f0) ((rd_T48 x0 x4).f1) ((rd_T48 x0 x4).f2) ((rd_T48 x0 x4).f3) ((rd_T48 x0 x4).f4) ((rd_T48 x0 x4).f5) ((rd_T48 x0 x4).f6) ((rd_T48 x0 x4).f7)).bind fun bt354 => (if x4 < (x3.length : Int) then (laws_toRecPhaseS.l0 k x0 (x3.set (x4 : Int).toNat (⟨bt354.1, bt354.2.1, bt354.2.2.1, bt354.2.2.2.1, bt354.2.2.2.2.1, bt354.2.2.2.2.2.1, bt354.2.2.2.2.2.2.1, bt354.2.2.2.2.2.2.2⟩ : S39)) (wrap64 (x4 + 1))) else (none))) else (none)) else (some x3)
def laws_toRecPhaseS.f (k : Nat) (l0 : List (S48)) : Option ((List (S39))) := if 0 ≤ (l0.length : Int) then (if ((l0.length : Int) : Int).toNat ≤ 2706490160679 then (laws_toRecPhaseS.l0 k l0 (List.replicate ((l0.length : Int) : Int).toNat z39) 0) else (none)) else (none)
theorem laws_toRecPhaseS.mono_l : ∀ k, (∀ y0 y1 y2, LeO (laws_toRecPhaseS.l0 k y0 y1 y2) (laws_toRecPhaseS.l0 (k + 1) y0 y1 y2))
 | 0 => fun _ _ _ r h => by simp [laws_toRecPhaseS.l0] at h
 | k + 1 => by
  have ih0 := laws_toRecPhaseS.mono_l k
  ·intro y0 y1 y2
   unfold laws_toRecPhaseS.l0
   repeat' first
   | (with_reducible exact ih0 _ _ _)
   | (with_reducible exact LeO.refl _)
   | (with_reducible exact LeO.none _)
   | (with_reducible refine LeO.ite ?_ ?_)
   | (with_reducible refine LeO.bind ?_ (fun _ => ?_))
   | exact ih0 _ _ _
   | exact LeO.none _
   | refine LeO.ite ?_ ?_
   | refine LeO.bind ?_ (fun _ => ?_)
theorem laws_toRecPhaseS.mono : ∀ a0 k, LeO (laws_toRecPhaseS.f k a0) (laws_toRecPhaseS.f (k + 1) a0) := by
 intro a0 k
 have ih0 := laws_toRecPhaseS.mono_l k
 unfold laws_toRecPhaseS.f
 repeat' first
   | (with_reducible exact ih0 _ _ _)
   | (with_reducible exact LeO.refl _)
   | (with_reducible exact LeO.none _)
   | (with_reducible refine LeO.ite ?_ ?_)
   | (with_reducible refine LeO.bind ?_ (fun _ => ?_))
   | exact ih0 _ _ _
   | exact LeO.none _
   | refine LeO.ite ?_ ?_
   | refine LeO.bind ?_ (fun _ => ?_)
set_option maxHeartbeats 8000000 in
set_option maxRecDepth 100000 in
theorem laws_toRecPhaseS.calls (k : Nat) (A0 : Option Addr) (c0 : Nat) (l0 : List (S48)) (r : List (S39)) (w : World) (hr0 : Kd.C k48 w A0 l0.length l0) (hc0 : l0.length ≤ c0) (h : laws_toRecPhaseS.f k l0 = some r) :
  Calls Try.prog 38 #[.slice A0 l0.length c0] w fun e w' => ∃ v0_ : Value, e = .returned (v0_) ∧ Kd.R k39 39 w' w.heap.size (fun _ => True) v0_ r ∧ Below w.heap.size w w' := by
 have hu48 := Try.underlying48
 have hu39 := Try.underlying39
 have HR0 := Aside0.mk hr0
 have HC0 := Aside0.mk hc0
 clear hr0 hc0
 have HB := Aside0.mk (Below.refl w.heap.size w)
 have H : (if 0 ≤ (l0.length : Int) then (if ((l0.length : Int) : Int).toNat ≤ 2706490160679 then (laws_toRecPhaseS.l0 k l0 (List.replicate ((l0.length : Int) : Int).toNat z39) 0) else (none)) else (none)) = some r := h
 clear h
 by_cases c2 : 0 ≤ (l0.length : Int)
 ·rw [if_pos c2] at H
  have c2b0 := eq_true c2
  have c2b1 : decide (0 ≤ (l0.length : Int)) = true := decide_eq_true c2
  clear c2
  by_cases c3 : ((l0.length : Int) : Int).toNat ≤ 2706490160679
  ·rw [if_pos c3] at H
   have c3b0 := eq_true c3
   have c3b1 : decide (((l0.length : Int) : Int).toNat ≤ 2706490160679) = true := decide_eq_true c3
   clear c3
   obtain ⟨y350, hy350⟩ : ∃ y_ : List (S39), y_ = (List.replicate ((l0.length : Int) : Int).toNat z39) := ⟨_, rfl⟩
   replace H : (laws_toRecPhaseS.l0 k l0 y350 0) = some r := rpl H hy350
   have Ny350 := Aside0.mk hy350
   clear hy350
   have H' := Aside0.mk H
   clear H
   go_enter Try.func38, Try.ntmps38
   go_wp2_with (first | ((with_reducible refine gate_dst (N := 7) rfl ?_); refine Kd.R_make k39 _ 39 rfl (N := 7) rfl 26 _ _ rfl (l0.length : Int) rfl rfl Try.underlying26 (.agg #[(.string ⟨#[]⟩), (.int .i64 0), (.string ⟨#[]⟩), (.string ⟨#[]⟩), (.int .i64 0), (.int .i64 0), (.string ⟨#[]⟩), (.string ⟨#[]⟩)]) 104 info39 rfl (by decide) (by omega) z39 (ok := fun _ => True) (okp := fun _ => True) (k39_mkM _ _ _ z39 ) (fun _ hk => hk) trivial (oda) (Nat.le_trans (Nat.mul_le_mul_right _ (oda : (l0.length : Int).toNat ≤ 2706490160679)) (by omega)) (Below.refl _ _) (Nat.le_refl _) ?_; intro v351 w4 ho5 hb hg_ hnew_; clear hg_ hnew_; (first | rw [← Ny350.out] at ho5 | (simp only [Int.reduceToNat] at ho5; rw [← Ny350.out] at ho5)); have t_ := And.intro (Aside0.mk (Kd.R_lower ho5 (below_size (bw HB.out)))) <| (bs HB hb); clear HB; obtain ⟨HO352, HB⟩ := t_; clear hb ho5))
   go_loopg [4] k (fun kq v4 w' => ∃ (x3_1 : List (S39)) (x4_1 : Int), v4 = .int .i64 x4_1 ∧ Aside0 (laws_toRecPhaseS.l0 kq l0 x3_1 x4_1 = some r) ∧ Aside0 (kq ≤ k) ∧ Aside0 (Kd.R k39 39 w' w.heap.size (fun _ => True) v351 x3_1) ∧ Aside0 (Below w.heap.size w w'))
   case atStart => exact ⟨(y350), (0), (by first | rfl | (simp; done) | (simp [*]; done)), H', ⟨Nat.le_refl _⟩, ⟨by refine rx ?_; exact HO352.out⟩, (hbw HB)⟩
   case round =>
    clear H'
    obtain ⟨x3_1, x4_1, rfl, HA, HK1, HO_3, HB⟩ := hrel
    cases gk with
    | zero => exact absurd HA.out (by simp [laws_toRecPhaseS.l0])
    | succ k1 =>
     have H := HA.out
     clear HA
     simp only [laws_toRecPhaseS.l0] at H
     by_cases c6 : x4_1 < (l0.length : Int)
     ·rw [if_pos c6] at H
      have c6b0 : decide (x4_1 < (l0.length : Int)) = true := decide_eq_true c6
      clear c6
      by_cases c7 : 0 ≤ x4_1
      ·rw [if_pos c7] at H
       have c7b0 : decide (0 ≤ x4_1) = true := decide_eq_true c7
       clear c7
       replace H := Option.bind_eq_some_iff.mp H
       obtain ⟨⟨t354, t355, t356, t357, t358, t359, t360, t361⟩, A80, H⟩ := H
       try dsimp only at H
       have A8 := Aside0.mk A80
       clear A80
       by_cases c9 : x4_1 < (x3_1.length : Int)
       ·rw [if_pos c9] at H
        have c9b0 : decide (x4_1 < (x3_1.length : Int)) = true := decide_eq_true c9
        clear c9
        obtain ⟨y362, hy362⟩ : ∃ y_ : List (S39), y_ = (x3_1.set (x4_1 : Int).toNat (⟨t354, t355, t356, t357, t358, t359, t360, t361⟩ : S39)) := ⟨_, rfl⟩
        replace H : (laws_toRecPhaseS.l0 k1 l0 y362 (wrap64 (x4_1 + 1))) = some r := rpl H hy362
        have Ny362 := Aside0.mk hy362
        clear hy362
        have H' := Aside0.mk H
        clear H
        have p353 : 0 ≤ (x4_1 : Int) := oda
        have q353 : x4_1 < (l0.length : Int) := oda
        obtain ⟨ad353, e353, hx353_0, hx353_1, hx353_2, hx353_3, hx353_4, hx353_5, hx353_6, hx353_7⟩ := at_T48 HR0.out x4_1 p353 q353
        cases e353
        replace hx353_0 := bcl HB hx353_0
        replace hx353_1 := bcl HB hx353_1
        replace hx353_2 := bcl HB hx353_2
        replace hx353_3 := bcl HB hx353_3
        replace hx353_4 := bcl HB hx353_4
        replace hx353_5 := bcl HB hx353_5
        replace hx353_6 := bcl HB hx353_6
        replace hx353_7 := bcl HB hx353_7
        replace p353 := eq_true p353
        replace q353 := eq_true q353
        go_wp2_with (first | ((with_reducible refine gate_callee (f := 33) rfl ?_); refine goesL_ (some 20) rfl rfl Try.func33 (by kernel_rfl) rfl #[.agg #[.string ((rd_T48 l0 x4_1).f0), .int .i64 ((rd_T48 l0 x4_1).f1), .string ((rd_T48 l0 x4_1).f2), .string ((rd_T48 l0 x4_1).f3), .int .i64 ((rd_T48 l0 x4_1).f4), .int .i64 ((rd_T48 l0 x4_1).f5), .string ((rd_T48 l0 x4_1).f6), .string ((rd_T48 l0 x4_1).f7)]] rfl mxp ?_; (with_reducible refine (laws_toRecPhase.calls ((rd_T48 l0 x4_1).f0) ((rd_T48 l0 x4_1).f1) ((rd_T48 l0 x4_1).f2) ((rd_T48 l0 x4_1).f3) ((rd_T48 l0 x4_1).f4) ((rd_T48 l0 x4_1).f5) ((rd_T48 l0 x4_1).f6) ((rd_T48 l0 x4_1).f7) t354 t355 t356 t357 t358 t359 t360 t361 _ A8.out).mono ?_); rintro e w11 ⟨rfl, hb⟩; refine ⟨_, rfl, ?_⟩; have t_ := And.intro (Aside0.mk (Kd.R_below (rx HO_3.out) hb)) <| (bs HB hb); clear HO_3 HB; obtain ⟨HO_3, HB⟩ := t_; (try clear hb); (try clear hb2); (try clear hk); (try clear hi); have p10 : 0 ≤ (x4_1 : Int) := oda; have q10 : (x4_1 : Int) < ((x3_1.length : Int) : Int) := oda; obtain ⟨go10, co10, eo10, gb10, gl10, cl10, HG10⟩ := Kd.R_form HO_3.out (by omega); (first | cases eo10 | (injection eo10 with ea_ en_ ec_; (first | subst ea_ | (injection ea_ with ea_; subst ea_)); subst ec_; clear en_)); have GB10 := Aside0.mk gb10; have GG10 := Aside0.mk HG10; clear gb10 gl10 HG10; obtain ⟨ce10, hcl10, hM10, hcc10, hfr10⟩ := Kd.R_elem HO_3.out z39 (x4_1 : Int) p10 q10; obtain rfl := k39_openM hM10; have hx10_0 : w11.cell? ⟨go10, (x4_1 : Int).toNat * 8, none⟩ = some (.string ((rd_T39 x3_1 x4_1).f0)) := hcc10 0 _ rfl; have hx10_1 : w11.cell? ⟨go10, (x4_1 : Int).toNat * 8 + 1, none⟩ = some (.int .i64 ((rd_T39 x3_1 x4_1).f1)) := hcc10 1 _ rfl; have hx10_2 : w11.cell? ⟨go10, (x4_1 : Int).toNat * 8 + 2, none⟩ = some (.string ((rd_T39 x3_1 x4_1).f2)) := hcc10 2 _ rfl; have hx10_3 : w11.cell? ⟨go10, (x4_1 : Int).toNat * 8 + 3, none⟩ = some (.string ((rd_T39 x3_1 x4_1).f3)) := hcc10 3 _ rfl; have hx10_4 : w11.cell? ⟨go10, (x4_1 : Int).toNat * 8 + 4, none⟩ = some (.int .i64 ((rd_T39 x3_1 x4_1).f4)) := hcc10 4 _ rfl; have hx10_5 : w11.cell? ⟨go10, (x4_1 : Int).toNat * 8 + 5, none⟩ = some (.int .i64 ((rd_T39 x3_1 x4_1).f5)) := hcc10 5 _ rfl; have hx10_6 : w11.cell? ⟨go10, (x4_1 : Int).toNat * 8 + 6, none⟩ = some (.string ((rd_T39 x3_1 x4_1).f6)) := hcc10 6 _ rfl; have hx10_7 : w11.cell? ⟨go10, (x4_1 : Int).toNat * 8 + 7, none⟩ = some (.string ((rd_T39 x3_1 x4_1).f7)) := hcc10 7 _ rfl; have hf10_0 : w11.frozen? ⟨go10, (x4_1 : Int).toNat * 8, none⟩ = false := hfr10 0; have hf10_1 : w11.frozen? ⟨go10, (x4_1 : Int).toNat * 8 + 1, none⟩ = false := hfr10 1; have hf10_2 : w11.frozen? ⟨go10, (x4_1 : Int).toNat * 8 + 2, none⟩ = false := hfr10 2; have hf10_3 : w11.frozen? ⟨go10, (x4_1 : Int).toNat * 8 + 3, none⟩ = false := hfr10 3; have hf10_4 : w11.frozen? ⟨go10, (x4_1 : Int).toNat * 8 + 4, none⟩ = false := hfr10 4; have hf10_5 : w11.frozen? ⟨go10, (x4_1 : Int).toNat * 8 + 5, none⟩ = false := hfr10 5; have hf10_6 : w11.frozen? ⟨go10, (x4_1 : Int).toNat * 8 + 6, none⟩ = false := hfr10 6; have hf10_7 : w11.frozen? ⟨go10, (x4_1 : Int).toNat * 8 + 7, none⟩ = false := hfr10 7; clear hcl10 hcc10 hfr10 hM10; replace p10 := eq_true p10; replace q10 := eq_true q10; have HX12 := Aside0.mk (show Kd.R k39 39 w11 w.heap.size (fun _ => True) (.slice (some ⟨go10, 0, none⟩) x3_1.length co10) x3_1 from (rx HO_3.out)); obtain ⟨ce12, hcl12, hM12, hcc12, hfr12⟩ := Kd.R_elem HX12.out z39 (x4_1 : Int) (oda) (by have h_ : (x4_1 : Int) < ((x3_1.length : Int) : Int) := oda; first | exact h_ | (have e_ := (Kd.R_reads' HO_3.out).1; omega) | simpa using h_); obtain rfl := k39_openM hM12; have HP12 := Kd.R_seg HX12.out (x4_1 : Int) (oda) (by have h_ : (x4_1 : Int) < ((x3_1.length : Int) : Int) := oda; first | exact h_ | (have e_ := (Kd.R_reads' HO_3.out).1; omega) | simpa using h_) (seg := [.string t354, .int .i64 t355, .string t356, .string t357, .int .i64 t358, .int .i64 t359, .string t360, .string t361]) (j := 0) hcl12 hcc12 (show 8 ≤ 8 from by decide) (x' := (⟨t354, t355, t356, t357, t358, t359, t360, t361⟩ : S39)) (k39_mkM _ _ _ (⟨t354, t355, t356, t357, t358, t359, t360, t361⟩ : S39) ) (fun _ hk => hk); have hx12_0 := hcc12 0 _ rfl; (try simp only [show (k39).sz = 8 from rfl, Nat.mul_one, Nat.add_zero] at hx12_0); have hf12_0 := hfr12 0; (try simp only [show (k39).sz = 8 from rfl, Nat.mul_one, Nat.add_zero] at hf12_0); have hx12_1 := hcc12 1 _ rfl; (try simp only [show (k39).sz = 8 from rfl, Nat.mul_one, Nat.add_zero] at hx12_1); have hf12_1 := hfr12 1; (try simp only [show (k39).sz = 8 from rfl, Nat.mul_one, Nat.add_zero] at hf12_1); have hx12_2 := hcc12 2 _ rfl; (try simp only [show (k39).sz = 8 from rfl, Nat.mul_one, Nat.add_zero] at hx12_2); have hf12_2 := hfr12 2; (try simp only [show (k39).sz = 8 from rfl, Nat.mul_one, Nat.add_zero] at hf12_2); have hx12_3 := hcc12 3 _ rfl; (try simp only [show (k39).sz = 8 from rfl, Nat.mul_one, Nat.add_zero] at hx12_3); have hf12_3 := hfr12 3; (try simp only [show (k39).sz = 8 from rfl, Nat.mul_one, Nat.add_zero] at hf12_3); have hx12_4 := hcc12 4 _ rfl; (try simp only [show (k39).sz = 8 from rfl, Nat.mul_one, Nat.add_zero] at hx12_4); have hf12_4 := hfr12 4; (try simp only [show (k39).sz = 8 from rfl, Nat.mul_one, Nat.add_zero] at hf12_4); have hx12_5 := hcc12 5 _ rfl; (try simp only [show (k39).sz = 8 from rfl, Nat.mul_one, Nat.add_zero] at hx12_5); have hf12_5 := hfr12 5; (try simp only [show (k39).sz = 8 from rfl, Nat.mul_one, Nat.add_zero] at hf12_5); have hx12_6 := hcc12 6 _ rfl; (try simp only [show (k39).sz = 8 from rfl, Nat.mul_one, Nat.add_zero] at hx12_6); have hf12_6 := hfr12 6; (try simp only [show (k39).sz = 8 from rfl, Nat.mul_one, Nat.add_zero] at hf12_6); have hx12_7 := hcc12 7 _ rfl; (try simp only [show (k39).sz = 8 from rfl, Nat.mul_one, Nat.add_zero] at hx12_7); have hf12_7 := hfr12 7; (try simp only [show (k39).sz = 8 from rfl, Nat.mul_one, Nat.add_zero] at hf12_7); clear hcl12 hcc12 hfr12 hM12) | ((with_reducible refine gate_store (t := 39) (p := 21) rfl ?_); refine store_event (t := 39) (p := 21) (v := ?vo_w13) (w1 := ((((((((w11.setCell ⟨go10, (x4_1 : Int).toNat * 8, none⟩ (.string t354)).setCell ⟨go10, (x4_1 : Int).toNat * 8 + 1, none⟩ (.int .i64 t355)).setCell ⟨go10, (x4_1 : Int).toNat * 8 + 2, none⟩ (.string t356)).setCell ⟨go10, (x4_1 : Int).toNat * 8 + 3, none⟩ (.string t357)).setCell ⟨go10, (x4_1 : Int).toNat * 8 + 4, none⟩ (.int .i64 t358)).setCell ⟨go10, (x4_1 : Int).toNat * 8 + 5, none⟩ (.int .i64 t359)).setCell ⟨go10, (x4_1 : Int).toNat * 8 + 6, none⟩ (.string t360)).setCell ⟨go10, (x4_1 : Int).toNat * 8 + 7, none⟩ (.string t361))) ?hg ?ho ?hn ?hr ?_; (case ho => rfl); (case hg => rfl); (case hn => rfl); (case hr => first | (go_simp; done) | (go_simp; rfl)); intro w13 hw; have hg : w11.grownBy w13 (some go10) := (by rw [hw]; exact HP12.2); have hp_ : Kd.R k39 39 w13 w.heap.size (fun _ => True) (.slice (some ⟨go10, 0, none⟩) x3_1.length co10) y362 := (by rw [hw, Ny362.out]; exact HP12.1); clear HP12; have t_ := And.intro (Aside0.mk (hp_)) <| (Aside0.mk ((by rw [hw]; exact below_set (below_set (below_set (below_set (below_set (below_set (below_set (below_set (HB.out) GB10.out) GB10.out) GB10.out) GB10.out) GB10.out) GB10.out) GB10.out) GB10.out : Below w.heap.size w w13))); clear HO_3 HB; obtain ⟨HO_3, HB⟩ := t_; clear hg hw hp_))
        go_roundg k1
        case measure => have := HK1.out; omega
        case rel => exact ⟨(y362), (wrap64 (x4_1 + 1)), (by first | rfl | (simp; done) | (simp [*]; done)), H', ⟨by have := HK1.out; omega⟩, ⟨by refine rx ?_; exact HO_3.out⟩, (hbw HB)⟩
       ·rw [if_neg c9] at H
        exact absurd H (by simp)
      ·rw [if_neg c7] at H
       exact absurd H (by simp)
     ·rw [if_neg c6] at H
      have c6b0 : decide (x4_1 < (l0.length : Int)) = false := decide_eq_false c6
      clear c6
      obtain rfl := Option.some.inj H
      go_wp2
      go_ret
      exact ⟨_, exq, by refine rx ?_; exact HO_3.out, bw HB.out⟩
  ·rw [if_neg c3] at H
   exact absurd H (by simp)
 ·rw [if_neg c2] at H
  exact absurd H (by simp)

end Go.Proofs.Ytdkologncoofdaa.P
-- Px33
namespace Go.Proofs.Ytdkologncoofdaa.P
open Go.RowKit Go.Proofs.YtdkologncoofdaaW.PrintWords Go.Proofs.YtdkologncoofdaaW.PrintLast Go.Proofs.YtdkologncoofdaaW.PrintMore
attribute [local go_sem] max2_int min2_int max_two min_two max_three min_three max_four min_four
set_option linter.unusedVariables false
def laws_eqRecPhase.f (a0_0 : ByteArray) (a0_1 : Int) (a0_2 : ByteArray) (a0_3 : ByteArray) (a0_4 : Int) (a0_5 : Int) (a0_6 : ByteArray) (a0_7 : ByteArray) (a1_0 : ByteArray) (a1_1 : Int) (a1_2 : ByteArray) (a1_3 : ByteArray) (a1_4 : Int) (a1_5 : Int) (a1_6 : ByteArray) (a1_7 : ByteArray) : Option (Bool) := if a0_0.toList = a1_0.toList then (if a0_1 = a1_1 then (if a0_2.toList = a1_2.toList then (if a0_3.toList = a1_3.toList then (if a0_4 = a1_4 then (if a0_5 = a1_5 then (if a0_6.toList = a1_6.toList then (if a0_7.toList = a1_7.toList then (some true) else (some false)) else (some false)) else (some false)) else (some false)) else (some false)) else (some false)) else (some false)) else (some false)
set_option maxHeartbeats 8000000 in
set_option maxRecDepth 100000 in
theorem laws_eqRecPhase.calls (a0_0 : ByteArray) (a0_1 : Int) (a0_2 : ByteArray) (a0_3 : ByteArray) (a0_4 : Int) (a0_5 : Int) (a0_6 : ByteArray) (a0_7 : ByteArray) (a1_0 : ByteArray) (a1_1 : Int) (a1_2 : ByteArray) (a1_3 : ByteArray) (a1_4 : Int) (a1_5 : Int) (a1_6 : ByteArray) (a1_7 : ByteArray) (r : Bool) (w : World) (h : laws_eqRecPhase.f a0_0 a0_1 a0_2 a0_3 a0_4 a0_5 a0_6 a0_7 a1_0 a1_1 a1_2 a1_3 a1_4 a1_5 a1_6 a1_7 = some r) :
    Calls Try.prog 83 #[.agg #[.string a0_0, .int .i64 a0_1, .string a0_2, .string a0_3, .int .i64 a0_4, .int .i64 a0_5, .string a0_6, .string a0_7], .agg #[.string a1_0, .int .i64 a1_1, .string a1_2, .string a1_3, .int .i64 a1_4, .int .i64 a1_5, .string a1_6, .string a1_7]] w fun e w' => e = .returned (.bool r) ∧ Below w.heap.size w w' := by
  have H := Aside0.mk h
  clear h
  go_enter Try.func83, Try.ntmps83
  go_wp2
  all_goals
    go_ret
    refine ⟨?_, by repeat (first | exact Below.refl _ _ | apply below_alloc | apply pw_below_drewN | apply below_drew1)⟩
    have h := H.out
    simp_all [laws_eqRecPhase.f]
end Go.Proofs.Ytdkologncoofdaa.P
-- Px34
namespace Go.Proofs.Ytdkologncoofdaa.P
open Go.RowKit Go.Proofs.YtdkologncoofdaaW.PrintWords Go.Proofs.YtdkologncoofdaaW.PrintLast Go.Proofs.YtdkologncoofdaaW.PrintMore
attribute [local go_sem] max2_int min2_int max_two min_two max_three min_three max_four min_four   -- for this text's walks alone
set_option linter.unusedVariables false
set_option linter.unusedSimpArgs false

/-! ### laws_eqRecPhaseS: function 39 -/
def laws_eqRecPhaseS.l0 : Nat → List (S39) → List (S39) → Int → Option (Bool)
 | 0, _, _, _ => none
 | k + 1, x0, x1, x5 => if x5 < (x0.length : Int) then (if 0 ≤ x5 then (if x5 < (x1.length : Int) then ((laws_eqRecPhase.f ((rd_T39 x0 x5).f0) ((rd_T39 x0 x5).f1) ((rd_T39 x0 x5).f2) ((rd_T39 x0 x5).f3) ((rd_T39 x0 x5).f4) ((rd_T39 x0 x5).f5) ((rd_T39 x0 x5).f6) ((rd_T39 x0 x5).f7) ((rd_T39 x1 x5).f0) ((rd_T39 x1 x5).f1) ((rd_T39 x1 x5).f2) ((rd_T39 x1 x5).f3) ((rd_T39 x1 x5).f4) ((rd_T39 x1 x5).f5) ((rd_T39 x1 x5).f6) ((rd_T39 x1 x5).f7)).bind fun t367 => (if t367 = true then (laws_eqRecPhaseS.l0 k x0 x1 (wrap64 (x5 + 1))) else (some false))) else (none)) else (none)) else (some true)
def laws_eqRecPhaseS.f (k : Nat) (l0 : List (S39)) (l1 : List (S39)) : Option (Bool) := if (l0.length : Int) = (l1.length : Int) then (laws_eqRecPhaseS.l0 k l0 l1 0) else (some false)
theorem laws_eqRecPhaseS.mono_l : ∀ k, (∀ y0 y1 y2, LeO (laws_eqRecPhaseS.l0 k y0 y1 y2) (laws_eqRecPhaseS.l0 (k + 1) y0 y1 y2))
 | 0 => fun _ _ _ r h => by simp [laws_eqRecPhaseS.l0] at h
 | k + 1 => by
  have ih0 := laws_eqRecPhaseS.mono_l k
  ·intro y0 y1 y2
   unfold laws_eqRecPhaseS.l0
   repeat' first
   | (with_reducible exact ih0 _ _ _)
   | (with_reducible exact LeO.refl _)
   | (with_reducible exact LeO.none _)
   | (with_reducible refine LeO.ite ?_ ?_)
   | (with_reducible refine LeO.bind ?_ (fun _ => ?_))
   | exact ih0 _ _ _
   | exact LeO.none _
   | refine LeO.ite ?_ ?_
   | refine LeO.bind ?_ (fun _ => ?_)
theorem laws_eqRecPhaseS.mono : ∀ a0 a1 k, LeO (laws_eqRecPhaseS.f k a0 a1) (laws_eqRecPhaseS.f (k + 1) a0 a1) := by
 intro a0 a1 k
 have ih0 := laws_eqRecPhaseS.mono_l k
 unfold laws_eqRecPhaseS.f
 repeat' first
   | (with_reducible exact ih0 _ _ _)
   | (with_reducible exact LeO.refl _)
   | (with_reducible exact LeO.none _)
   | (with_reducible refine LeO.ite ?_ ?_)
   | (with_reducible refine LeO.bind ?_ (fun _ => ?_))
   | exact ih0 _ _ _
   | exact LeO.none _
   | refine LeO.ite ?_ ?_
   | refine LeO.bind ?_ (fun _ => ?_)
def laws_eqRecPhaseS.T6 : Bool × List (List Nat × List Nat) := (true, [([], []), ([], []), ([0, 1], [0, 1]), ([2], [2]), ([], []), ([], []), ([4, 5], [4, 5]), ([6], [6]), ([3, 7], [3, 7]), ([8], [8])])
def laws_eqRecPhaseS.B6 : List Nat := [0, 0, 3, 7, 0, 0, 48, 112, 255, 511]
theorem laws_eqRecPhaseS.tab6 : rtab .any (opsOf Try.f39 6) = laws_eqRecPhaseS.T6 := by kernel_rfl
theorem laws_eqRecPhaseS.bits6 : waitsOk laws_eqRecPhaseS.T6.2 laws_eqRecPhaseS.B6 = true := by kernel_rfl
set_option maxHeartbeats 8000000 in
set_option maxRecDepth 100000 in
theorem laws_eqRecPhaseS.calls (k : Nat) (A0 : Option Addr) (c0 : Nat) (l0 : List (S39)) (A1 : Option Addr) (c1 : Nat) (l1 : List (S39)) (r : Bool) (w : World) (hr0 : Kd.C k39 w A0 l0.length l0) (hc0 : l0.length ≤ c0) (hr1 : Kd.C k39 w A1 l1.length l1) (hc1 : l1.length ≤ c1) (h : laws_eqRecPhaseS.f k l0 l1 = some r) :
  Calls Try.prog 39 #[.slice A0 l0.length c0, .slice A1 l1.length c1] w fun e w' => e = .returned (.bool r) ∧ Below w.heap.size w w' := by
 have hu39 := Try.underlying39
 have HR0 := Aside0.mk hr0
 have HC0 := Aside0.mk hc0
 clear hr0 hc0
 have HR1 := Aside0.mk hr1
 have HC1 := Aside0.mk hc1
 clear hr1 hc1
 have HB := Aside0.mk (Below.refl w.heap.size w)
 have H : (if (l0.length : Int) = (l1.length : Int) then (laws_eqRecPhaseS.l0 k l0 l1 0) else (some false)) = some r := h
 clear h
 by_cases c3 : (l0.length : Int) = (l1.length : Int)
 ·rw [if_pos c3] at H
  have c3b0 : ((l0.length : Int) == (l1.length : Int)) = true := beq_iff_eq.mpr c3
  have c3b1 : ((l0.length : Int) != (l1.length : Int)) = false := bne_eq_false_iff_eq.mpr c3
  have c3b2 : (l0.length == l1.length) = true := by first | simpa using c3 | (simp at c3 ⊢; omega)
  clear c3
  have H' := Aside0.mk H
  clear H
  go_enter Try.func39, Try.ntmps39
  go_wp2
  go_loopg [5] k (fun kq v5 w' => ∃ (x5_1 : Int), v5 = .int .i64 x5_1 ∧ Aside0 (laws_eqRecPhaseS.l0 kq l0 l1 x5_1 = some r) ∧ Aside0 (kq ≤ k) ∧ Aside0 (Below w.heap.size w w'))
  case atStart => exact ⟨(0), (by first | rfl | (simp; done) | (simp [*]; done)), H', ⟨Nat.le_refl _⟩, (hbw HB)⟩
  case round =>
   clear H'
   obtain ⟨x5_1, rfl, HA, HK1, HB⟩ := hrel
   cases gk with
   | zero => exact absurd HA.out (by simp [laws_eqRecPhaseS.l0])
   | succ k1 =>
    have H := HA.out
    clear HA
    simp only [laws_eqRecPhaseS.l0] at H
    by_cases c4 : x5_1 < (l0.length : Int)
    ·rw [if_pos c4] at H
     have c4b0 : decide (x5_1 < (l0.length : Int)) = true := decide_eq_true c4
     clear c4
     by_cases c5 : 0 ≤ x5_1
     ·rw [if_pos c5] at H
      have c5b0 : decide (0 ≤ x5_1) = true := decide_eq_true c5
      clear c5
      by_cases c6 : x5_1 < (l1.length : Int)
      ·rw [if_pos c6] at H
       have c6b0 : decide (x5_1 < (l1.length : Int)) = true := decide_eq_true c6
       clear c6
       replace H := Option.bind_eq_some_iff.mp H
       obtain ⟨t367, A70, H⟩ := H
       try dsimp only at H
       have A7 := Aside0.mk A70
       clear A70
       by_cases c8 : t367 = true
       ·subst c8
        rw [if_pos rfl] at H
        have H' := Aside0.mk H
        clear H
        try go_wp2
        have n0_ := Aside0.mk (below_drew1 HB.out)
        clear HB
        have HB := n0_
        clear n0_
        have p365 : 0 ≤ (x5_1 : Int) := oda
        have q365 : x5_1 < (l0.length : Int) := oda
        obtain ⟨ad365, e365, hx365_0, hx365_1, hx365_2, hx365_3, hx365_4, hx365_5, hx365_6, hx365_7⟩ := at_T39 HR0.out x5_1 p365 q365
        have hw365_7 := hx365_7
        have hw365_6 := hx365_6
        have hw365_5 := hx365_5
        have hw365_4 := hx365_4
        have hw365_3 := hx365_3
        have hw365_2 := hx365_2
        have hw365_1 := hx365_1
        have hw365_0 := hx365_0
        cases e365
        replace hx365_0 := bcl HB hx365_0
        replace hx365_1 := bcl HB hx365_1
        replace hx365_2 := bcl HB hx365_2
        replace hx365_3 := bcl HB hx365_3
        replace hx365_4 := bcl HB hx365_4
        replace hx365_5 := bcl HB hx365_5
        replace hx365_6 := bcl HB hx365_6
        replace hx365_7 := bcl HB hx365_7
        replace p365 := eq_true p365
        replace q365 := eq_true q365
        have p366 : 0 ≤ (x5_1 : Int) := oda
        have q366 : x5_1 < (l1.length : Int) := oda
        obtain ⟨ad366, e366, hx366_0, hx366_1, hx366_2, hx366_3, hx366_4, hx366_5, hx366_6, hx366_7⟩ := at_T39 HR1.out x5_1 p366 q366
        have hw366_7 := hx366_7
        have hw366_6 := hx366_6
        have hw366_5 := hx366_5
        have hw366_4 := hx366_4
        have hw366_3 := hx366_3
        have hw366_2 := hx366_2
        have hw366_1 := hx366_1
        have hw366_0 := hx366_0
        cases e366
        replace hx366_0 := bcl HB hx366_0
        replace hx366_1 := bcl HB hx366_1
        replace hx366_2 := bcl HB hx366_2
        replace hx366_3 := bcl HB hx366_3
        replace hx366_4 := bcl HB hx366_4
        replace hx366_5 := bcl HB hx366_5
        replace hx366_6 := bcl HB hx366_6
        replace hx366_7 := bcl HB hx366_7
        replace p366 := eq_true p366
        replace q366 := eq_true q366
        refine start_ (n := 10) (S := fun w' => w'.cell? (ad365.add ((x5_1).toNat * 8)) = some (.string ((rd_T39 l0 x5_1).f0)) ∧ w'.cell? ⟨(ad365.add ((x5_1).toNat * 8)).block, (ad365.add ((x5_1).toNat * 8)).off + 1, none⟩ = some (.int .i64 ((rd_T39 l0 x5_1).f1)) ∧ w'.cell? ⟨(ad365.add ((x5_1).toNat * 8)).block, (ad365.add ((x5_1).toNat * 8)).off + 2, none⟩ = some (.string ((rd_T39 l0 x5_1).f2)) ∧ w'.cell? ⟨(ad365.add ((x5_1).toNat * 8)).block, (ad365.add ((x5_1).toNat * 8)).off + 3, none⟩ = some (.string ((rd_T39 l0 x5_1).f3)) ∧ w'.cell? ⟨(ad365.add ((x5_1).toNat * 8)).block, (ad365.add ((x5_1).toNat * 8)).off + 4, none⟩ = some (.int .i64 ((rd_T39 l0 x5_1).f4)) ∧ w'.cell? ⟨(ad365.add ((x5_1).toNat * 8)).block, (ad365.add ((x5_1).toNat * 8)).off + 5, none⟩ = some (.int .i64 ((rd_T39 l0 x5_1).f5)) ∧ w'.cell? ⟨(ad365.add ((x5_1).toNat * 8)).block, (ad365.add ((x5_1).toNat * 8)).off + 6, none⟩ = some (.string ((rd_T39 l0 x5_1).f6)) ∧ w'.cell? ⟨(ad365.add ((x5_1).toNat * 8)).block, (ad365.add ((x5_1).toNat * 8)).off + 7, none⟩ = some (.string ((rd_T39 l0 x5_1).f7)) ∧ w'.cell? (ad366.add ((x5_1).toNat * 8)) = some (.string ((rd_T39 l1 x5_1).f0)) ∧ w'.cell? ⟨(ad366.add ((x5_1).toNat * 8)).block, (ad366.add ((x5_1).toNat * 8)).off + 1, none⟩ = some (.int .i64 ((rd_T39 l1 x5_1).f1)) ∧ w'.cell? ⟨(ad366.add ((x5_1).toNat * 8)).block, (ad366.add ((x5_1).toNat * 8)).off + 2, none⟩ = some (.string ((rd_T39 l1 x5_1).f2)) ∧ w'.cell? ⟨(ad366.add ((x5_1).toNat * 8)).block, (ad366.add ((x5_1).toNat * 8)).off + 3, none⟩ = some (.string ((rd_T39 l1 x5_1).f3)) ∧ w'.cell? ⟨(ad366.add ((x5_1).toNat * 8)).block, (ad366.add ((x5_1).toNat * 8)).off + 4, none⟩ = some (.int .i64 ((rd_T39 l1 x5_1).f4)) ∧ w'.cell? ⟨(ad366.add ((x5_1).toNat * 8)).block, (ad366.add ((x5_1).toNat * 8)).off + 5, none⟩ = some (.int .i64 ((rd_T39 l1 x5_1).f5)) ∧ w'.cell? ⟨(ad366.add ((x5_1).toNat * 8)).block, (ad366.add ((x5_1).toNat * 8)).off + 6, none⟩ = some (.string ((rd_T39 l1 x5_1).f6)) ∧ w'.cell? ⟨(ad366.add ((x5_1).toNat * 8)).block, (ad366.add ((x5_1).toNat * 8)).off + 7, none⟩ = some (.string ((rd_T39 l1 x5_1).f7))) (ds := []) (lb 10 0) (by kernel_rfl) rfl rfl ⟨((HB.out.cell (World.block_lt_of_cell? w _ hw365_0)).trans hw365_0), ((HB.out.cell (World.block_lt_of_cell? w _ hw365_1)).trans hw365_1), ((HB.out.cell (World.block_lt_of_cell? w _ hw365_2)).trans hw365_2), ((HB.out.cell (World.block_lt_of_cell? w _ hw365_3)).trans hw365_3), ((HB.out.cell (World.block_lt_of_cell? w _ hw365_4)).trans hw365_4), ((HB.out.cell (World.block_lt_of_cell? w _ hw365_5)).trans hw365_5), ((HB.out.cell (World.block_lt_of_cell? w _ hw365_6)).trans hw365_6), ((HB.out.cell (World.block_lt_of_cell? w _ hw365_7)).trans hw365_7), ((HB.out.cell (World.block_lt_of_cell? w _ hw366_0)).trans hw366_0), ((HB.out.cell (World.block_lt_of_cell? w _ hw366_1)).trans hw366_1), ((HB.out.cell (World.block_lt_of_cell? w _ hw366_2)).trans hw366_2), ((HB.out.cell (World.block_lt_of_cell? w _ hw366_3)).trans hw366_3), ((HB.out.cell (World.block_lt_of_cell? w _ hw366_4)).trans hw366_4), ((HB.out.cell (World.block_lt_of_cell? w _ hw366_5)).trans hw366_5), ((HB.out.cell (World.block_lt_of_cell? w _ hw366_6)).trans hw366_6), ((HB.out.cell (World.block_lt_of_cell? w _ hw366_7)).trans hw366_7)⟩ (fun hHeld => ?_); refine with_tabW laws_eqRecPhaseS.tab6 laws_eqRecPhaseS.bits6 (fun HT_ HW_ => ?_)
        generalize wr.drew = w9 at HB hx365_0 hx365_1 hx365_2 hx365_3 hx365_4 hx365_5 hx365_6 hx365_7 hx366_0 hx366_1 hx366_2 hx366_3 hx366_4 hx366_5 hx366_6 hx366_7 hHeld ⊢
        refine pw HT_ 0 (some 17) (lb 10 1) ?_
        refine pw HT_ 1 (some 18) (lb 10 3) ?_
        refine pw HT_ 2 (some 19) (lb 10 7) ?_
        refine pw HT_ 4 (some 21) (lb 10 23) ?_
        refine pw HT_ 5 (some 22) (lb 10 55) ?_
        refine pw HT_ 6 (some 23) (lb 10 119) ?_
        refine tw HT_ HW_ hHeld 3 (some 20) (lb 10 127) ?_
        refine tw HT_ HW_ hHeld 7 (some 24) (lb 10 255) ?_
        refine one_ (i := 8) (N := some 25) (lb 10 511) rfl rfl (one_of HT_.out (by kernel_rfl)) (by decide) (fun K hK => ?_)
        refine goes_ Try.func83 (by kernel_rfl) rfl #[.agg #[.string ((rd_T39 l0 x5_1).f0), .int .i64 ((rd_T39 l0 x5_1).f1), .string ((rd_T39 l0 x5_1).f2), .string ((rd_T39 l0 x5_1).f3), .int .i64 ((rd_T39 l0 x5_1).f4), .int .i64 ((rd_T39 l0 x5_1).f5), .string ((rd_T39 l0 x5_1).f6), .string ((rd_T39 l0 x5_1).f7)], .agg #[.string ((rd_T39 l1 x5_1).f0), .int .i64 ((rd_T39 l1 x5_1).f1), .string ((rd_T39 l1 x5_1).f2), .string ((rd_T39 l1 x5_1).f3), .int .i64 ((rd_T39 l1 x5_1).f4), .int .i64 ((rd_T39 l1 x5_1).f5), .string ((rd_T39 l1 x5_1).f6), .string ((rd_T39 l1 x5_1).f7)]] (by rfl) rfl rfl mxp ?_
        with_reducible refine (laws_eqRecPhase.calls ((rd_T39 l0 x5_1).f0) ((rd_T39 l0 x5_1).f1) ((rd_T39 l0 x5_1).f2) ((rd_T39 l0 x5_1).f3) ((rd_T39 l0 x5_1).f4) ((rd_T39 l0 x5_1).f5) ((rd_T39 l0 x5_1).f6) ((rd_T39 l0 x5_1).f7) ((rd_T39 l1 x5_1).f0) ((rd_T39 l1 x5_1).f1) ((rd_T39 l1 x5_1).f2) ((rd_T39 l1 x5_1).f3) ((rd_T39 l1 x5_1).f4) ((rd_T39 l1 x5_1).f5) ((rd_T39 l1 x5_1).f6) ((rd_T39 l1 x5_1).f7) true _ A7.out).mono ?_
        rintro e w10 ⟨rfl, hb⟩
        refine ⟨_, rfl, ?_⟩
        have n0_ := bs HB hb
        clear HB
        have HB := n0_
        clear n0_
        (try clear hb)
        (try clear hb2)
        (try clear hk)
        (try clear hi)
        refine hK.out _ _ ⟨((HB.out.cell (World.block_lt_of_cell? w _ hw365_0)).trans hw365_0), ((HB.out.cell (World.block_lt_of_cell? w _ hw365_1)).trans hw365_1), ((HB.out.cell (World.block_lt_of_cell? w _ hw365_2)).trans hw365_2), ((HB.out.cell (World.block_lt_of_cell? w _ hw365_3)).trans hw365_3), ((HB.out.cell (World.block_lt_of_cell? w _ hw365_4)).trans hw365_4), ((HB.out.cell (World.block_lt_of_cell? w _ hw365_5)).trans hw365_5), ((HB.out.cell (World.block_lt_of_cell? w _ hw365_6)).trans hw365_6), ((HB.out.cell (World.block_lt_of_cell? w _ hw365_7)).trans hw365_7), ((HB.out.cell (World.block_lt_of_cell? w _ hw366_0)).trans hw366_0), ((HB.out.cell (World.block_lt_of_cell? w _ hw366_1)).trans hw366_1), ((HB.out.cell (World.block_lt_of_cell? w _ hw366_2)).trans hw366_2), ((HB.out.cell (World.block_lt_of_cell? w _ hw366_3)).trans hw366_3), ((HB.out.cell (World.block_lt_of_cell? w _ hw366_4)).trans hw366_4), ((HB.out.cell (World.block_lt_of_cell? w _ hw366_5)).trans hw366_5), ((HB.out.cell (World.block_lt_of_cell? w _ hw366_6)).trans hw366_6), ((HB.out.cell (World.block_lt_of_cell? w _ hw366_7)).trans hw366_7)⟩ (fun hHeld => ?_)
        clear hK K
        refine norm_ (a' := ?_) ?_ ?_
        rotate_left
        ·show Act.put _ (some 25) _ = _
         simp only [Act.put, List.setIfInBounds_toArray, List.set_cons_zero, List.set_cons_succ, i64_w, i32_w]
         rfl
        refine pw HT_ 9 (some 26) (lb 10 1023) ?_
        refine done_ (done_of HT_.out (by kernel_rfl)) ?_
        try go_wp2
        go_roundg k1
        case measure => have := HK1.out; omega
        case rel => exact ⟨(wrap64 (x5_1 + 1)), (by first | rfl | (simp; done) | (simp [*]; done)), H', ⟨by have := HK1.out; omega⟩, (hbw HB)⟩
       ·replace c8 := Bool.eq_false_iff.mpr c8
        subst c8
        rw [if_neg (show ¬ (false = true) by decide)] at H
        obtain rfl := Option.some.inj H
        try go_wp2
        have n0_ := Aside0.mk (below_drew1 HB.out)
        clear HB
        have HB := n0_
        clear n0_
        have p365 : 0 ≤ (x5_1 : Int) := oda
        have q365 : x5_1 < (l0.length : Int) := oda
        obtain ⟨ad365, e365, hx365_0, hx365_1, hx365_2, hx365_3, hx365_4, hx365_5, hx365_6, hx365_7⟩ := at_T39 HR0.out x5_1 p365 q365
        have hw365_7 := hx365_7
        have hw365_6 := hx365_6
        have hw365_5 := hx365_5
        have hw365_4 := hx365_4
        have hw365_3 := hx365_3
        have hw365_2 := hx365_2
        have hw365_1 := hx365_1
        have hw365_0 := hx365_0
        cases e365
        replace hx365_0 := bcl HB hx365_0
        replace hx365_1 := bcl HB hx365_1
        replace hx365_2 := bcl HB hx365_2
        replace hx365_3 := bcl HB hx365_3
        replace hx365_4 := bcl HB hx365_4
        replace hx365_5 := bcl HB hx365_5
        replace hx365_6 := bcl HB hx365_6
        replace hx365_7 := bcl HB hx365_7
        replace p365 := eq_true p365
        replace q365 := eq_true q365
        have p366 : 0 ≤ (x5_1 : Int) := oda
        have q366 : x5_1 < (l1.length : Int) := oda
        obtain ⟨ad366, e366, hx366_0, hx366_1, hx366_2, hx366_3, hx366_4, hx366_5, hx366_6, hx366_7⟩ := at_T39 HR1.out x5_1 p366 q366
        have hw366_7 := hx366_7
        have hw366_6 := hx366_6
        have hw366_5 := hx366_5
        have hw366_4 := hx366_4
        have hw366_3 := hx366_3
        have hw366_2 := hx366_2
        have hw366_1 := hx366_1
        have hw366_0 := hx366_0
        cases e366
        replace hx366_0 := bcl HB hx366_0
        replace hx366_1 := bcl HB hx366_1
        replace hx366_2 := bcl HB hx366_2
        replace hx366_3 := bcl HB hx366_3
        replace hx366_4 := bcl HB hx366_4
        replace hx366_5 := bcl HB hx366_5
        replace hx366_6 := bcl HB hx366_6
        replace hx366_7 := bcl HB hx366_7
        replace p366 := eq_true p366
        replace q366 := eq_true q366
        refine start_ (n := 10) (S := fun w' => w'.cell? (ad365.add ((x5_1).toNat * 8)) = some (.string ((rd_T39 l0 x5_1).f0)) ∧ w'.cell? ⟨(ad365.add ((x5_1).toNat * 8)).block, (ad365.add ((x5_1).toNat * 8)).off + 1, none⟩ = some (.int .i64 ((rd_T39 l0 x5_1).f1)) ∧ w'.cell? ⟨(ad365.add ((x5_1).toNat * 8)).block, (ad365.add ((x5_1).toNat * 8)).off + 2, none⟩ = some (.string ((rd_T39 l0 x5_1).f2)) ∧ w'.cell? ⟨(ad365.add ((x5_1).toNat * 8)).block, (ad365.add ((x5_1).toNat * 8)).off + 3, none⟩ = some (.string ((rd_T39 l0 x5_1).f3)) ∧ w'.cell? ⟨(ad365.add ((x5_1).toNat * 8)).block, (ad365.add ((x5_1).toNat * 8)).off + 4, none⟩ = some (.int .i64 ((rd_T39 l0 x5_1).f4)) ∧ w'.cell? ⟨(ad365.add ((x5_1).toNat * 8)).block, (ad365.add ((x5_1).toNat * 8)).off + 5, none⟩ = some (.int .i64 ((rd_T39 l0 x5_1).f5)) ∧ w'.cell? ⟨(ad365.add ((x5_1).toNat * 8)).block, (ad365.add ((x5_1).toNat * 8)).off + 6, none⟩ = some (.string ((rd_T39 l0 x5_1).f6)) ∧ w'.cell? ⟨(ad365.add ((x5_1).toNat * 8)).block, (ad365.add ((x5_1).toNat * 8)).off + 7, none⟩ = some (.string ((rd_T39 l0 x5_1).f7)) ∧ w'.cell? (ad366.add ((x5_1).toNat * 8)) = some (.string ((rd_T39 l1 x5_1).f0)) ∧ w'.cell? ⟨(ad366.add ((x5_1).toNat * 8)).block, (ad366.add ((x5_1).toNat * 8)).off + 1, none⟩ = some (.int .i64 ((rd_T39 l1 x5_1).f1)) ∧ w'.cell? ⟨(ad366.add ((x5_1).toNat * 8)).block, (ad366.add ((x5_1).toNat * 8)).off + 2, none⟩ = some (.string ((rd_T39 l1 x5_1).f2)) ∧ w'.cell? ⟨(ad366.add ((x5_1).toNat * 8)).block, (ad366.add ((x5_1).toNat * 8)).off + 3, none⟩ = some (.string ((rd_T39 l1 x5_1).f3)) ∧ w'.cell? ⟨(ad366.add ((x5_1).toNat * 8)).block, (ad366.add ((x5_1).toNat * 8)).off + 4, none⟩ = some (.int .i64 ((rd_T39 l1 x5_1).f4)) ∧ w'.cell? ⟨(ad366.add ((x5_1).toNat * 8)).block, (ad366.add ((x5_1).toNat * 8)).off + 5, none⟩ = some (.int .i64 ((rd_T39 l1 x5_1).f5)) ∧ w'.cell? ⟨(ad366.add ((x5_1).toNat * 8)).block, (ad366.add ((x5_1).toNat * 8)).off + 6, none⟩ = some (.string ((rd_T39 l1 x5_1).f6)) ∧ w'.cell? ⟨(ad366.add ((x5_1).toNat * 8)).block, (ad366.add ((x5_1).toNat * 8)).off + 7, none⟩ = some (.string ((rd_T39 l1 x5_1).f7))) (ds := []) (lb 10 0) (by kernel_rfl) rfl rfl ⟨((HB.out.cell (World.block_lt_of_cell? w _ hw365_0)).trans hw365_0), ((HB.out.cell (World.block_lt_of_cell? w _ hw365_1)).trans hw365_1), ((HB.out.cell (World.block_lt_of_cell? w _ hw365_2)).trans hw365_2), ((HB.out.cell (World.block_lt_of_cell? w _ hw365_3)).trans hw365_3), ((HB.out.cell (World.block_lt_of_cell? w _ hw365_4)).trans hw365_4), ((HB.out.cell (World.block_lt_of_cell? w _ hw365_5)).trans hw365_5), ((HB.out.cell (World.block_lt_of_cell? w _ hw365_6)).trans hw365_6), ((HB.out.cell (World.block_lt_of_cell? w _ hw365_7)).trans hw365_7), ((HB.out.cell (World.block_lt_of_cell? w _ hw366_0)).trans hw366_0), ((HB.out.cell (World.block_lt_of_cell? w _ hw366_1)).trans hw366_1), ((HB.out.cell (World.block_lt_of_cell? w _ hw366_2)).trans hw366_2), ((HB.out.cell (World.block_lt_of_cell? w _ hw366_3)).trans hw366_3), ((HB.out.cell (World.block_lt_of_cell? w _ hw366_4)).trans hw366_4), ((HB.out.cell (World.block_lt_of_cell? w _ hw366_5)).trans hw366_5), ((HB.out.cell (World.block_lt_of_cell? w _ hw366_6)).trans hw366_6), ((HB.out.cell (World.block_lt_of_cell? w _ hw366_7)).trans hw366_7)⟩ (fun hHeld => ?_); refine with_tabW laws_eqRecPhaseS.tab6 laws_eqRecPhaseS.bits6 (fun HT_ HW_ => ?_)
        generalize wr.drew = w11 at HB hx365_0 hx365_1 hx365_2 hx365_3 hx365_4 hx365_5 hx365_6 hx365_7 hx366_0 hx366_1 hx366_2 hx366_3 hx366_4 hx366_5 hx366_6 hx366_7 hHeld ⊢
        refine pw HT_ 0 (some 17) (lb 10 1) ?_
        refine pw HT_ 1 (some 18) (lb 10 3) ?_
        refine pw HT_ 2 (some 19) (lb 10 7) ?_
        refine pw HT_ 4 (some 21) (lb 10 23) ?_
        refine pw HT_ 5 (some 22) (lb 10 55) ?_
        refine pw HT_ 6 (some 23) (lb 10 119) ?_
        refine tw HT_ HW_ hHeld 3 (some 20) (lb 10 127) ?_
        refine tw HT_ HW_ hHeld 7 (some 24) (lb 10 255) ?_
        refine one_ (i := 8) (N := some 25) (lb 10 511) rfl rfl (one_of HT_.out (by kernel_rfl)) (by decide) (fun K hK => ?_)
        refine goes_ Try.func83 (by kernel_rfl) rfl #[.agg #[.string ((rd_T39 l0 x5_1).f0), .int .i64 ((rd_T39 l0 x5_1).f1), .string ((rd_T39 l0 x5_1).f2), .string ((rd_T39 l0 x5_1).f3), .int .i64 ((rd_T39 l0 x5_1).f4), .int .i64 ((rd_T39 l0 x5_1).f5), .string ((rd_T39 l0 x5_1).f6), .string ((rd_T39 l0 x5_1).f7)], .agg #[.string ((rd_T39 l1 x5_1).f0), .int .i64 ((rd_T39 l1 x5_1).f1), .string ((rd_T39 l1 x5_1).f2), .string ((rd_T39 l1 x5_1).f3), .int .i64 ((rd_T39 l1 x5_1).f4), .int .i64 ((rd_T39 l1 x5_1).f5), .string ((rd_T39 l1 x5_1).f6), .string ((rd_T39 l1 x5_1).f7)]] (by rfl) rfl rfl mxp ?_
        with_reducible refine (laws_eqRecPhase.calls ((rd_T39 l0 x5_1).f0) ((rd_T39 l0 x5_1).f1) ((rd_T39 l0 x5_1).f2) ((rd_T39 l0 x5_1).f3) ((rd_T39 l0 x5_1).f4) ((rd_T39 l0 x5_1).f5) ((rd_T39 l0 x5_1).f6) ((rd_T39 l0 x5_1).f7) ((rd_T39 l1 x5_1).f0) ((rd_T39 l1 x5_1).f1) ((rd_T39 l1 x5_1).f2) ((rd_T39 l1 x5_1).f3) ((rd_T39 l1 x5_1).f4) ((rd_T39 l1 x5_1).f5) ((rd_T39 l1 x5_1).f6) ((rd_T39 l1 x5_1).f7) false _ A7.out).mono ?_
        rintro e w12 ⟨rfl, hb⟩
        refine ⟨_, rfl, ?_⟩
        have n0_ := bs HB hb
        clear HB
        have HB := n0_
        clear n0_
        (try clear hb)
        (try clear hb2)
        (try clear hk)
        (try clear hi)
        refine hK.out _ _ ⟨((HB.out.cell (World.block_lt_of_cell? w _ hw365_0)).trans hw365_0), ((HB.out.cell (World.block_lt_of_cell? w _ hw365_1)).trans hw365_1), ((HB.out.cell (World.block_lt_of_cell? w _ hw365_2)).trans hw365_2), ((HB.out.cell (World.block_lt_of_cell? w _ hw365_3)).trans hw365_3), ((HB.out.cell (World.block_lt_of_cell? w _ hw365_4)).trans hw365_4), ((HB.out.cell (World.block_lt_of_cell? w _ hw365_5)).trans hw365_5), ((HB.out.cell (World.block_lt_of_cell? w _ hw365_6)).trans hw365_6), ((HB.out.cell (World.block_lt_of_cell? w _ hw365_7)).trans hw365_7), ((HB.out.cell (World.block_lt_of_cell? w _ hw366_0)).trans hw366_0), ((HB.out.cell (World.block_lt_of_cell? w _ hw366_1)).trans hw366_1), ((HB.out.cell (World.block_lt_of_cell? w _ hw366_2)).trans hw366_2), ((HB.out.cell (World.block_lt_of_cell? w _ hw366_3)).trans hw366_3), ((HB.out.cell (World.block_lt_of_cell? w _ hw366_4)).trans hw366_4), ((HB.out.cell (World.block_lt_of_cell? w _ hw366_5)).trans hw366_5), ((HB.out.cell (World.block_lt_of_cell? w _ hw366_6)).trans hw366_6), ((HB.out.cell (World.block_lt_of_cell? w _ hw366_7)).trans hw366_7)⟩ (fun hHeld => ?_)
        clear hK K
        refine norm_ (a' := ?_) ?_ ?_
        rotate_left
        ·show Act.put _ (some 25) _ = _
         simp only [Act.put, List.setIfInBounds_toArray, List.set_cons_zero, List.set_cons_succ, i64_w, i32_w]
         rfl
        refine pw HT_ 9 (some 26) (lb 10 1023) ?_
        refine done_ (done_of HT_.out (by kernel_rfl)) ?_
        try go_wp2
        go_ret
        exact ⟨exq, bw HB.out⟩
      ·rw [if_neg c6] at H
       exact absurd H (by simp)
     ·rw [if_neg c5] at H
      exact absurd H (by simp)
    ·rw [if_neg c4] at H
     have c4b0 : decide (x5_1 < (l0.length : Int)) = false := decide_eq_false c4
     clear c4
     obtain rfl := Option.some.inj H
     go_wp2
     go_ret
     exact ⟨exq, bw HB.out⟩
 ·rw [if_neg c3] at H
  have c3b0 : ((l0.length : Int) == (l1.length : Int)) = false := beq_eq_false_iff_ne.mpr c3
  have c3b1 : ((l0.length : Int) != (l1.length : Int)) = true := bne_iff_ne.mpr c3
  have c3b2 : (l0.length == l1.length) = false := by first | simpa using c3 | (simp at c3 ⊢; omega)
  obtain rfl := Option.some.inj H
  go_enter Try.func39, Try.ntmps39
  go_wp2
  go_ret
  exact ⟨exq, bw HB.out⟩

end Go.Proofs.Ytdkologncoofdaa.P
-- Q4
namespace Go.Proofs.Ytdkologncoofdaa.P
open Go.RowKit Go.Proofs.YtdkologncoofdaaW.PrintWords Go.Proofs.YtdkologncoofdaaW.PrintLast
set_option linter.unusedVariables false
set_option linter.unusedSimpArgs false

/-! ### Arguments measured, copied, compared -/
theorem sz_some (x : S48) (n : Int) : ∃ r, laws_szRecPhase.f x.f0 x.f1 x.f2 x.f3 x.f4 x.f5 x.f6 x.f7 n = some r := by
  unfold laws_szRecPhase.f
  repeat' split
  all_goals exact ⟨_, rfl⟩

theorem szS_loop (l : List S48) (hl : l.length ≤ 1048576) (d : Nat) : ∀ (i k : Nat) (n : Int), i ≤ l.length → l.length - i = d → d < k → ∃ r, laws_szRecPhaseS.l0 k l n (i : Int) = some r := by
  induction d with
  | zero =>
    intro i k n hi hd hk
    obtain ⟨k, rfl⟩ : ∃ m, k = m + 1 := ⟨k - 1, by omega⟩
    simp only [laws_szRecPhaseS.l0]
    rw [if_neg (by omega)]
    exact ⟨_, rfl⟩
  | succ d ih =>
    intro i k n hi hd hk
    obtain ⟨k, rfl⟩ : ∃ m, k = m + 1 := ⟨k - 1, by omega⟩
    simp only [laws_szRecPhaseS.l0]
    rw [if_pos (by omega), if_pos (by omega)]
    obtain ⟨r, hr⟩ := sz_some (rd_T48 l i) n
    rw [hr, Option.bind_some, show wrap64 ((i : Int) + 1) = ((i + 1 : Nat) : Int) from by rw [wrap_id (by omega) (by omega)]; omega]
    by_cases h : r < 0
    · rw [if_pos h]; exact ⟨_, rfl⟩
    · rw [if_neg h]; exact ih (i + 1) k r (by omega) (by omega) (by omega)
/-- The arguments' size: an answer; and if it is none of a refusal, the slice is short. -/
theorem szS (l : List S48) (hl : l.length ≤ 9223372036854775807) (k : Nat) (hk : 1048577 < k) : ∃ r, laws_szRecPhaseS.f k l 1048576 = some r ∧ (¬ r < 0 → l.length ≤ 1048576) := by
  unfold laws_szRecPhaseS.f
  rw [wrap_id (by omega) (by omega)]
  by_cases h : 1048576 - (l.length : Int) < 0
  · rw [if_pos h]; exact ⟨-1, rfl, fun h2 => absurd (show (-1 : Int) < 0 by omega) h2⟩
  · rw [if_neg h]
    obtain ⟨r, hr⟩ := szS_loop l (by omega) l.length 0 k (1048576 - (l.length : Int)) (by omega) (by omega) (by omega)
    exact ⟨r, hr, fun _ => by omega⟩
def to39 (x : S48) : S39 := ⟨x.f0, x.f1, x.f2, x.f3, x.f4, x.f5, x.f6, x.f7⟩
theorem toS_loop (l : List S48) (hl : l.length ≤ 1048576) (d : Nat) : ∀ (i k : Nat) (acc : List S39), i ≤ l.length → l.length - i = d → d < k → acc.length = l.length → acc.take i = (l.map to39).take i →
    laws_toRecPhaseS.l0 k l acc (i : Int) = some (l.map to39) := by
  induction d with
  | zero =>
    intro i k acc hi hd hk ha ht
    obtain ⟨k, rfl⟩ : ∃ m, k = m + 1 := ⟨k - 1, by omega⟩
    simp only [laws_toRecPhaseS.l0]
    rw [if_neg (by omega)]
    rw [List.take_of_length_le (by omega), List.take_of_length_le (by rw [List.length_map]; omega)] at ht
    rw [ht]
  | succ d ih =>
    intro i k acc hi hd hk ha ht
    obtain ⟨k, rfl⟩ : ∃ m, k = m + 1 := ⟨k - 1, by omega⟩
    simp only [laws_toRecPhaseS.l0, laws_toRecPhase.f, Option.bind_some]
    rw [if_pos (by omega), if_pos (by omega), if_pos (by omega), show wrap64 ((i : Int) + 1) = ((i + 1 : Nat) : Int) from by rw [wrap_id (by omega) (by omega)]; omega, Int.toNat_natCast]
    refine ih (i + 1) k _ (by omega) (by omega) (by omega) (by rw [List.length_set]; exact ha) ?_
    have hil : i < l.length := by omega
    have e : rd_T48 l (i : Int) = l[i] := by simp [rd_T48, List.getD_eq_getElem?_getD, List.getElem?_eq_getElem hil]
    rw [e, List.take_succ_eq_append_getElem (by rw [List.length_set]; omega), List.take_succ_eq_append_getElem (by rw [List.length_map]; omega), List.take_set_of_le (by omega), ht]
    simp [to39]
theorem toS (l : List S48) (hl : l.length ≤ 1048576) (k : Nat) (hk : 1048577 < k) : laws_toRecPhaseS.f k l = some (l.map to39) := by
  unfold laws_toRecPhaseS.f
  rw [if_pos (by omega), Int.toNat_natCast, if_pos (by omega)]
  exact toS_loop l hl l.length 0 k _ (by omega) (by omega) (by omega) (by simp) (by simp)
theorem eqP_self (x : S39) : laws_eqRecPhase.f x.f0 x.f1 x.f2 x.f3 x.f4 x.f5 x.f6 x.f7 x.f0 x.f1 x.f2 x.f3 x.f4 x.f5 x.f6 x.f7 = some true := by
  unfold laws_eqRecPhase.f
  simp
theorem eqS_loop (l : List S39) (hl : l.length ≤ 1048576) (d : Nat) : ∀ (i k : Nat), i ≤ l.length → l.length - i = d → d < k → laws_eqRecPhaseS.l0 k l l (i : Int) = some true := by
  induction d with
  | zero =>
    intro i k hi hd hk
    obtain ⟨k, rfl⟩ : ∃ m, k = m + 1 := ⟨k - 1, by omega⟩
    simp only [laws_eqRecPhaseS.l0]
    rw [if_neg (by omega)]
  | succ d ih =>
    intro i k hi hd hk
    obtain ⟨k, rfl⟩ : ∃ m, k = m + 1 := ⟨k - 1, by omega⟩
    simp only [laws_eqRecPhaseS.l0]
    rw [if_pos (by omega), if_pos (by omega), if_pos (by omega), eqP_self, Option.bind_some, if_pos rfl, show wrap64 ((i : Int) + 1) = ((i + 1 : Nat) : Int) from by rw [wrap_id (by omega) (by omega)]; omega]
    exact ih (i + 1) k (by omega) (by omega) (by omega)
theorem eqS (l : List S39) (hl : l.length ≤ 1048576) (k : Nat) (hk : 1048577 < k) : laws_eqRecPhaseS.f k l l = some true := by
  unfold laws_eqRecPhaseS.f
  rw [if_pos rfl]
  exact eqS_loop l hl l.length 0 k (by omega) (by omega) (by omega)

/-! ### The bound -/
/-- How many steps there may be from here. -/
def rk (l : List S39) (a : ByteArray) : Nat := (if atOf l a < 0 then 0 else (l.length : Int) - atOf l a).toNat
def bnd (l : List S39) : Nat → ByteArray → Int
  | 0, _ => 0
  | n + 1, a => if atOf l a < 0 then 0 else (rd_T39 l (atOf l a)).f5 + max (bnd l n (rd_T39 l (atOf l a)).f6) (bnd l n (rd_T39 l (atOf l a)).f7)
/-- RecBound of a recipe that is ok. -/
def boundOf (l : List S39) (a : ByteArray) : Int := bnd l 13 a
theorem end_no (l : List S39) (h : recOk l = true) (a : ByteArray) (ha : ¬ endOf a = 0) : atOf l a < 0 := by
  rcases Int.lt_or_le (atOf l a) 0 with h0 | h0
  · exact h0
  · have hr := atOf_range l a
    obtain ⟨i, hi⟩ := Int.eq_ofNat_of_zero_le h0
    have hn := atOf_name l a h0
    have hok := recOk_at l h i (by omega)
    unfold okAt phOk at hok
    simp only [Bool.and_eq_true, beq_iff_eq] at hok
    have e : endOf (rd_T39 l (atOf l a)).f0 = endOf a := by unfold endOf; rw [hn]
    rw [hi] at e
    omega
theorem ok_ref (l : List S39) (h : recOk l = true) (a : ByteArray) (h0 : ¬ atOf l a < 0) :
    rk l (rd_T39 l (atOf l a)).f6 < rk l a ∧ rk l (rd_T39 l (atOf l a)).f7 < rk l a ∧ 1 ≤ (rd_T39 l (atOf l a)).f5 ∧ (rd_T39 l (atOf l a)).f5 ≤ 1000 := by
  have hr := atOf_range l a
  obtain ⟨i, hi⟩ := Int.eq_ofNat_of_zero_le (show 0 ≤ atOf l a by omega)
  have hok := recOk_at l h i (by omega)
  unfold okAt at hok
  simp only [Bool.and_eq_true] at hok
  obtain ⟨⟨⟨h1, _⟩, h6⟩, h7⟩ := hok
  have key : ∀ n, refOk l (i : Int) n = true → rk l n < rk l a := by
    intro n hn
    have hrn := atOf_range l n
    unfold rk
    rw [if_neg h0]
    unfold refOk at hn
    simp only [Bool.or_eq_true, Bool.not_eq_true', beq_eq_false_iff_ne, decide_eq_true_eq] at hn
    rcases hn with hn | hn
    · rw [if_pos (end_no l h n hn)]; omega
    · rw [if_neg (by omega)]; omega
  rw [hi]
  refine ⟨key _ h6, key _ h7, ?_⟩
  unfold phOk at h1
  simp only [Bool.and_eq_true, inB_iff] at h1
  exact h1.1.1.1.2
theorem bnd_bound (l : List S39) (h : recOk l = true) (n : Nat) : ∀ a, 0 ≤ bnd l n a ∧ bnd l n a ≤ 1000 * (n : Int) := by
  induction n with
  | zero => intro a; simp [bnd]
  | succ n ih =>
    intro a
    simp only [bnd]
    by_cases h0 : atOf l a < 0
    · rw [if_pos h0]; omega
    · rw [if_neg h0]
      have hx := ok_ref l h a h0
      have h6 := ih (rd_T39 l (atOf l a)).f6
      have h7 := ih (rd_T39 l (atOf l a)).f7
      omega
theorem bnd_more (l : List S39) (h : recOk l = true) (n : Nat) : ∀ a m, rk l a < n → rk l a < m → bnd l n a = bnd l m a := by
  induction n with
  | zero => intro a m hn; omega
  | succ n ih =>
    intro a m hn hm
    obtain ⟨m, rfl⟩ : ∃ q, m = q + 1 := ⟨m - 1, by omega⟩
    simp only [bnd]
    by_cases h0 : atOf l a < 0
    · rw [if_pos h0, if_pos h0]
    · rw [if_neg h0, if_neg h0]
      have hx := ok_ref l h a h0
      rw [ih _ m (by omega) (by omega), ih (rd_T39 l (atOf l a)).f7 m (by omega) (by omega)]
theorem rk_le (l : List S39) (h : recOk l = true) (a : ByteArray) : rk l a ≤ 12 := by
  have := recOk_len l h
  unfold rk
  split <;> omega
theorem boundOf_step (l : List S39) (h : recOk l = true) (a : ByteArray) : boundOf l a = if atOf l a < 0 then 0 else (rd_T39 l (atOf l a)).f5 + max (boundOf l (rd_T39 l (atOf l a)).f6) (boundOf l (rd_T39 l (atOf l a)).f7) := by
  unfold boundOf
  rw [bnd_more l h 13 a 14 (by have := rk_le l h a; omega) (by have := rk_le l h a; omega)]
  rfl
theorem boundOf_range (l : List S39) (h : recOk l = true) (a : ByteArray) : 0 ≤ boundOf l a ∧ boundOf l a ≤ 13000 := by
  have := bnd_bound l h 13 a
  unfold boundOf
  omega
theorem mx_eq (a b : Int) : mx a b = max a b := by unfold mx; omega
theorem bound_both (l : List S39) (h : recOk l = true) (n : Nat) : ∀ a k, n ≤ 100 → rk l a < n → n + 14 ≤ k → impl_bound.f k l a = some (bnd l n a) ∧ spec_l2Bound.f k l a = some (bnd l n a) := by
  induction n with
  | zero => intro a k _ hn; omega
  | succ n ih =>
    intro a k hn1 hn hk
    obtain ⟨k, rfl⟩ : ∃ m, k = m + 1 := ⟨k - 1, by omega⟩
    have hlen := recOk_len l h
    have hr := atOf_range l a
    simp only [impl_bound.f, spec_l2Bound.f, impl_at.f, spec_at l a (by omega) k (by omega), Option.bind_some, bnd]
    by_cases h0 : atOf l a < 0
    · rw [if_pos h0, if_pos h0, if_pos h0]; exact ⟨rfl, rfl⟩
    · have hx := ok_ref l h a h0
      obtain ⟨a6, b6⟩ := ih (rd_T39 l (atOf l a)).f6 k (by omega) (by omega) (by omega)
      obtain ⟨a7, b7⟩ := ih (rd_T39 l (atOf l a)).f7 k (by omega) (by omega) (by omega)
      have r6 := bnd_bound l h n (rd_T39 l (atOf l a)).f6
      have r7 := bnd_bound l h n (rd_T39 l (atOf l a)).f7
      rw [if_neg h0, if_neg h0, if_neg h0, if_pos (by omega), if_pos (by omega), if_pos (by omega), if_pos (by omega), a6, a7, b6, b7]
      simp only [Option.bind_some]
      rw [mx_eq]
      refine ⟨by rw [wrap_id (by omega) (by omega)], ?_⟩
      by_cases hlt : bnd l n (rd_T39 l (atOf l a)).f6 < bnd l n (rd_T39 l (atOf l a)).f7
      · rw [if_pos hlt, wrap_id (by omega) (by omega), Int.max_eq_right (by omega), Int.add_comm]
      · rw [if_neg hlt, wrap_id (by omega) (by omega), Int.max_eq_left (by omega), Int.add_comm]
theorem impl_bd (l : List S39) (h : recOk l = true) (a : ByteArray) (k : Nat) (hk : 27 ≤ k) : impl_bound.f k l a = some (boundOf l a) := (bound_both l h 13 a k (by omega) (by have := rk_le l h a; omega) (by omega)).1
theorem spec_bd (l : List S39) (h : recOk l = true) (a : ByteArray) (k : Nat) (hk : 27 ≤ k) : spec_l2Bound.f k l a = some (boundOf l a) := (bound_both l h 13 a k (by omega) (by have := rk_le l h a; omega) (by omega)).2

end Go.Proofs.Ytdkologncoofdaa.P
-- Q11
namespace Go.Proofs.Ytdkologncoofdaa.P
open Go.RowKit Go.Proofs.YtdkologncoofdaaW.PrintWords Go.Proofs.YtdkologncoofdaaW.PrintLast
set_option linter.unusedVariables false
set_option linter.unusedSimpArgs false

/-- A name's letters. -/
def ltr (a : ByteArray) : List UInt8 := a.data.toList
theorem ltr_eq (a : ByteArray) : a.toList = ltr a := ByteArray.toList_eq a
/-- What may come behind a name, itself too; f: how many steps. -/
def rch (l : List S39) : Nat → ByteArray → List UInt8 → Bool
  | 0, n, x => ltr n == x
  | f + 1, n, x => (ltr n == x) || (!(decide (atOf l n < 0)) && (rch l f (rd_T39 l (atOf l n)).f6 x || rch l f (rd_T39 l (atOf l n)).f7 x))
def R (l : List S39) (n : ByteArray) (x : List UInt8) : Bool := rch l 13 n x
theorem rch_more (l : List S39) (h : recOk l = true) (f : Nat) : ∀ (n : ByteArray) (g : Nat) (x : List UInt8), rk l n ≤ f → rk l n ≤ g → rch l f n x = rch l g n x := by
  induction f with
  | zero =>
    intro n g x hf hg
    have h0 : atOf l n < 0 := by
      have := atOf_range l n
      rcases Int.lt_or_le (atOf l n) 0 with h0 | h0
      · exact h0
      · unfold rk at hf; rw [if_neg (by omega)] at hf; omega
    cases g with
    | zero => rfl
    | succ g => simp [rch, h0]
  | succ f ih =>
    intro n g x hf hg
    by_cases h0 : atOf l n < 0
    · cases g with
      | zero => simp [rch, h0]
      | succ g => simp [rch, h0]
    · have hx := ok_ref l h n h0
      obtain ⟨g, rfl⟩ : ∃ q, g = q + 1 := ⟨g - 1, by omega⟩
      simp only [rch]
      rw [ih _ g x (by omega) (by omega), ih (rd_T39 l (atOf l n)).f7 g x (by omega) (by omega)]
theorem R_step (l : List S39) (h : recOk l = true) (n : ByteArray) (x : List UInt8) : R l n x = ((ltr n == x) || (!(decide (atOf l n < 0)) && (R l (rd_T39 l (atOf l n)).f6 x || R l (rd_T39 l (atOf l n)).f7 x))) := by
  have hk := rk_le l h n
  unfold R
  rw [rch_more l h 13 n 14 x (by omega) (by omega)]
  rfl
theorem R_self (l : List S39) (h : recOk l = true) (n : ByteArray) : R l n (ltr n) = true := by rw [R_step l h]; simp
theorem at_ltr (l : List S39) (a b : ByteArray) (e : ltr a = ltr b) : atOf l a = atOf l b := by
  unfold atOf
  simp only [ltr_eq, e]
theorem rk_ltr (l : List S39) (a b : ByteArray) (e : ltr a = ltr b) : rk l a = rk l b := by unfold rk; rw [at_ltr l a b e]

/-- A set of names, closed below a rank: of each phase in it that stands so low, what comes then and what comes else are in it, too. -/
def Closed (l : List S39) (S : List UInt8 → Bool) (m : Nat) : Prop := ∀ n : ByteArray, S (ltr n) = true → rk l n < m → ¬ atOf l n < 0 → S (ltr (rd_T39 l (atOf l n)).f6) = true ∧ S (ltr (rd_T39 l (atOf l n)).f7) = true
theorem closed_R (l : List S39) (h : recOk l = true) (S : List UInt8 → Bool) (d : Nat) : ∀ (n : ByteArray), rk l n ≤ d → Closed l S (rk l n + 1) → S (ltr n) = true → ∀ x, R l n x = true → S x = true := by
  induction d with
  | zero =>
    intro n hd hC hn x hx
    rw [R_step l h] at hx
    have h0 : atOf l n < 0 := by
      have := atOf_range l n
      rcases Int.lt_or_le (atOf l n) 0 with h0 | h0
      · exact h0
      · unfold rk at hd; rw [if_neg (by omega)] at hd; omega
    rw [show decide (atOf l n < 0) = true from decide_eq_true h0] at hx
    simp at hx
    rw [← hx]; exact hn
  | succ d ih =>
    intro n hd hC hn x hx
    rw [R_step l h] at hx
    simp only [Bool.or_eq_true, Bool.and_eq_true, Bool.not_eq_true', decide_eq_false_iff_not, beq_iff_eq] at hx
    rcases hx with hx | ⟨h0, hx⟩
    · rw [← hx]; exact hn
    · have hr := ok_ref l h n h0
      obtain ⟨h6, h7⟩ := hC n hn (by omega) h0
      rcases hx with hx | hx
      · exact ih _ (by omega) (fun m hm hk => hC m hm (by omega)) h6 x hx
      · exact ih _ (by omega) (fun m hm hk => hC m hm (by omega)) h7 x hx
theorem R_closed (l : List S39) (h : recOk l = true) (d : Nat) : ∀ (n : ByteArray), rk l n ≤ d → ∀ (m : ByteArray), R l n (ltr m) = true → ¬ atOf l m < 0 → R l n (ltr (rd_T39 l (atOf l m)).f6) = true ∧ R l n (ltr (rd_T39 l (atOf l m)).f7) = true := by
  induction d with
  | zero =>
    intro n hd m hm h0
    rw [R_step l h] at hm
    have hn0 : atOf l n < 0 := by
      have := atOf_range l n
      rcases Int.lt_or_le (atOf l n) 0 with h0 | h0
      · exact h0
      · unfold rk at hd; rw [if_neg (by omega)] at hd; omega
    rw [show decide (atOf l n < 0) = true from decide_eq_true hn0] at hm
    simp at hm
    rw [← at_ltr l n m hm] at h0
    exact absurd hn0 h0
  | succ d ih =>
    intro n hd m hm h0
    rw [R_step l h] at hm
    simp only [Bool.or_eq_true, Bool.and_eq_true, Bool.not_eq_true', decide_eq_false_iff_not, beq_iff_eq] at hm
    rcases hm with hm | ⟨hn0, hm⟩
    · rw [← at_ltr l n m hm] at h0 ⊢
      rw [R_step l h n, R_step l h n, show decide (atOf l n < 0) = false from decide_eq_false h0, R_self l h, R_self l h]
      simp
    · have hr := ok_ref l h n hn0
      have key : ∀ x, (R l (rd_T39 l (atOf l n)).f6 x = true ∨ R l (rd_T39 l (atOf l n)).f7 x = true) → R l n x = true := by
        intro x hx
        rw [R_step l h n, show decide (atOf l n < 0) = false from decide_eq_false hn0]
        rcases hx with hx | hx <;> simp [hx]
      rcases hm with hm | hm
      · have := ih _ (by omega) m hm h0
        exact ⟨key _ (.inl this.1), key _ (.inl this.2)⟩
      · have := ih _ (by omega) m hm h0
        exact ⟨key _ (.inr this.1), key _ (.inr this.2)⟩
theorem closed_union (l : List S39) (h : recOk l = true) (S : List UInt8 → Bool) (n : ByteArray) (m : Nat) (hC : Closed l S m) : Closed l (fun x => S x || R l n x) m := by
  intro q hq hk h0
  simp only [Bool.or_eq_true] at hq ⊢
  rcases hq with hq | hq
  · have := hC q hq hk h0; exact ⟨.inl this.1, .inl this.2⟩
  · have := R_closed l h (rk l n) n (Nat.le_refl _) q hq h0; exact ⟨.inr this.1, .inr this.2⟩
theorem closed_add (l : List S39) (S : List UInt8 → Bool) (n : ByteArray) (hC : Closed l S (rk l n + 1)) : Closed l (fun x => S x || (ltr n == x)) (rk l n) := by
  intro q hq hk h0
  simp only [Bool.or_eq_true, beq_iff_eq] at hq ⊢
  rcases hq with hq | hq
  · have := hC q hq (by omega) h0; exact ⟨.inl this.1, .inl this.2⟩
  · rw [rk_ltr l n q hq] at hk; omega

/-! ### A map that holds a set -/
variable {H : Type}
/-- The map has just these names, each with true. -/
def Sat (D : DataW H) (S : List UInt8 → Bool) : Prop := (∀ x, Maps.has D (.string x) = S x) ∧ ∀ x zd, S x = true → D.atKey (.string x) zd = .lit (.bool true)
theorem sat_empty : Sat (.map [] : DataW H) (fun _ => false) := ⟨fun x => rfl, fun x zd h => by cases h⟩
theorem sat_put {D : DataW H} {S : List UInt8 → Bool} (h : Sat D S) (hD : Maps.IsMap D) (n : List UInt8) : Sat (D.put (.string n) (.lit (.bool true))) (fun x => S x || (n == x)) := by
  refine ⟨fun x => ?_, fun x zd hx => ?_⟩
  · by_cases e : n = x
    · subst e; rw [Maps.has_put_same hD (by simp [WideAt.IsKeyLit])]; simp
    · rw [Maps.has_put_other (by intro z; cases z; exact e rfl), h.1]; simp [e]
  · by_cases e : n = x
    · subst e; rw [Maps.atKey_put_same hD (by simp [WideAt.IsKeyLit])]
    · rw [Maps.atKey_put_other (by intro z; cases z; exact e rfl)]
      exact h.2 x zd (by simpa [e] using hx)
theorem sat_at {D : DataW H} {S : List UInt8 → Bool} (h : Sat D S) (x : List UInt8) : D.atKey (.string x) (.lit (.bool false)) = .lit (.bool (S x)) := by
  cases e : S x with
  | true => exact h.2 x _ e
  | false => exact Maps.atKey_of_not_has (by rw [h.1, e]) _
theorem sat_of {D : DataW H} {S S' : List UInt8 → Bool} (h : Sat D S) (e : ∀ x, S x = S' x) : Sat D S' := by
  have : S = S' := funext e
  rw [← this]; exact h

end Go.Proofs.Ytdkologncoofdaa.P
-- Q12
namespace Go.Proofs.Ytdkologncoofdaa.P
open Go.RowKit Go.Proofs.YtdkologncoofdaaW.PrintWords Go.Proofs.YtdkologncoofdaaW.PrintLast
/-! ### What may come -/
def canB (l : List S39) : Nat → ByteArray → Int → Bool
  | 0, n, e => endOf n == e
  | f + 1, n, e => if atOf l n < 0 then endOf n == e else (canB l f (rd_T39 l (atOf l n)).f6 e || canB l f (rd_T39 l (atOf l n)).f7 e)
theorem ltr_inj {a b : ByteArray} (h : ltr a = ltr b) : a = b := by
  obtain ⟨⟨a⟩⟩ := a; obtain ⟨⟨b⟩⟩ := b; simp [ltr] at h; subst h; rfl
theorem canB_iff (l : List S39) (hok : recOk l = true) (e : Int) (he : 1 ≤ e) (f : Nat) : ∀ n, rk l n ≤ f → (canB l f n e = true ↔ ∃ m : ByteArray, R l n (ltr m) = true ∧ endOf m = e) := by
  induction f with
  | zero =>
    intro n h
    have h0 : atOf l n < 0 := by
      unfold rk at h
      have := atOf_range l n
      split at h <;> omega
    simp only [R_step l hok n, h0, decide_true, Bool.not_true, Bool.false_and, Bool.or_false, canB]
    constructor
    · intro hh; exact ⟨n, by simp, by simpa using hh⟩
    · rintro ⟨m, hm, hme⟩
      obtain rfl := ltr_inj (by simpa using hm)
      simpa using hme
  | succ f ih =>
    intro n h
    by_cases h0 : atOf l n < 0
    · simp only [R_step l hok n, h0, decide_true, Bool.not_true, Bool.false_and, Bool.or_false, canB, if_true]
      constructor
      · intro hh; exact ⟨n, by simp, by simpa using hh⟩
      · rintro ⟨m, hm, hme⟩
        obtain rfl := ltr_inj (by simpa using hm)
        simpa using hme
    · have hx := ok_ref l hok n h0
      simp only [canB, if_neg h0, Bool.or_eq_true]
      rw [ih _ (by omega), ih _ (by omega)]
      constructor
      · rintro (⟨m, hm, hme⟩ | ⟨m, hm, hme⟩)
        · exact ⟨m, by rw [R_step l hok n]; simp [h0, hm], hme⟩
        · exact ⟨m, by rw [R_step l hok n]; simp [h0, hm], hme⟩
      · rintro ⟨m, hm, hme⟩
        rw [R_step l hok n] at hm
        simp only [h0, decide_false, Bool.not_false, Bool.true_and, Bool.or_eq_true] at hm
        rcases hm with hm | hm | hm
        · exfalso
          obtain rfl := ltr_inj (by simpa using hm)
          exact h0 (end_no l hok n (by omega))
        · exact .inl ⟨m, hm, hme⟩
        · exact .inr ⟨m, hm, hme⟩
/-- Whether the end may come. -/
def canOf (l : List S39) (n : ByteArray) (e : Int) : Bool := recOk l && (inB e 1 3 && canB l 12 n e)
theorem at_small (l : List S39) (hok : recOk l = true) (n : ByteArray) (h0 : ¬ atOf l n < 0) : n.size ≤ 1000000 := by
  have hr := atOf_range l n
  unfold atOf at h0
  split at h0
  · rename_i i hi
    rw [List.findIdx?_eq_some_iff_getElem] at hi
    obtain ⟨hlt, hp, _⟩ := hi
    have h := recOk_at l hok i hlt
    unfold okAt phOk at h
    simp only [Bool.and_eq_true] at h
    have hn := h.1.1.1.1.1.1.1
    unfold nmOk at hn
    simp only [Bool.and_eq_true, inB_iff] at hn
    have e : l[i].f0 = n := by
      have := eq_of_beq hp
      rw [ByteArray.toList_eq, ByteArray.toList_eq] at this
      exact ltr_inj this
    have e2 : (rd_T39 l (i : Int)).f0 = n := by rw [← e]; simp [rd_T39, List.getD_eq_getElem?_getD, List.getElem?_eq_getElem hlt]
    rw [← e2]
    omega
  · omega
end Go.Proofs.Ytdkologncoofdaa.P
-- XWalk
namespace Go
open Go.Maps (Keyed)
theorem plainElem_bool_inv {H : Type} {P : Program} {e : TypeId} (he : P.underlying e = some .bool) {v : Value} {z : DataW H × List MemPlace} (h : plainElem P e v = some z) : ∃ x, v = .bool x ∧ z = (.lit (.bool x), []) := by
  cases v <;> simp [plainElem, he] at h
  exact ⟨_, rfl, h.symm⟩
/-- 'm[k]' (without 'ok') at bools. -/
theorem wpList_lookup_own_bool {H : Type} {P : Program} (w : World) {ops : Array Oper} {rest : List Oper} {o : Oper} {a : Act} {Q : Exit → Act → World → Prop}
    (hg : o.guard = none) (m x : Operand) (t : TypeId) (hop : o.op = Op.lookup t m x false)
    (k e : TypeId) (K : Keyed P k) (ht : P.underlying t = some (.map k e)) (he : P.underlying e = some .bool) (hz : (zeroValue e).run P w = .ok (.bool false) w) (b n : Nat) (D : DataW H)
    (hm : a.eval m = .map (some b)) (hown : w.ownsMap P k (plainElem P e) b n D) (key : Value) (kl : Lit) (hx : a.eval x = key) (hkey : keyOf P k key = some kl)
    (hK : ∀ c : Bool, D.atKey kl (.lit (.bool false)) = .lit (.bool c) → wpList P ops Q rest (a.put o.dst (.bool c)) w) :
    wpList P ops Q (o :: rest) a w := by
  refine wpList_plain hg fun K' hK' => ?_
  obtain ⟨v, ps, hrun, hv⟩ := hown.lookup K ht hz (plainElem_bool he false) hkey
  obtain ⟨c, rfl, hc⟩ := plainElem_bool_inv he hv
  simp only [Prod.mk.injEq] at hc
  unfold Oper.wp
  simp [execOp, hop, hm, hx, hrun, Result.andThen]
  exact hK' _ _ (hK c hc.1)
end Go
namespace Go.Proofs.Ytdkologncoofdaa.P
open Go.RowKit Go.Proofs.YtdkologncoofdaaW.PrintWords Go.Proofs.YtdkologncoofdaaW.PrintLast
set_option linter.unusedVariables false
set_option linter.unusedSimpArgs false

theorem zero4 (w : World) : (zeroValue 4).run Try.prog w = .ok (.bool false) w := by kernel_rfl
theorem law9 : Maps.Keyed Try.prog 9 := Maps.string_keyed Try.underlying9

/-- What a walk leans on: the recipe came in; the map, and the three cells that the walk's function captures. -/
structure Seat (w0 W : World) (bS bR bW B : Nat) (A : Option Addr) (c n : Nat) : Prop where
  below : Below w0.heap.size w0 W
  new : w0.heap.size ≤ B
  s : W.heap[bS]? = some (.cells #[.map (some B)] 90 (0, 0))
  r : W.heap[bR]? = some (.cells #[.slice A n c] 26 (0, 0))
  f : W.heap[bW]? = some (.cells #[.func (.func 97) #[] #[.pointer (some ⟨bS, 0, none⟩), .pointer (some ⟨bR, 0, none⟩), .pointer (some ⟨bW, 0, none⟩)]] 110 (0, 0))
theorem blk_ne_map {W : World} {P : Program} {k : TypeId} {RR : Value → Option (DataW Unit × List MemPlace)} {b g m : Nat} {D : DataW Unit} {cs : Array Value} {t : TypeId} {fr : Nat × Nat} (h : W.ownsMap P k RR b m D) (hg : W.heap[g]? = some (.cells cs t fr)) : g ≠ b := by
  rintro rfl
  obtain ⟨es, clock, hb, _⟩ := h
  rw [hb] at hg
  cases hg
theorem Seat.grown {w0 W W' : World} {bS bR bW B : Nat} {A : Option Addr} {c n m : Nat} {D : DataW Unit} (h : Seat w0 W bS bR bW B A c n) (ho : W.ownsMap Try.prog 9 (plainElem Try.prog 4) B m D) {row : Option Nat} (hrow : row = none ∨ row = some B) (hg : W.grownBy W' row) : Seat w0 W' bS bR bW B A c n := by
  have hne : ∀ {g : Nat} {cs : Array Value} {t : TypeId} {fr : Nat × Nat}, W.heap[g]? = some (.cells cs t fr) → some g ≠ row := by
    intro g cs t fr hg'
    rcases hrow with rfl | rfl
    · simp
    · intro e; exact blk_ne_map ho hg' (Option.some.inj e)
  refine ⟨h.below.grown hg h.below.size (fun k hk => ?_), h.new, ?_, ?_, ?_⟩
  · rcases hrow with rfl | rfl
    · cases hk
    · cases hk; exact h.new
  · exact blk_grown h.s hg (hne h.s)
  · exact blk_grown h.r hg (hne h.r)
  · exact blk_grown h.f hg (hne h.f)
theorem grown_none {w w1 : World} (h : Below w.heap.size w w1) : w.grownBy w1 none := grown_of_below h none

theorem nm_small (s : ByteArray) (h : nmOk s = true) : s.size ≤ maxLen := by
  unfold nmOk at h
  simp only [Bool.and_eq_true, inB_iff] at h
  unfold maxLen
  omega
theorem small_names (l : List S39) (hok : recOk l = true) (n : ByteArray) (h0 : ¬ atOf l n < 0) : (rd_T39 l (atOf l n)).f6.size ≤ maxLen ∧ (rd_T39 l (atOf l n)).f7.size ≤ maxLen := by
  have hr := atOf_range l n
  obtain ⟨i, hi⟩ := Int.eq_ofNat_of_zero_le (show 0 ≤ atOf l n by omega)
  have h := recOk_at l hok i (by omega)
  unfold okAt phOk at h
  simp only [Bool.and_eq_true] at h
  rw [hi]
  exact ⟨nm_small _ h.1.1.1.1.2, nm_small _ h.1.1.1.2⟩

set_option maxHeartbeats 8000000 in
set_option maxRecDepth 100000 in
theorem walk_calls (l : List S39) (hok : recOk l = true) (w0 : World) (A : Option Addr) (c : Nat) (hr : Kd.C k39 w0 A l.length l) (hc : l.length ≤ c) (bS bR bW B : Nat) (d : Nat) :
    ∀ (n : ByteArray) (W : World) (D : DataW Unit) (m : Nat) (S : List UInt8 → Bool), rk l n < d → n.size ≤ maxLen → Seat w0 W bS bR bW B A c l.length → W.ownsMap Try.prog 9 (plainElem Try.prog 4) B m D → Sat D S → Closed l S (rk l n + 1) → m + 2 ^ d ≤ 1000000 →
    Calls Try.prog 97 #[.string n, .pointer (some ⟨bS, 0, none⟩), .pointer (some ⟨bR, 0, none⟩), .pointer (some ⟨bW, 0, none⟩)] W
      fun e w' => e = .returned (.tuple #[]) ∧ ∃ (D' : DataW Unit) (m' : Nat), w'.ownsMap Try.prog 9 (plainElem Try.prog 4) B m' D' ∧ Sat D' (fun x => S x || R l n x) ∧ m' + 1 ≤ m + 2 ^ d ∧ W.grownBy w' (some B) := by
  induction d with
  | zero => intro n W D m S hd; omega
  | succ d ih =>
    intro n W D m S hd hn hs ho hsat hC hm
    have hkey : keyOf Try.prog 9 (.string n) = some (.string (ltr n)) := Go.WideMaps.keyOf_string_mk Try.underlying9 hn
    have hm2 : m < maxLen := by have : 1 ≤ 2 ^ (d + 1) := Nat.one_le_two_pow; unfold maxLen; omega
    have cS : W.cell? ⟨bS, 0, none⟩ = some (.map (some B)) := (blk_cell hs.s 0).trans rfl
    have HS := Aside0.mk hs
    have HO := Aside0.mk ho
    have HSat := Aside0.mk hsat
    have HC := Aside0.mk hC
    have HR := Aside0.mk hr
    have hu26 := Try.underlying26
    have hu39 := Try.underlying39
    clear hs ho hsat hC hr
    have hp : 1 ≤ 2 ^ d := Nat.one_le_two_pow
    cases hS : S (ltr n) with
    | true =>
      have H0 := Aside0.mk hS
      clear hS
      go_enter Try.func97, Try.ntmps97
      go_wp2_with (at_lookup; refine wpList_lookup_own_bool (H := Unit) _ rfl _ _ 90 rfl 9 4 law9 Try.underlying90 Try.underlying4 (zero4 _) B m D rfl HO.out _ _ rfl hkey ?_; intro cc hat; rw [sat_at HSat.out, H0.out] at hat; cases hat)
      go_frame
      refine bodyPost_ret (v := .tuple #[]) (results_none rfl _ _ _) rfl ?_
      refine ⟨rfl, D, m, HO.out, sat_of HSat.out (fun x => ?_), by rw [Nat.pow_succ]; omega, grown_of_below (Below.refl _ _) _⟩
      cases hx : R l n x with
      | false => simp
      | true => rw [closed_R l hok S (rk l n) n (Nat.le_refl _) HC.out H0.out x hx]; rfl
    | false =>
      have H0 := Aside0.mk hS
      clear hS
      by_cases h0 : atOf l n < 0
      · have h0b : decide (0 ≤ atOf l n) = false := decide_eq_false (by omega)
        go_enter Try.func97, Try.ntmps97
        go_wp2_with (first | (at_lookup; refine wpList_lookup_own_bool (H := Unit) _ rfl _ _ 90 rfl 9 4 law9 Try.underlying90 Try.underlying4 (zero4 _) B m D rfl HO.out _ _ rfl hkey ?_; intro cc hat; rw [sat_at HSat.out, H0.out] at hat; cases hat) | (at_mapUpdate; refine wpList_mapUpdate_own (H := Unit) _ rfl _ _ _ 90 rfl 9 4 law9 Try.underlying90 (plainElem Try.prog 4) B m D rfl HO.out hm2 _ _ _ rfl rfl hkey (.lit (.bool true)) [] (plainElem_bool Try.underlying4 true) ?_; intro w1 hown1 hg1; have HS1 := Aside0.mk (HS.out.grown HO.out (.inr rfl) hg1); have cR1 : w1.cell? ⟨bR, 0, none⟩ = some (.slice A l.length c) := (blk_cell HS1.out.r 0).trans rfl; have HO1 := Aside0.mk hown1; have HG1 := Aside0.mk hg1; clear hown1 hg1) | (go_at_call 69; refine (impl_at.calls _ _ l n (atOf l n) _ (Kd.C_below HR.out HS1.out.below) hc rfl).mono ?_; rintro e w2 ⟨rfl, hb⟩))
        go_end0
        have e2 := World.grownBy.andThen HG1.out (grown_none hb) (fun j hj => by cases hj)
        refine ⟨rfl, _, _, HO1.out.kept (grown_none hb) (by simp), sat_of (sat_put HSat.out HO.out.isMap (ltr n)) (fun x => ?_), by rw [Nat.pow_succ]; omega, e2⟩
        rw [R_step l hok n x, show decide (atOf l n < 0) = true from decide_eq_true h0]
        simp
      · have h0b : decide (0 ≤ atOf l n) = true := decide_eq_true (by omega)
        have H00 := Aside0.mk h0
        have h0c : 0 ≤ atOf l n := by omega
        have hlt : atOf l n < (l.length : Int) := (atOf_range l n).2
        obtain ⟨ad, e, x0, x1, x2, x3, x4, x5, x6, x7⟩ := at_T39 HR.out (atOf l n) h0c hlt
        cases e
        have HX6 := Aside0.mk x6
        have HX7 := Aside0.mk x7
        clear x0 x1 x2 x3 x4 x5 x6 x7
        go_enter Try.func97, Try.ntmps97
        go_wp2_with (first | (at_lookup; refine wpList_lookup_own_bool (H := Unit) _ rfl _ _ 90 rfl 9 4 law9 Try.underlying90 Try.underlying4 (zero4 _) B m D rfl HO.out _ _ rfl hkey ?_; intro cc hat; rw [sat_at HSat.out, H0.out] at hat; cases hat) | (at_mapUpdate; refine wpList_mapUpdate_own (H := Unit) _ rfl _ _ _ 90 rfl 9 4 law9 Try.underlying90 (plainElem Try.prog 4) B m D rfl HO.out hm2 _ _ _ rfl rfl hkey (.lit (.bool true)) [] (plainElem_bool Try.underlying4 true) ?_; intro w1 hown1 hg1; have HS1 := Aside0.mk (HS.out.grown HO.out (.inr rfl) hg1); have cR1 : w1.cell? ⟨bR, 0, none⟩ = some (.slice (some ad) l.length c) := (blk_cell HS1.out.r 0).trans rfl; have HO1 := Aside0.mk hown1; have HG1 := Aside0.mk hg1; clear hown1 hg1) | (go_at_call 69; refine (impl_at.calls _ _ l n (atOf l n) _ (Kd.C_below HR.out HS1.out.below) hc rfl).mono ?_; rintro e w2 ⟨rfl, hb⟩; have HB2 := Aside0.mk hb; have HS2 := Aside0.mk (HS1.out.grown HO1.out (.inl rfl) (grown_none hb)); have HO2 := Aside0.mk (HO1.out.kept (grown_none hb) (by simp)); have cR2 : w2.cell? ⟨bR, 0, none⟩ = some (.slice (some ad) l.length c) := (blk_cell HS2.out.r 0).trans rfl; have cF2 : w2.cell? ⟨bW, 0, none⟩ = some (.func (.func 97) #[] #[.pointer (some ⟨bS, 0, none⟩), .pointer (some ⟨bR, 0, none⟩), .pointer (some ⟨bW, 0, none⟩)]) := (blk_cell HS2.out.f 0).trans rfl; have c6 := (HS2.out.below.cell (World.block_lt_of_cell? w0 _ HX6.out)).trans HX6.out; have h0t := eq_true h0c; have hltt := eq_true hlt; clear hb))
        go_still_tail 6, (by kernel_rfl)
        change wpList _ _ _ _ _ w2.drew
        obtain ⟨w3, hw3⟩ : ∃ w3, w3 = w2.drew := ⟨_, rfl⟩
        rw [← hw3]
        have hb3 : Below w2.heap.size w2 w3 := by rw [hw3]; exact (Below.refl _ _).drew
        clear hw3 cR1 cR2 cF2 c6
        have HS3 := Aside0.mk (HS2.out.grown HO2.out (.inl rfl) (grown_none hb3))
        have HO3 := Aside0.mk (HO2.out.kept (grown_none hb3) (by simp))
        have HG3 := Aside0.mk (World.grownBy.andThen (World.grownBy.andThen HG1.out (grown_none HB2.out) (fun j hj => by cases hj)) (grown_none hb3) (fun j hj => by cases hj))
        have hx := ok_ref l hok n (Int.not_lt.mpr H00.out)
        have hsat1 := sat_put HSat.out HO.out.isMap (ltr n)
        have hcl1 := closed_add l S n HC.out
        have hz := small_names l hok n (Int.not_lt.mpr H00.out)
        have hcall := ih (rd_T39 l (atOf l n)).f6 w3 _ (m + 1) _ (by omega) hz.1 HS3.out HO3.out hsat1 (fun q hq hk => hcl1 q hq (by omega)) (by rw [Nat.pow_succ] at hm; omega)
        have HI := Aside0.mk ih
        have HX := Aside0.mk hx
        have HC1 := Aside0.mk hcl1
        have HZ := Aside0.mk hz
        clear ih hsat1 hcl1 hx hz hb3 HB2 HS1 HO1 HG1 HS2 HO2
        go_wp2_with (go_at_call 97; refine hcall.mono ?_; rintro e w4 ⟨rfl, D2, m2, hown2, hsat2, hm2', hg2⟩; have HS4 := Aside0.mk (HS3.out.grown HO3.out (.inr rfl) hg2); have HO4 := Aside0.mk hown2; have HSat2 := Aside0.mk hsat2; have HG4 := Aside0.mk (World.grownBy.andThen HG3.out hg2 (fun j hj => .inr (by cases hj; rfl))); have cR4 : w4.cell? ⟨bR, 0, none⟩ = some (.slice (some ad) l.length c) := (blk_cell HS4.out.r 0).trans rfl; have cF4 : w4.cell? ⟨bW, 0, none⟩ = some (.func (.func 97) #[] #[.pointer (some ⟨bS, 0, none⟩), .pointer (some ⟨bR, 0, none⟩), .pointer (some ⟨bW, 0, none⟩)]) := (blk_cell HS4.out.f 0).trans rfl; have c7 := (HS4.out.below.cell (World.block_lt_of_cell? w0 _ HX7.out)).trans HX7.out; clear hown2 hsat2 hg2 hcall)
        go_still_tail 6, (by kernel_rfl)
        change wpList _ _ _ _ _ w4.drew
        obtain ⟨w5, hw5⟩ : ∃ w5, w5 = w4.drew := ⟨_, rfl⟩
        rw [← hw5]
        have hb5 : Below w4.heap.size w4 w5 := by rw [hw5]; exact (Below.refl _ _).drew
        clear hw5 cR4 cF4 c7
        have HS5 := Aside0.mk (HS4.out.grown HO4.out (.inl rfl) (grown_none hb5))
        have HO5 := Aside0.mk (HO4.out.kept (grown_none hb5) (by simp))
        have HG5 := Aside0.mk (World.grownBy.andThen HG4.out (grown_none hb5) (fun j hj => by cases hj))
        have hcall2 := HI.out (rd_T39 l (atOf l n)).f7 w5 _ m2 _ (by have := HX.out; omega) HZ.out.2 HS5.out HO5.out HSat2.out (fun q hq hk => closed_union l hok _ (rd_T39 l (atOf l n)).f6 (rk l n) HC1.out q hq (by have := HX.out; omega)) (by rw [Nat.pow_succ] at hm; omega)
        clear hb5 HS3 HO3 HG3 HS4 HO4 HG4
        go_wp2_with (go_at_call 97; refine hcall2.mono ?_; rintro e w6 ⟨rfl, D3, m3, hown3, hsat3, hm3, hg3⟩; clear hcall2)
        go_end0
        refine ⟨rfl, D3, m3, hown3, sat_of hsat3 (fun x => ?_), by rw [Nat.pow_succ]; omega, World.grownBy.andThen HG5.out hg3 (fun j hj => .inr (by cases hj; rfl))⟩
        rw [R_step l hok n x, show decide (atOf l n < 0) = false from decide_eq_false (Int.not_lt.mpr H00.out)]
        simp [Bool.or_assoc]

end Go.Proofs.Ytdkologncoofdaa.P
-- XReach
namespace Go.Proofs.Ytdkologncoofdaa.P
open Go.RowKit Go.Proofs.YtdkologncoofdaaW.PrintWords Go.Proofs.YtdkologncoofdaaW.PrintLast
set_option linter.unusedVariables false
set_option linter.unusedSimpArgs false
set_option maxHeartbeats 8000000
set_option maxRecDepth 100000

/-- The world in which 'reach' calls its walk. -/
def reachW (w : World) (A : Option Addr) (c n : Nat) : World :=
  (((w.alloc (Obj.cells #[Value.slice A n c] 26)).alloc (Obj.map #[] 0)).alloc (Obj.cells #[Value.map (some (w.heap.size + 1))] 90)).alloc
    (Obj.cells #[Value.func (Fn.func 97) #[] #[Value.pointer (some { block := w.heap.size + 1 + 1, off := 0 }), Value.pointer (some { block := w.heap.size, off := 0 }), Value.pointer (some { block := w.heap.size + 1 + 1 + 1, off := 0 })]] 110)
theorem reachW_below (w : World) (A : Option Addr) (c n : Nat) : Below w.heap.size w (reachW w A c n) := by
  unfold reachW
  refine Below.alloc (Below.alloc (Below.alloc (Below.alloc (Below.refl _ _) ?_ _) ?_ _) ?_ _) ?_ _ <;> simp <;> omega
theorem alloc_at (w : World) (o : Obj) (b : Nat) (h : b = w.heap.size) : (w.alloc o).heap[b]? = some o := by
  subst h; simp only [World.alloc, Array.getElem?_push_size]
theorem alloc_old (w : World) (o : Obj) (b : Nat) (x : Obj) (h : w.heap[b]? = some x) : (w.alloc o).heap[b]? = some x := by
  have hlt : b < w.heap.size := (Array.getElem?_eq_some_iff.mp h).1
  simp only [World.alloc]
  rw [Array.getElem?_push_lt hlt]
  exact (Array.getElem?_eq_some_iff.mp h).2 ▸ rfl
theorem reachW_seat (w : World) (A : Option Addr) (c n : Nat) : Seat w (reachW w A c n) (w.heap.size + 1 + 1) w.heap.size (w.heap.size + 1 + 1 + 1) (w.heap.size + 1) A c n := by
  refine ⟨reachW_below w A c n, by omega, ?_, ?_, ?_⟩
  · unfold reachW; exact alloc_old _ _ _ _ (alloc_at _ _ _ (by simp))
  · unfold reachW; exact alloc_old _ _ _ _ (alloc_old _ _ _ _ (alloc_old _ _ _ _ (alloc_at _ _ _ rfl)))
  · unfold reachW; exact alloc_at _ _ _ (by simp)
theorem reachW_owns {H : Type} (w : World) (A : Option Addr) (c n : Nat) : (reachW w A c n).ownsMap Try.prog 9 (plainElem (H := H) Try.prog 4) (w.heap.size + 1) 0 (.map []) := by
  have h := World.ownsMap_made (w.alloc (Obj.cells #[Value.slice A n c] 26)) Try.prog 9 (plainElem (H := H) Try.prog 4)
  have e : (w.alloc (Obj.cells #[Value.slice A n c] 26)).heap.size = w.heap.size + 1 := by simp
  rw [e] at h
  unfold reachW
  refine h.kept (grown_none ?_) (by simp)
  refine Below.alloc (Below.alloc (Below.refl _ _) ?_ _) ?_ _ <;> simp
theorem rk_lt (l : List S39) (hok : recOk l = true) (n : ByteArray) : rk l n < 13 := by
  have h : inB (l.length : Int) 1 12 = true := by
    unfold recOk at hok
    simp only [Bool.and_eq_true] at hok
    exact hok.1
  rw [inB_iff] at h
  have := atOf_range l n
  unfold rk
  split <;> omega
theorem reach_calls (l : List S39) (hok : recOk l = true) (w : World) (A : Option Addr) (c : Nat) (hr : Kd.C k39 w A l.length l) (hc : l.length ≤ c) (n : ByteArray) (hn : n.size ≤ maxLen) :
    Calls Try.prog 70 #[.slice A l.length c, .string n] w fun e w' => ∃ (B : Nat) (D : DataW Unit) (m : Nat), e = .returned (.map (some B)) ∧ w.heap.size ≤ B ∧ w'.ownsMap Try.prog 9 (plainElem Try.prog 4) B m D ∧ Sat D (R l n) ∧ m ≤ 8192 ∧ Below w.heap.size w w' := by
  have hmm := @run_makeMap Try.prog
  have hcall := walk_calls l hok w A c hr hc _ _ _ _ 13 n (reachW w A c l.length) _ 0 _ (rk_lt l hok n) hn (reachW_seat w A c l.length) (reachW_owns w A c l.length) sat_empty (fun q h => by cases h) (by decide)
  unfold reachW at hcall
  have HS := Aside0.mk (reachW_seat w A c l.length)
  have HO := Aside0.mk (reachW_owns (H := Unit) w A c l.length)
  clear hr
  go_enter Try.func70, Try.ntmps70
  go_wp2_with (go_at_call 97; refine hcall.mono ?_; rintro e w2 ⟨rfl, D2, m2, hown2, hsat2, hm2, hg2⟩; have HS2 := Aside0.mk (HS.out.grown HO.out (.inr rfl) hg2); have HO2 := Aside0.mk hown2; have HSat2 := Aside0.mk hsat2; have cS2 : w2.cell? ⟨w.heap.size + 1 + 1, 0, none⟩ = some (.map (some (w.heap.size + 1))) := (blk_cell HS2.out.s 0).trans rfl; clear hcall hown2 hsat2 hg2)
  go_ret
  refine ⟨_, D2, m2, rfl, by omega, HO2.out, sat_of HSat2.out (fun x => by simp), by omega, HS2.out.below⟩

end Go.Proofs.Ytdkologncoofdaa.P
-- XCan
namespace Go.Proofs.Ytdkologncoofdaa.P
open Go.RowKit Go.Proofs.YtdkologncoofdaaW.PrintWords Go.Proofs.YtdkologncoofdaaW.PrintLast
set_option linter.unusedVariables false
set_option linter.unusedSimpArgs false
def impl_RecCan.f (_k : Nat) (l : List S39) (a : ByteArray) (e : Int) : Option Bool := some (canOf l a e)
theorem impl_RecCan.mono : ∀ a0 a1 a2 k, LeO (impl_RecCan.f k a0 a1 a2) (impl_RecCan.f (k + 1) a0 a1 a2) := fun _ _ _ _ => LeO.refl _

theorem keyOf_string_inv {key : Value} {kl : Lit} (h : keyOf Try.prog 9 key = some kl) : ∃ x, key = .string x ∧ kl = .string (ltr x) := by
  rw [keyOf_string Try.underlying9] at h
  cases key <;> simp [mapKey, Try.underlying9] at h
  exact ⟨_, rfl, h.2.symm⟩

/-- The step over a set of strings: the element is 'true'. -/
theorem wpList_next_sat (w : World) {ops : Array Oper} {rest : List Oper} {o : Oper} {a : Act} {Q : Exit → Act → World → Prop} (hg : o.guard = none) (it : Operand) (hop : o.op = Op.next it false)
    (b r n : Nat) (D : DataW Unit) (S : List UInt8 → Bool) (hS : Sat D S) (left : Lit → Bool) (cnt : Nat)
    (hit : a.eval it = .pointer (some ⟨r, 0, none⟩)) (h : w.ranges Try.prog 9 (plainElem Try.prog 4) b r n D left cnt)
    (hDone : cnt = 0 → (∀ kl, left kl = false) → wpList Try.prog ops Q rest (a.put o.dst (.tuple #[.bool false])) w)
    (hMore : ∀ (x : ByteArray) (w' : World) (cnt' : Nat), S (ltr x) = true → left (.string (ltr x)) = true → w'.ranges Try.prog 9 (plainElem Try.prog 4) b r n D (fun z => left z && !z.sameKey (.string (ltr x))) cnt' → cnt' < cnt →
      w.grownBy w' (some r) → w'.heap.size = w.heap.size → (Instr.entry (.pointer (some ⟨r, 0, none⟩))).run Try.prog w' = .ok (.tuple #[.string x, .bool true]) w' → wpList Try.prog ops Q rest (a.put o.dst (.tuple #[.bool true, .string x, .bool true])) w') :
    wpList Try.prog ops Q (o :: rest) a w :=
  wpList_next_ranges (α := ByteArray) (β := Bool) w hg it hop 9 law9 (plainElem Try.prog 4) Value.string Value.bool (fun key kl h => by obtain ⟨x, e, _⟩ := keyOf_string_inv h; exact ⟨x, e⟩) (fun v y h => by obtain ⟨c, e, _⟩ := plainElem_bool_inv Try.underlying4 h; exact ⟨c, e⟩) b r n D left cnt hit h hDone
    (fun x cx kl y w7 cnt7 hkey hlk hv hat hrg7 hlt7 hg7 hs7 hen => by
      obtain ⟨x', ex, ekl⟩ := keyOf_string_inv hkey
      cases ex
      subst ekl
      have hhas : Maps.has D (.string (ltr x)) = true := by
        cases hh : Maps.has D (.string (ltr x)) with
        | true => rfl
        | false =>
          have h1 := hat (.lit (.bool true))
          have h2 := hat (.lit (.bool false))
          rw [Maps.atKey_of_not_has hh] at h1 h2
          rw [← h2] at h1
          cases h1
      have hSx : S (ltr x) = true := by rw [← hS.1]; exact hhas
      obtain ⟨c, ec, ey⟩ := plainElem_bool_inv Try.underlying4 hv
      cases ec
      have h1 := hat (.lit (.bool true))
      have h9 := hS.2 (ltr x) (.lit (.bool true)) hSx
      rw [h9, ey] at h1
      have hct : cx = true := by
        have h2 : (DataW.lit (H := Unit) (Lit.bool true)) = .lit (.bool cx) := h1
        simp only [DataW.lit.injEq, Lit.bool.injEq] at h2
        exact h2.symm
      subst hct
      exact hMore x w7 cnt7 hSx hlk hrg7 hlt7 hg7 hs7 hen)

set_option maxHeartbeats 8000000 in
set_option maxRecDepth 100000 in
theorem impl_RecCan.calls (k : Nat) (A0 : Option Addr) (c0 : Nat) (l0 : List (S39)) (a1 : ByteArray) (a2 : Int) (r : Bool) (w : World) (hr0 : Kd.C k39 w A0 l0.length l0) (hc0 : l0.length ≤ c0) (h : impl_RecCan.f k l0 a1 a2 = some r) :
    Calls Try.prog 25 #[.slice A0 l0.length c0, .string a1, .int .i64 a2] w fun e w' => e = .returned (.bool r) ∧ Below w.heap.size w w' := by
  obtain rfl := Option.some.inj h
  clear h
  have HR := Aside0.mk hr0
  have HC := Aside0.mk hc0
  clear hr0 hc0
  cases hok : recOk l0 with
  | false =>
    have e : canOf l0 a1 a2 = false := by simp [canOf, hok]
    rw [e]
    clear e
    have HK := Aside0.mk hok
    clear hok
    go_enter Try.func25, Try.ntmps25
    go_wp2_with (go_at_call 36; refine (impl_RecOk.calls 80 _ _ l0 _ _ HR.out HC.out (impl_ok l0 80 (Nat.le_refl _))).mono ?_; rw [HK.out]; rintro e w1 ⟨rfl, hb⟩)
    go_ret
    exact ⟨rfl, hb⟩
  | true =>
    have HK := Aside0.mk hok
    cases hin : inB a2 1 3 with
    | false =>
      have e : canOf l0 a1 a2 = false := by simp [canOf, hin]
      rw [e]
      clear e
      have HI := Aside0.mk hin
      clear hok hin
      go_enter Try.func25, Try.ntmps25
      go_wp2_with (first | (go_at_call 36; refine (impl_RecOk.calls 80 _ _ l0 _ _ HR.out HC.out (impl_ok l0 80 (Nat.le_refl _))).mono ?_; rw [HK.out]; rintro e w1 ⟨rfl, hb⟩; have HB := Aside0.mk hb; clear hb) | (go_at_call 68; refine (impl_in.calls _ _ _ _ _ (impl_in' _ _ _)).mono ?_; rw [HI.out]; rintro e w2 ⟨rfl, hb2⟩))
      go_ret
      exact ⟨rfl, below_then HB.out HB.out.size hb2.below⟩
    | true =>
      have HI := Aside0.mk hin
      have he := inB_iff.mp hin
      by_cases h0 : atOf l0 a1 < 0
      · have e : canOf l0 a1 a2 = (endOf a1 == a2) := by simp [canOf, hin, hok, canB, h0]
        rw [e]
        have h0t := decide_eq_true h0
        have H0 := Aside0.mk h0
        clear e hok hin he h0
        go_enter Try.func25, Try.ntmps25
        go_wp2_with (first | (go_at_call 36; refine (impl_RecOk.calls 80 _ _ l0 _ _ HR.out HC.out (impl_ok l0 80 (Nat.le_refl _))).mono ?_; rw [HK.out]; rintro e w1 ⟨rfl, hb⟩; have HB := Aside0.mk hb; clear hb) | (go_at_call 68; refine (impl_in.calls _ _ _ _ _ (impl_in' _ _ _)).mono ?_; rw [HI.out]; rintro e w2 ⟨rfl, hb2⟩; have HB2 := Aside0.mk (below_then HB.out HB.out.size hb2.below); clear hb2) | (go_at_call 69; refine (impl_at.calls _ _ l0 a1 (atOf l0 a1) _ (Kd.C_below HR.out HB2.out) HC.out rfl).mono ?_; rintro e w3 ⟨rfl, hb3⟩; have HB3 := Aside0.mk (below_then HB2.out HB2.out.size hb3); clear hb3) | (go_at_call 19; refine (impl_RecEnd.calls 4 a1 _ _ (impl_end a1 0)).mono ?_; rintro e w4 ⟨rfl, hb4⟩; have HB4 := Aside0.mk (below_then HB3.out HB3.out.size hb4); clear hb4))
        go_ret
        exact ⟨rfl, HB4.out⟩
      · have e : canOf l0 a1 a2 = canB l0 12 a1 a2 := by simp [canOf, hin, hok]
        rw [e]
        have hsm := at_small l0 hok a1 h0
        have hn : a1.size ≤ maxLen := by unfold maxLen; omega
        have hiff := canB_iff l0 hok a2 he.1 12 a1 (by have := rk_lt l0 hok a1; omega)
        have h0t : decide (atOf l0 a1 < 0) = false := decide_eq_false h0
        have HF := Aside0.mk hiff
        clear e hin he h0 hsm hiff
        generalize hcan : canB l0 12 a1 a2 = cb at *
        clear hcan
        go_enter Try.func25, Try.ntmps25
        go_wp2_with (first | (go_at_call 36; refine (impl_RecOk.calls 80 _ _ l0 _ _ HR.out HC.out (impl_ok l0 80 (Nat.le_refl _))).mono ?_; rw [HK.out]; rintro e w1 ⟨rfl, hb⟩; have HB := Aside0.mk hb; clear hb) | (go_at_call 68; refine (impl_in.calls _ _ _ _ _ (impl_in' _ _ _)).mono ?_; rw [HI.out]; rintro e w2 ⟨rfl, hb2⟩; have HB2 := Aside0.mk (below_then HB.out HB.out.size hb2.below); clear hb2) | (go_at_call 69; refine (impl_at.calls _ _ l0 a1 (atOf l0 a1) _ (Kd.C_below HR.out HB2.out) HC.out rfl).mono ?_; rintro e w3 ⟨rfl, hb3⟩; have HB3 := Aside0.mk (below_then HB2.out HB2.out.size hb3); clear hb3) | (go_at_call 70; refine (reach_calls l0 HK.out _ A0 c0 (Kd.C_below HR.out HB3.out) HC.out a1 hn).mono ?_; rintro e w4 ⟨B, D, m, rfl, hnew, hown, hsat, hm, hb4⟩; have HB4 := Aside0.mk (below_then HB3.out HB3.out.size hb4); have HO := Aside0.mk hown; have HS := Aside0.mk hsat; have HN := Aside0.mk hnew; clear hb4 hown hsat hnew) | (at_range; refine wpList_range_own _ rfl _ 90 rfl 9 4 law9 Try.underlying90 _ B m D rfl HO.out ?_; intro w5 hrg5 hg5 hs5))
        go_frame
        have HP := Aside0.mk hg5
        have hb5 : Below w.heap.size w w5 := HB4.out.grown hg5 HB4.out.size (fun k hk => by cases hk)
        have HB5 := Aside0.mk hb5
        have hsz4 := HB4.out.size
        have hBne : w4.heap.size ≠ B := hrg5.ne
        have HR5 := Aside0.mk hrg5
        clear hg5 hb5 hrg5
        go_loopw [7] (fun _ wr => ∃ (left : Lit → Bool) (cnt : Nat), wr.ranges Try.prog 9 (plainElem Try.prog 4) B w4.heap.size m D left cnt ∧ Aside0 (Below w.heap.size w wr) ∧ Aside0 (∀ q : ByteArray, Maps.has D (.string (ltr q)) = true → left (.string (ltr q)) = false → endOf q ≠ a2))
          (fun _ wr => wr.rangeLeft B w4.heap.size)
        case atStart => exact ⟨_, _, HR5.out, HB5, ⟨fun q h1 h2 => by rw [h1] at h2; cases h2⟩⟩
        case round =>
          obtain ⟨left, cnt, hrg, HB6, HQ⟩ := hrel
          go_wp2_with (first
            | (at_next; refine wpList_next_sat _ rfl _ rfl B w4.heap.size m D _ HS.out left cnt rfl hrg ?_ ?_))
          · intro hc0 hl0
            have hall : cb = false := by
              cases cb with
              | false => rfl
              | true =>
                obtain ⟨q, hq, hqe⟩ := HF.out.mp rfl
                exact absurd hqe (HQ.out q (by rw [HS.out.1]; exact hq) (hl0 _))
            have HA := Aside0.mk hall
            clear hl0 hall
            go_wp2
            go_ret
            exact ⟨by rw [HA.out]; rfl, HB6.out⟩
          · intro x w7 cnt7 hSx hlk hrg7 hlt7 hg7 hs7 hen
            have HH := Aside0.mk hSx
            have hb7 : Below w.heap.size w w7 := HB6.out.grown hg7 HB6.out.size (fun k hk => by cases hk; exact hsz4)
            have HB7 := Aside0.mk hb7
            have HR7 := Aside0.mk hrg7
            have HG := Aside0.mk hrg
            clear hb7 hSx hlk hg7 hrg7 hrg
            by_cases hend : endOf x = a2
            · have hcb : cb = true := HF.out.mpr ⟨x, HH.out, hend⟩
              have HE := Aside0.mk hend
              have HCB := Aside0.mk hcb
              have hbe : (endOf x == a2) = true := by simp [hend]
              clear hend hcb
              go_wp2_with (go_at_call 19; refine (impl_RecEnd.calls 4 x _ _ (impl_end x 0)).mono ?_; rintro e w8 ⟨rfl, hb8⟩; have HB8 := Aside0.mk (below_then HB7.out HB7.out.size hb8); clear hb8)
              go_ret
              exact ⟨by rw [HCB.out]; rfl, HB8.out⟩
            · have HE := Aside0.mk hend
              have hbe : (endOf x == a2) = false := by simp [hend]
              clear hend
              go_wp2_with (go_at_call 19; refine (impl_RecEnd.calls 4 x _ _ (impl_end x 0)).mono ?_; rintro e w8 ⟨rfl, hb8⟩; have HB8 := Aside0.mk (below_then HB7.out HB7.out.size hb8); have HR8 := Aside0.mk (HR7.out.kept (grown_none hb8) (by simp) (by simp)); clear hb8)
              go_roundw
              case rel =>
                refine ⟨_, cnt7, HR8.out, HB8, ⟨fun q h1 h2 => ?_⟩⟩
                cases hl : left (.string (ltr q)) with
                | false => exact HQ.out q h1 hl
                | true =>
                  rw [hl] at h2
                  have h3 : (Lit.string (ltr q)).sameKey (.string (ltr x)) = true := by simpa using h2
                  have h4 : ltr q = ltr x := by simpa [Lit.sameKey] using h3
                  rw [ltr_inj h4]
                  exact HE.out
              case measure => rw [HR8.out.left_eq, HG.out.left_eq]; exact hlt7

end Go.Proofs.Ytdkologncoofdaa.P
-- Q17
namespace Go.Proofs.Ytdkologncoofdaa.P
open Go.RowKit Go.Proofs.YtdkologncoofdaaW.PrintWords Go.Proofs.YtdkologncoofdaaW.PrintLast

/-- Strictly ascending. -/
def Asc (l : List (List UInt8)) : Prop := l.Pairwise (fun x y => x < y)
theorem asc_ext : ∀ (a b : List (List UInt8)), Asc a → Asc b → (∀ x, x ∈ a ↔ x ∈ b) → a = b
  | [], [], _, _, _ => rfl
  | [], y :: b, _, _, h => absurd ((h y).2 (by simp)) (by simp)
  | x :: a, [], _, _, h => absurd ((h x).1 (by simp)) (by simp)
  | x :: a, y :: b, ha, hb, h => by
    have ha' := List.pairwise_cons.1 ha
    have hb' := List.pairwise_cons.1 hb
    have e : x = y := by
      have h1 := (h x).1 (by simp)
      have h2 := (h y).2 (by simp)
      rcases List.mem_cons.1 h1 with e | e
      · exact e
      · rcases List.mem_cons.1 h2 with e2 | e2
        · exact e2.symm
        · exact absurd (List.lt_trans (hb'.1 x e) (ha'.1 y e2)) (List.lt_irrefl y)
    subst e
    congr 1
    refine asc_ext a b ha'.2 hb'.2 fun z => ?_
    constructor
    · intro hz
      rcases List.mem_cons.1 ((h z).1 (List.mem_cons_of_mem _ hz)) with e | e
      · subst e; exact absurd (ha'.1 z hz) (List.lt_irrefl z)
      · exact e
    · intro hz
      rcases List.mem_cons.1 ((h z).2 (List.mem_cons_of_mem _ hz)) with e | e
      · subst e; exact absurd (hb'.1 z hz) (List.lt_irrefl z)
      · exact e

/-- A name put into an ascending list. -/
def ins : List ByteArray → ByteArray → List ByteArray
  | [], a => [a]
  | x :: l, a => if ltr x < ltr a then x :: ins l a else if ltr x = ltr a then x :: l else a :: x :: l
theorem ins_mem (a : ByteArray) (x : List UInt8) : ∀ l : List ByteArray, x ∈ (ins l a).map ltr ↔ x = ltr a ∨ x ∈ l.map ltr
  | [] => by simp [ins]
  | y :: l => by
    unfold ins
    split
    · simp only [List.map_cons, List.mem_cons, ins_mem a x l]
      constructor
      · rintro (h | h | h)
        · exact .inr (.inl h)
        · exact .inl h
        · exact .inr (.inr h)
      · rintro (h | h | h)
        · exact .inr (.inl h)
        · exact .inl h
        · exact .inr (.inr h)
    · split
      · rename_i e
        simp only [List.map_cons, List.mem_cons]
        constructor
        · exact .inr
        · rintro (h | h)
          · exact .inl (h.trans e.symm)
          · exact h
      · simp only [List.map_cons, List.mem_cons]
theorem lt_of_not {x y : List UInt8} (h : ¬ x < y) (hn : x ≠ y) : y < x := by
  rcases Decidable.em (y < x) with h2 | h2
  · exact h2
  · exact absurd (List.le_antisymm (List.not_lt.1 h2) (List.not_lt.1 h)) hn
theorem ins_asc (a : ByteArray) : ∀ l : List ByteArray, Asc (l.map ltr) → Asc ((ins l a).map ltr)
  | [], _ => by simp [ins, Asc]
  | y :: l, h => by
    have h' := List.pairwise_cons.1 h
    unfold ins
    split
    · rename_i hlt
      refine List.pairwise_cons.2 ⟨fun z hz => ?_, ins_asc a l h'.2⟩
      rcases (ins_mem a z l).1 hz with e | e
      · exact e ▸ hlt
      · exact h'.1 z e
    · split
      · exact h
      · rename_i h1 h2
        have hlt := lt_of_not h1 h2
        refine List.pairwise_cons.2 ⟨fun z hz => ?_, h⟩
        rcases List.mem_cons.1 hz with e | e
        · exact e ▸ hlt
        · exact List.lt_trans hlt (h'.1 z e)
theorem ins_len (a : ByteArray) : ∀ l : List ByteArray, (ins l a).length ≤ l.length + 1
  | [] => by simp [ins]
  | y :: l => by
    unfold ins
    have := ins_len a l
    split
    · simp; omega
    · split <;> simp
theorem ins_at (a : ByteArray) : ∀ (l : List ByteArray) (k : Nat), k ≤ l.length → (∀ j, j < k → ltr (l.getD j ByteArray.empty) < ltr a) → ins l a = l.take k ++ ins (l.drop k) a
  | l, 0, _, _ => by simp
  | [], k + 1, h, _ => by simp at h
  | y :: l, k + 1, h, hb => by
    have h0 := hb 0 (by omega)
    simp only [List.getD_cons_zero] at h0
    rw [ins, if_pos h0, List.take_succ_cons, List.drop_succ_cons, List.cons_append, ins_at a l k (by simpa using h) (fun j hj => by simpa using hb (j + 1) (by omega))]
theorem ins_has (a : ByteArray) (l : List ByteArray) (k : Nat) (hk : k < l.length) (hb : ∀ j, j < k → ltr (l.getD j ByteArray.empty) < ltr a) (e : ltr (l.getD k ByteArray.empty) = ltr a) : ins l a = l := by
  rw [ins_at a l k (by omega) hb]
  have hd : l.drop k = l.getD k ByteArray.empty :: l.drop (k + 1) := by
    rw [List.getD_eq_getElem?_getD, List.getElem?_eq_getElem hk]; exact (List.drop_eq_getElem_cons hk)
  rw [hd, ins, if_neg (by rw [e]; exact List.lt_irrefl _), if_pos e, ← hd, List.take_append_drop]
theorem ins_new (a : ByteArray) (l : List ByteArray) (k : Nat) (hk : k ≤ l.length) (hb : ∀ j, j < k → ltr (l.getD j ByteArray.empty) < ltr a) (e : k < l.length → ¬ ltr (l.getD k ByteArray.empty) < ltr a ∧ ltr (l.getD k ByteArray.empty) ≠ ltr a) : ins l a = (l.take k ++ [a]) ++ l.drop k := by
  rw [ins_at a l k hk hb, List.append_assoc]
  congr 1
  by_cases h : k < l.length
  · have hd : l.drop k = l.getD k ByteArray.empty :: l.drop (k + 1) := by
      rw [List.getD_eq_getElem?_getD, List.getElem?_eq_getElem h]; exact (List.drop_eq_getElem_cons h)
    rw [hd, ins, if_neg (e h).1, if_neg (e h).2]; rfl
  · rw [List.drop_eq_nil_of_le (by omega)]; rfl

/-- All names of two ascending lists. -/
def both (a b : List ByteArray) : List ByteArray := b.foldl ins a
theorem both_mem (x : List UInt8) (b : List ByteArray) : ∀ a : List ByteArray, x ∈ (both a b).map ltr ↔ x ∈ a.map ltr ∨ x ∈ b.map ltr := by
  induction b with
  | nil => intro a; simp [both]
  | cons y b ih =>
    intro a
    have := ih (ins a y)
    unfold both at this ⊢
    rw [List.foldl_cons, this, ins_mem, List.map_cons, List.mem_cons]
    constructor
    · rintro ((h | h) | h)
      · exact .inr (.inl h)
      · exact .inl h
      · exact .inr (.inr h)
    · rintro (h | h | h)
      · exact .inl (.inr h)
      · exact .inl (.inl h)
      · exact .inr h
theorem both_asc (b : List ByteArray) : ∀ a : List ByteArray, Asc (a.map ltr) → Asc ((both a b).map ltr) := by
  induction b with
  | nil => intro a h; exact h
  | cons y b ih => intro a h; exact ih _ (ins_asc y a h)
theorem both_len (b : List ByteArray) : ∀ a : List ByteArray, (both a b).length ≤ a.length + b.length := by
  induction b with
  | nil => intro a; simp [both]
  | cons y b ih =>
    intro a
    have h1 := ih (ins a y)
    have h2 := ins_len y a
    unfold both at h1 ⊢
    rw [List.foldl_cons]
    simp only [List.length_cons]
    omega

/-- The slots of a phase alone. -/
def slotsOf (p : S39) : List ByteArray := if p.f1 = 2 then ins [p.f2] p.f3 else [p.f2]
def InSlot (p : S39) (x : List UInt8) : Prop := x = ltr p.f2 ∨ (p.f1 = 2 ∧ x = ltr p.f3)
theorem slotsOf_mem (p : S39) (x : List UInt8) : x ∈ (slotsOf p).map ltr ↔ InSlot p x := by
  unfold slotsOf InSlot
  split
  · rename_i h
    rw [ins_mem]
    simp only [List.map_cons, List.map_nil, List.mem_singleton, h, true_and]
    exact Or.comm
  · rename_i h
    simp [h]
theorem slotsOf_asc (p : S39) : Asc ((slotsOf p).map ltr) := by
  unfold slotsOf
  split
  · exact ins_asc _ _ (by simp [Asc])
  · simp [Asc]
theorem slotsOf_len (p : S39) : (slotsOf p).length ≤ 2 := by
  unfold slotsOf
  split
  · exact ins_len _ _
  · simp

/-- The slots that may be used from a phase on. -/
def slt (l : List S39) : Nat → ByteArray → List ByteArray
  | 0, _ => []
  | f + 1, n => if atOf l n < 0 then [] else both (both (slotsOf (rd_T39 l (atOf l n))) (slt l f (rd_T39 l (atOf l n)).f6)) (slt l f (rd_T39 l (atOf l n)).f7)
theorem slt_asc (l : List S39) (f : Nat) : ∀ n, Asc ((slt l f n).map ltr) := by
  cases f with
  | zero => intro n; simp [slt, Asc]
  | succ f =>
    intro n
    unfold slt
    split
    · simp [Asc]
    · exact both_asc _ _ (both_asc _ _ (slotsOf_asc _))
theorem slt_len (l : List S39) (f : Nat) : ∀ n, (slt l f n).length + 2 ≤ 2 ^ (f + 1) := by
  induction f with
  | zero => intro n; simp [slt]
  | succ f ih =>
    intro n
    unfold slt
    split
    · have : 2 ^ 1 ≤ 2 ^ (f + 1 + 1) := Nat.pow_le_pow_right (by omega) (by omega)
      simpa using this
    · have h1 := both_len (slt l f (rd_T39 l (atOf l n)).f7) (both (slotsOf (rd_T39 l (atOf l n))) (slt l f (rd_T39 l (atOf l n)).f6))
      have h2 := both_len (slt l f (rd_T39 l (atOf l n)).f6) (slotsOf (rd_T39 l (atOf l n)))
      have h3 := slotsOf_len (rd_T39 l (atOf l n))
      have h4 := ih (rd_T39 l (atOf l n)).f6
      have h5 := ih (rd_T39 l (atOf l n)).f7
      rw [Nat.pow_succ 2 (f + 1)]
      omega
/-- What some phase that may come uses. -/
def Uses (l : List S39) (n : ByteArray) (x : List UInt8) : Prop := ∃ m : ByteArray, R l n (ltr m) = true ∧ ¬ atOf l m < 0 ∧ InSlot (rd_T39 l (atOf l m)) x
theorem uses_none (l : List S39) (hok : recOk l = true) (n : ByteArray) (h0 : atOf l n < 0) (x : List UInt8) : ¬ Uses l n x := by
  rintro ⟨m, hm, hm0, _⟩
  rw [R_step l hok n] at hm
  simp only [h0, decide_true, Bool.not_true, Bool.false_and, Bool.or_false] at hm
  obtain rfl := ltr_inj (by simpa using hm)
  exact hm0 h0
theorem uses_step (l : List S39) (hok : recOk l = true) (n : ByteArray) (h0 : ¬ atOf l n < 0) (x : List UInt8) :
    Uses l n x ↔ InSlot (rd_T39 l (atOf l n)) x ∨ Uses l (rd_T39 l (atOf l n)).f6 x ∨ Uses l (rd_T39 l (atOf l n)).f7 x := by
  constructor
  · rintro ⟨m, hm, hm0, hx⟩
    rw [R_step l hok n] at hm
    simp only [h0, decide_false, Bool.not_false, Bool.true_and, Bool.or_eq_true] at hm
    rcases hm with hm | hm | hm
    · obtain rfl := ltr_inj (by simpa using hm)
      exact .inl hx
    · exact .inr (.inl ⟨m, hm, hm0, hx⟩)
    · exact .inr (.inr ⟨m, hm, hm0, hx⟩)
  · rintro (hx | ⟨m, hm, hm0, hx⟩ | ⟨m, hm, hm0, hx⟩)
    · exact ⟨n, R_self l hok n, h0, hx⟩
    · exact ⟨m, by rw [R_step l hok n]; simp [h0, hm], hm0, hx⟩
    · exact ⟨m, by rw [R_step l hok n]; simp [h0, hm], hm0, hx⟩
theorem slt_mem (l : List S39) (hok : recOk l = true) (x : List UInt8) (f : Nat) : ∀ n, rk l n ≤ f → (x ∈ (slt l f n).map ltr ↔ Uses l n x) := by
  induction f with
  | zero =>
    intro n h
    have h0 : atOf l n < 0 := by
      unfold rk at h
      have := atOf_range l n
      split at h <;> omega
    simp [slt, uses_none l hok n h0]
  | succ f ih =>
    intro n h
    by_cases h0 : atOf l n < 0
    · simp [slt, h0, uses_none l hok n h0]
    · have hx := ok_ref l hok n h0
      unfold slt
      rw [if_neg h0, both_mem, both_mem, ih _ (by omega), ih _ (by omega), uses_step l hok n h0, slotsOf_mem, or_assoc]
theorem slt_more (l : List S39) (hok : recOk l = true) (f g : Nat) (n : ByteArray) (hf : rk l n ≤ f) (hg : rk l n ≤ g) : slt l f n = slt l g n := by
  have h := asc_ext _ _ (slt_asc l f n) (slt_asc l g n) (fun x => (slt_mem l hok x f n hf).trans (slt_mem l hok x g n hg).symm)
  exact (List.map_inj_right (fun _ _ => ltr_inj)).1 h
/-- RecSlots. -/
def slotsAt (l : List S39) (n : ByteArray) : List ByteArray := if recOk l = true then slt l 12 n else []
theorem slotsAt_len (l : List S39) (n : ByteArray) : (slotsAt l n).length ≤ 8190 := by
  unfold slotsAt
  split
  · have := slt_len l 12 n
    omega
  · simp

/-! ### What is left of an ascending row when its runs are struck -/
theorem upTo_mem (d : Array (List UInt8)) (x : List UInt8) : ∀ m, (x ∈ Lib.compactUpTo d m ↔ ∃ j, j < m ∧ d[j]! = x)
  | 0 => by simp [Lib.compactUpTo]
  | m + 1 => by
    rw [Lib.compactUpTo_succ, List.mem_append, upTo_mem d x m]
    constructor
    · rintro (⟨j, hj, e⟩ | h)
      · exact ⟨j, by omega, e⟩
      · split at h
        · exact ⟨m, by omega, (List.mem_singleton.1 h).symm⟩
        · cases h
    · rintro ⟨j, hj, e⟩
      by_cases h : j < m
      · exact .inl ⟨j, h, e⟩
      · obtain rfl : j = m := by omega
        by_cases hk : Lib.keeps d j = true
        · exact .inr (by rw [if_pos hk]; simp [e])
        · have : j ≠ 0 ∧ d[j]! = d[j - 1]! := by
            simpa [Lib.keeps] using hk
          exact .inl ⟨j - 1, by omega, this.2 ▸ e⟩
theorem upTo_asc (d : Array (List UInt8)) (h : ∀ i j, i ≤ j → j < d.size → d[i]! ≤ d[j]!) : ∀ m, m ≤ d.size → Asc (Lib.compactUpTo d m)
  | 0, _ => by simp [Lib.compactUpTo, Asc]
  | m + 1, hm => by
    rw [Lib.compactUpTo_succ]
    refine List.pairwise_append.2 ⟨upTo_asc d h m (by omega), by split <;> simp, fun x hx y hy => ?_⟩
    split at hy
    · rename_i hk
      obtain rfl := List.mem_singleton.1 hy
      obtain ⟨j, hj, rfl⟩ := (upTo_mem d x m).1 hx
      have hne : d[m]! ≠ d[m - 1]! := by
        have : m = 0 ∨ d[m]! ≠ d[m - 1]! := by simpa [Lib.keeps] using hk
        rcases this with e | e
        · omega
        · exact e
      have h1 := h j (m - 1) (by omega) (by omega)
      have h2 := h (m - 1) m (by omega) (by omega)
      have h3 : d[m - 1]! < d[m]! := by
        rcases Decidable.em (d[m - 1]! < d[m]!) with h4 | h4
        · exact h4
        · exact absurd (List.le_antisymm (List.not_lt.1 h4) h2) hne
      rcases Decidable.em (d[j]! < d[m]!) with h4 | h4
      · exact h4
      · exact absurd h3 (List.not_lt.2 (List.le_trans (List.not_lt.1 h4) h1))
    · cases hy
theorem compact_slots (ss : List (List UInt8)) (t : List ByteArray) (ht : Asc (t.map ltr)) (h : ∀ x, x ∈ ss ↔ x ∈ t.map ltr) : Lib.compact (ss.mergeSort fun x y => decide (x ≤ y)) = t.map ltr := by
  have tr : ∀ a b c : List UInt8, decide (a ≤ b) = true → decide (b ≤ c) = true → decide (a ≤ c) = true := fun a b c h1 h2 => by simp only [decide_eq_true_eq] at *; exact List.le_trans h1 h2
  have tot : ∀ a b : List UInt8, (decide (a ≤ b) || decide (b ≤ a)) = true := fun a b => by simp only [Bool.or_eq_true, decide_eq_true_eq]; exact List.le_total a b
  have hs := List.pairwise_mergeSort tr tot ss
  obtain ⟨u, hu⟩ : ∃ u, u = ss.mergeSort fun x y => decide (x ≤ y) := ⟨_, rfl⟩
  have hm : ∀ x, x ∈ u ↔ x ∈ ss := fun x => by rw [hu]; exact List.mem_mergeSort
  rw [← hu] at hs ⊢
  refine asc_ext _ _ (upTo_asc _ (fun i j hij hj => ?_) _ (by simp)) ht fun x => ?_
  · have hj' : j < u.length := by simpa using hj
    have hi' : i < u.length := by omega
    rw [getElem!_pos _ i (by simpa using hi'), getElem!_pos _ j hj]
    simp only [List.getElem_toArray]
    by_cases e : i = j
    · subst e; exact List.le_refl _
    · have := (List.pairwise_iff_getElem.1 hs) i j hi' hj' (by omega)
      simpa using this
  · rw [← h, ← hm]
    refine (upTo_mem _ x _).trans ⟨?_, fun hx => ?_⟩
    · rintro ⟨j, hj, rfl⟩
      rw [getElem!_pos _ j (by simpa using hj)]
      simp
    · obtain ⟨j, hj, rfl⟩ := List.getElem_of_mem hx
      exact ⟨j, hj, by rw [getElem!_pos _ j (by simpa using hj)]; simp⟩
theorem slots_of (l : List S39) (hok : recOk l = true) (n : ByteArray) (hn : rk l n ≤ 12) (ss : List (List UInt8)) (h : ∀ x, x ∈ ss ↔ Uses l n x) : Lib.compact (ss.mergeSort fun x y => decide (x ≤ y)) = (slotsAt l n).map ltr := by
  unfold slotsAt
  rw [if_pos hok]
  exact compact_slots ss _ (slt_asc l 12 n) fun x => (h x).trans (slt_mem l hok x 12 n hn).symm

end Go.Proofs.Ytdkologncoofdaa.P
-- XShelf
namespace Go.Proofs
open Go.Shelf
def Try.lays192_ren : Go.Shelf.Ren := ⟨fun | 192 => 73 | 190 => 98 | 125 => 104 | 258 => 103 | 128 => 115 | 129 => 116 | 302 => 106 | 303 => 107 | 304 => 108 | 305 => 109 | 306 => 110 | 307 => 111 | 308 => 112 | 309 => 113 | 310 => 114 | 333 => 117 | 329 => 118 | 330 => 119 | 334 => 120 | 335 => 121 | 336 => 122 | 344 => 123 | n => n, fun | 31 => 32 | 0 => 0 | 9 => 9 | 3 => 3 | 46 => 116 | 51 => 128 | 53 => 130 | 4 => 4 | 183 => 120 | 182 => 119 | 131 => 125 | 5 => 5 | 218 => 131 | 222 => 135 | 228 => 137 | 229 => 138 | n => n, fun | n => n⟩
theorem Try.lays192 : Go.Proofs.Lays.n192 Try.prog Try.lays192_ren := {
  mixed := by kernel_rfl
  f125 := Try.func104.trans (congrArg some (by kernel_rfl))
  f128 := Try.func115.trans (congrArg some (by kernel_rfl))
  f129 := Try.func116.trans (congrArg some (by kernel_rfl))
  f190 := Try.func98.trans (congrArg some (by kernel_rfl))
  f192 := Try.func73.trans (congrArg some (by kernel_rfl))
  f258 := Try.func103.trans (congrArg some (by kernel_rfl))
  f302 := Try.func106.trans (congrArg some (by kernel_rfl))
  f303 := Try.func107.trans (congrArg some (by kernel_rfl))
  f304 := Try.func108.trans (congrArg some (by kernel_rfl))
  f305 := Try.func109.trans (congrArg some (by kernel_rfl))
  f306 := Try.func110.trans (congrArg some (by kernel_rfl))
  f307 := Try.func111.trans (congrArg some (by kernel_rfl))
  f308 := Try.func112.trans (congrArg some (by kernel_rfl))
  f309 := Try.func113.trans (congrArg some (by kernel_rfl))
  f310 := Try.func114.trans (congrArg some (by kernel_rfl))
  f329 := Try.func118.trans (congrArg some (by kernel_rfl))
  f330 := Try.func119.trans (congrArg some (by kernel_rfl))
  f333 := Try.func117.trans (congrArg some (by kernel_rfl))
  f334 := Try.func120.trans (congrArg some (by kernel_rfl))
  f335 := Try.func121.trans (congrArg some (by kernel_rfl))
  f336 := Try.func122.trans (congrArg some (by kernel_rfl))
  f344 := Try.func123.trans (congrArg some (by kernel_rfl))
  t0 := Try.underlying0
  a0 := Try.isAgg0
  z0 := Try.sizeOf0
  v0 := Try.zeroValue0
  t3 := Try.underlying3
  a3 := Try.isAgg3
  z3 := Try.sizeOf3
  v3 := Try.zeroValue3
  t4 := Try.underlying4
  a4 := Try.isAgg4
  z4 := Try.sizeOf4
  v4 := Try.zeroValue4
  t5 := Try.underlying5
  a5 := Try.isAgg5
  z5 := Try.sizeOf5
  v5 := Try.zeroValue5
  t9 := Try.underlying9
  a9 := Try.isAgg9
  z9 := Try.sizeOf9
  v9 := Try.zeroValue9
  t31 := Try.underlying32
  a31 := Try.isAgg32
  z31 := Try.sizeOf32
  v31 := Try.zeroValue32
  t46 := Try.underlying116
  a46 := Try.isAgg116
  z46 := Try.sizeOf116
  v46 := Try.zeroValue116
  t51 := Try.underlying128
  a51 := Try.isAgg128
  z51 := Try.sizeOf128
  v51 := Try.zeroValue128
  t53 := Try.underlying130
  a53 := Try.isAgg130
  z53 := Try.sizeOf130
  v53 := Try.zeroValue130
  t131 := Try.underlying125
  a131 := Try.isAgg125
  z131 := Try.sizeOf125
  v131 := Try.zeroValue125
  t182 := Try.underlying119
  a182 := Try.isAgg119
  z182 := Try.sizeOf119
  v182 := Try.zeroValue119
  t183 := Try.underlying120
  a183 := Try.isAgg120
  z183 := Try.sizeOf120
  v183 := Try.zeroValue120
  t218 := Try.underlying131
  a218 := Try.isAgg131
  z218 := Try.sizeOf131
  v218 := Try.zeroValue131
  t222 := Try.underlying135
  a222 := Try.isAgg135
  z222 := Try.sizeOf135
  v222 := Try.zeroValue135
  t228 := Try.underlying137
  a228 := Try.isAgg137
  z228 := Try.sizeOf137
  v228 := Try.zeroValue137
  t229 := Try.underlying138
  a229 := Try.isAgg138
  z229 := Try.sizeOf138
  v229 := Try.zeroValue138 }
open Go.Sort Go.RowKit in
theorem Try.sort_Strings (blk off cap : Nat) (ss : List (List UInt8)) (w : World) (hH : Holds encStr w blk off ss.toArray) (hblk : blk < w.heap.size) (hsz : ss.length < 4611686018427387904) :
    Calls Try.prog 73 #[.slice (some ⟨blk, off, none⟩) ss.length cap] w fun e w' =>
      e = .returned (.tuple #[]) ∧ ∃ n os, w' = grow (putRow encStr (Sort.ahead w n) blk off (ss.mergeSort fun x y => decide (x ≤ y)).toArray) os := Any.sort_Strings Try.lays192 blk off cap ss w hH hblk hsz
def Try.lays194_ren : Go.Shelf.Ren := ⟨fun | 194 => 74 | n => n, fun | 31 => 32 | 9 => 9 | 3 => 3 | 4 => 4 | 0 => 0 | n => n, fun | n => n⟩
theorem Try.lays194 : Go.Proofs.Lays.n194 Try.prog Try.lays194_ren := {
  mixed := by kernel_rfl
  f194 := Try.func74.trans (congrArg some (by kernel_rfl))
  t0 := Try.underlying0
  a0 := Try.isAgg0
  z0 := Try.sizeOf0
  v0 := Try.zeroValue0
  t3 := Try.underlying3
  a3 := Try.isAgg3
  z3 := Try.sizeOf3
  v3 := Try.zeroValue3
  t4 := Try.underlying4
  a4 := Try.isAgg4
  z4 := Try.sizeOf4
  v4 := Try.zeroValue4
  t9 := Try.underlying9
  a9 := Try.isAgg9
  z9 := Try.sizeOf9
  v9 := Try.zeroValue9
  t31 := Try.underlying32
  a31 := Try.isAgg32
  z31 := Try.sizeOf32
  v31 := Try.zeroValue32 }
open Go.RowKit Go.Lib Go.Sort in
theorem Try.slices_Compact_string (blk off cap : Nat) (zs : List (List UInt8)) (w : World) (hH : Holds encStr w blk off zs.toArray) (hsz : zs.length ≤ 9223372036854775807) (hcap : zs.length ≤ cap) :
    Calls Try.prog 74 #[.slice (some ⟨blk, off, none⟩) zs.length cap] w fun e w' => e = .returned (.slice (some ⟨blk, off, none⟩) (Lib.compact zs).length cap) ∧ ∃ q, w' = putRow encStr (Sort.ahead w q) blk off (Lib.compact zs ++ List.replicate (zs.length - (Lib.compact zs).length) []).toArray := Any.slices_Compact_string Try.lays194 blk off cap zs w hH hsz hcap
end Go.Proofs
-- XSlots
namespace Go.Proofs.Ytdkologncoofdaa.P
open Go.RowKit Go.Sort Go.Proofs.YtdkologncoofdaaW.PrintWords Go.Proofs.YtdkologncoofdaaW.PrintLast
set_option linter.unusedVariables false
set_option linter.unusedSimpArgs false
def impl_RecSlots.f (_k : Nat) (l : List S39) (n : ByteArray) : Option (List ByteArray) := some (slotsAt l n)
theorem impl_RecSlots.mono : ∀ a0 a1 k, LeO (impl_RecSlots.f k a0 a1) (impl_RecSlots.f (k + 1) a0 a1) := fun _ _ _ => LeO.refl _

theorem row_string {w : World} {base : Nat} {v : Value} {bs : List ByteArray} (h : w.ownsRow base 9 1 v bs.length (bs.map Value.string)) : Kd.R Kd.string 9 w base (fun _ => True) v bs :=
  ⟨fun _ _ => trivial, bs.map Value.string, h, Kd.reps_scalar bs⟩
theorem row_ne_map {w : World} {P : Program} {k : TypeId} {RR : Value → Option (DataW Unit × List MemPlace)} {base b m n e size : Nat} {D : DataW Unit} {v : Value} {xs : List Value} (h : w.ownsRow base e size v n xs) (hm : w.ownsMap P k RR b m D) : some b ≠ v.ownBlock := by
  rcases h.2 with ⟨rfl, _⟩ | ⟨g, cap, cur, rfl, _, hb, _⟩
  · simp [Value.ownBlock]
  · intro e1
    have : b = g := by simpa [Value.ownBlock] using e1
    exact blk_ne_map hm hb this.symm
theorem row_below {w w1 : World} {base n : Nat} {v : Value} {xs : List Value} (h : w.ownsRow base 9 1 v n xs) (hb : Below w.heap.size w w1) : w1.ownsRow base 9 1 v n xs := h.kept (grown_none hb) (by cases v.ownBlock <;> simp)
theorem map_ltr_encStr (bs : List ByteArray) : (bs.map ltr).map encStr = bs.map Value.string := Lib.map_encStr bs
/-- What has been met uses nothing else; what has been met and is a phase has left its slots. -/
def Coll (l : List S39) (n : ByteArray) (D : DataW Unit) (left : Lit → Bool) (bs : List ByteArray) : Prop :=
  (∀ x ∈ bs.map ltr, Uses l n x) ∧ ∀ m : ByteArray, Maps.has D (.string (ltr m)) = true → left (.string (ltr m)) = false → ¬ atOf l m < 0 → ∀ x, InSlot (rd_T39 l (atOf l m)) x → x ∈ bs.map ltr
theorem coll_step {l : List S39} {n : ByteArray} {D : DataW Unit} {left : Lit → Bool} {bs : List ByteArray} (h : Coll l n D left bs) (x : ByteArray) (ys : List ByteArray) (hx : R l n (ltr x) = true) (hin : ¬ atOf l x < 0 → ∀ y, InSlot (rd_T39 l (atOf l x)) y ↔ y ∈ ys.map ltr) (hno : atOf l x < 0 → ys = []) :
    Coll l n D (fun z => left z && !z.sameKey (.string (ltr x))) (bs ++ ys) := by
  refine ⟨fun y hy => ?_, fun m hm hl h0 y hy => ?_⟩
  · rw [List.map_append, List.mem_append] at hy
    rcases hy with hy | hy
    · exact h.1 y hy
    · by_cases h0 : atOf l x < 0
      · rw [hno h0] at hy; simp at hy
      · exact ⟨x, hx, h0, (hin h0 y).2 hy⟩
  · rw [List.map_append, List.mem_append]
    cases hlm : left (.string (ltr m)) with
    | false => exact .inl (h.2 m hm hlm h0 y hy)
    | true =>
      simp only [hlm, Bool.true_and, Bool.not_eq_false'] at hl
      have e : ltr m = ltr x := by simpa [Lit.sameKey] using hl
      obtain rfl := ltr_inj e
      exact .inr ((hin h0 y).1 hy)
theorem coll_end {l : List S39} {n : ByteArray} {D : DataW Unit} {left : Lit → Bool} {bs : List ByteArray} (h : Coll l n D left bs) (hD : Sat D (R l n)) (hl : ∀ kl, left kl = false) (x : List UInt8) : x ∈ bs.map ltr ↔ Uses l n x :=
  ⟨h.1 x, fun ⟨m, hm, h0, hx⟩ => h.2 m (by rw [hD.1]; exact hm) (hl _) h0 x hx⟩
theorem slots_end {w w1 : World} {g cap nn q : Nat} {os : Array Obj} {bs t : List ByteArray} (hown : w1.ownsRow w.heap.size 9 1 (.slice (some ⟨g, 0, none⟩) bs.length cap) bs.length (bs.map Value.string)) (hbel : Below w.heap.size w w1) (hbg : w.heap.size ≤ g)
    (ht : Lib.compact ((bs.map ltr).mergeSort fun x y => decide (x ≤ y)) = t.map ltr) (W : World)
    (hW : W = putRow encStr (Sort.ahead (grow (putRow encStr (Sort.ahead w1 nn) g 0 ((bs.map ltr).mergeSort fun x y => decide (x ≤ y)).toArray) os) q) g 0 (t.map ltr ++ List.replicate (bs.length - t.length) []).toArray) :
    Kd.R Kd.string 9 W w.heap.size (fun _ => True) (.slice (some ⟨g, 0, none⟩) t.length cap) t ∧ Below w.heap.size w W := by
  subst hW
  have hl2 : ((bs.map ltr).mergeSort fun x y => decide (x ≤ y)).length = (bs.map ltr).length := List.length_mergeSort _
  have hle := Lib.compact_length_le ((bs.map ltr).mergeSort fun x y => decide (x ≤ y))
  rw [ht, hl2] at hle
  simp only [List.length_map] at hle hl2
  rcases hown.2 with ⟨h0, _⟩ | ⟨g', cap', cur, hv, hbase, hb, h1, h2, h3, h4⟩
  · cases h0
  cases hv
  have hs := ownsRow_sorted (n := nn) (os := os) (ss := bs.map ltr) (ts := (bs.map ltr).mergeSort fun x y => decide (x ≤ y)) (by rw [List.length_map]; exact hl2) hbase hb (by simpa using h1) h2 h3
  have hc := Lib.ownsRow_putRow (q := q) (k := t.length) (ys := t.map ltr ++ List.replicate (bs.length - t.length) []) hs (by simp; omega) (by simpa using hle)
  rw [show t.length = (t.map ltr).length by simp, List.take_left, map_ltr_encStr] at hc
  simp only [List.length_map] at hc
  exact ⟨row_string hc, Lib.below_putRow (hbel.grown (grownBy_sorted _) hbel.size (fun j hj => by cases hj; exact hbase)) hbg⟩

theorem slots_held {w1 : World} {g : Nat} (nn : Nat) (os : Array Obj) {ss : List (List UInt8)} (hH : Holds encStr w1 g 0 ss.toArray) (hg : g < w1.heap.size) :
    Holds encStr (grow (putRow encStr (Sort.ahead w1 nn) g 0 (ss.mergeSort fun x y => decide (x ≤ y)).toArray) os) g 0 (ss.mergeSort fun x y => decide (x ≤ y)).toArray :=
  holds_grow encStr _ os g 0 _ (by simpa [putRow, mapBlock, Sort.ahead] using hg) (holds_putRow encStr _ g 0 _ _ (holds_ahead encStr w1 nn g 0 _ hH) (by simp))
set_option maxHeartbeats 8000000 in
set_option maxRecDepth 100000 in
theorem impl_RecSlots.calls (k : Nat) (A0 : Option Addr) (c0 : Nat) (l0 : List (S39)) (a1 : ByteArray) (r : List ByteArray) (w : World) (hr0 : Kd.C k39 w A0 l0.length l0) (hc0 : l0.length ≤ c0) (h : impl_RecSlots.f k l0 a1 = some r) :
    Calls Try.prog 30 #[.slice A0 l0.length c0, .string a1] w fun e w' => ∃ v0_ : Value, e = .returned (v0_) ∧ Kd.R Kd.string 9 w' w.heap.size (fun _ => True) v0_ r ∧ Below w.heap.size w w' := by
  obtain rfl := Option.some.inj h
  clear h
  have HR := Aside0.mk hr0
  have HC := Aside0.mk hc0
  clear hr0 hc0
  cases hok : recOk l0 with
  | false =>
    have HE : Aside0 (slotsAt l0 a1 = []) := ⟨by unfold slotsAt; rw [hok]; rfl⟩
    have HK := Aside0.mk hok
    clear hok
    go_enter Try.func30, Try.ntmps30
    go_wp2_with (go_at_call 36; refine (impl_RecOk.calls 80 _ _ l0 _ _ HR.out HC.out (impl_ok l0 80 (Nat.le_refl _))).mono ?_; rw [HK.out]; rintro e w1 ⟨rfl, hb⟩; have HB := Aside0.mk hb; clear hb)
    go_ret
    exact ⟨_, rfl, by rw [HE.out]; exact Kd.R_nil _ _ _ _ _, HB.out⟩
  | true =>
    have HK := Aside0.mk hok
    by_cases h0 : atOf l0 a1 < 0
    · have HE : Aside0 (slotsAt l0 a1 = []) := ⟨by unfold slotsAt; rw [if_pos hok, slt, if_pos h0]⟩
      have h0t := decide_eq_true h0
      clear hok h0
      go_enter Try.func30, Try.ntmps30
      go_wp2_with (first | (go_at_call 36; refine (impl_RecOk.calls 80 _ _ l0 _ _ HR.out HC.out (impl_ok l0 80 (Nat.le_refl _))).mono ?_; rw [HK.out]; rintro e w1 ⟨rfl, hb⟩; have HB := Aside0.mk hb; clear hb) | (go_at_call 69; refine (impl_at.calls _ _ l0 a1 (atOf l0 a1) _ (Kd.C_below HR.out HB.out) HC.out rfl).mono ?_; rintro e w3 ⟨rfl, hb3⟩; have HB3 := Aside0.mk (below_then HB.out HB.out.size hb3); clear hb3))
      go_ret
      exact ⟨_, rfl, by rw [HE.out]; exact Kd.R_nil _ _ _ _ _, HB3.out⟩
    · have hsm := at_small l0 hok a1 h0
      have hn : a1.size ≤ maxLen := by unfold maxLen; omega
      have h0t : decide (atOf l0 a1 < 0) = false := decide_eq_false h0
      have hu39 := Try.underlying39
      obtain ⟨i0, hi, hz0, hz1, hz2⟩ := info_parts info9
      have HN := Aside0.mk hn
      clear hok h0 hsm hn
      go_enter Try.func30, Try.ntmps30
      go_wp2_with (first
        | (go_at_call 36; refine (impl_RecOk.calls 80 _ _ l0 _ _ HR.out HC.out (impl_ok l0 80 (Nat.le_refl _))).mono ?_; rw [HK.out]; rintro e w1 ⟨rfl, hb⟩; have HB := Aside0.mk hb; clear hb)
        | (go_at_call 69; refine (impl_at.calls _ _ l0 a1 (atOf l0 a1) _ (Kd.C_below HR.out HB.out) HC.out rfl).mono ?_; rintro e w3 ⟨rfl, hb3⟩; have HB3 := Aside0.mk (below_then HB.out HB.out.size hb3); clear hb3)
        | ((with_reducible refine gate_dst (N := 17) rfl ?_); refine Kd.R_lit Kd.string (w0 := w) w.heap.size 9 ?hg (N := 17) ?hd (xs := ([] : List ByteArray)) (inner := []) (ok := fun _ => True) (okp := fun _ => True) ?hr ?hp (fun _ hk => hk) trivial HB3.out HB3.out.size (by simp) ?_; (case hd => rfl); (case hg => rfl); (case hr => first | (go_simp; done) | (go_simp; rfl)); (case hp => exact (Reps.none _ _)); intro v1 w2 ho hb hgr hnew; have HO := Aside0.mk ho; have HV := Aside0.mk hnew; have HB2 := Aside0.mk hb; clear ho hb hgr hnew)
        | (go_at_call 70; refine (reach_calls l0 HK.out _ A0 c0 (Kd.C_below HR.out HB2.out) HC.out a1 HN.out).mono ?_; rintro e w4 ⟨B, D, m, rfl, hnew, hown, hsat, hm, hb4⟩; have HB4 := Aside0.mk (below_then HB2.out HB2.out.size hb4); have HO4 := Aside0.mk (Kd.R_below HO.out hb4); have HM := Aside0.mk hown; have HS := Aside0.mk hsat; have HZ := Aside0.mk hm; clear hb4 hown hsat hnew hm)
        | (at_range; refine wpList_range_own _ rfl _ 90 rfl 9 4 law9 Try.underlying90 _ B m D rfl HM.out ?_; intro w5 hrg5 hg5 hs5))
      go_frame
      have hb5 : Below w.heap.size w w5 := HB4.out.grown hg5 HB4.out.size (fun k hk => by cases hk)
      have HB5 := Aside0.mk hb5
      have HO5 := Aside0.mk (Kd.R_grown HO4.out hg5 (fun _ _ => by simp))
      have hsz4 := HB4.out.size
      have hBne : w4.heap.size ≠ B := hrg5.ne
      have HR5 := Aside0.mk hrg5
      have hms : Maps.size D ≤ 8192 := Nat.le_trans HM.out.size_le HZ.out
      have HMS := Aside0.mk hms
      clear hg5 hb5 hrg5 hms
      go_loopw [5] (fun v wr => ∃ (left : Lit → Bool) (cnt : Nat) (bs : List ByteArray), wr.ranges Try.prog 9 (plainElem Try.prog 4) B w4.heap.size m D left cnt ∧ Aside0 (bs.length + 2 * cnt ≤ 16384) ∧ Aside0 (wr.ownsRow w.heap.size 9 1 v bs.length (bs.map Value.string)) ∧ Aside0 (v ≠ .slice none 0 0) ∧ Aside0 (Coll l0 a1 D left bs) ∧ Aside0 (Below w.heap.size w wr))
        (fun _ wr => wr.rangeLeft B w4.heap.size)
      case atStart =>
        refine ⟨_, _, [], HR5.out, ⟨by have := HMS.out; simp; omega⟩, ⟨?_⟩, ⟨fun e => ?_⟩, ⟨fun x hx => by simp at hx, fun q h1 h2 => by rw [h1] at h2; cases h2⟩, HB5⟩
        · obtain ⟨inner, hown⟩ := Kd.R_own HO5.out
          have : inner = [] := List.eq_nil_of_length_eq_zero (by simpa using hown.1)
          subst this
          exact hown
        · obtain ⟨b, hb, _⟩ := HV.out
          rw [e] at hb
          simp [Value.ownBlock] at hb
      case round =>
        rename_i v
        obtain ⟨left, cnt, bs, hrg, HL, HW, HNN, HCO, HB6⟩ := hrel
        have HG := Aside0.mk hrg
        go_wp2_with (first
          | (at_next; refine wpList_next_sat _ rfl _ rfl B w4.heap.size m D _ HS.out left cnt rfl hrg ?_ ?_))
        · intro hc0 hl0
          have HU := Aside0.mk (slots_of l0 HK.out a1 (rk_le l0 HK.out a1) (bs.map ltr) (coll_end HCO.out HS.out hl0))
          have HOW := HW.out
          rcases HW.out.2 with ⟨hnil, _⟩ | ⟨g, cap, cur, rfl, hbase, hb, h1, h2, h3, h4⟩
          · exact absurd hnil HNN.out
          have hlen : bs.length ≤ 16384 := by have := HL.out; omega
          have hH : Holds encStr _ g 0 (bs.map ltr).toArray := holds_of_block hb (by rw [map_ltr_encStr]; simpa using h4)
          have hgl := (Array.getElem?_eq_some_iff.1 hb).1
          have hsort := Try.sort_Strings g 0 cap (bs.map ltr) _ hH hgl (by simp; omega)
          rw [List.length_map] at hsort
          have hH2 := fun nn os => slots_held nn os hH hgl
          have hml : ((bs.map ltr).mergeSort fun x y => decide (x ≤ y)).length = bs.length := by rw [List.length_mergeSort, List.length_map]
          have hcomp := fun W hW => Try.slices_Compact_string g 0 cap ((bs.map ltr).mergeSort fun x y => decide (x ≤ y)) W hW (by rw [hml]; omega) (by rw [hml]; omega)
          rw [hml, HU.out, List.length_map] at hcomp
          have HC2 := Aside0.mk hcomp
          have HH2 := Aside0.mk hH2
          have HB0 := Aside0.mk hbase
          clear hH hb h1 h2 h3 h4 hgl hml hcomp hH2 hl0 hbase
          go_wp2_with (first
            | (go_at_call 73; refine hsort.mono ?_; rintro e w7 ⟨rfl, nn, os, hw7⟩; have HW7 := Aside0.mk hw7; have hcomp := HC2.out w7 (by rw [hw7]; exact HH2.out nn os); clear hw7 hsort)
            | (go_at_call 74; refine hcomp.mono ?_; rintro e w8 ⟨rfl, q, hw8⟩; have HW8 := Aside0.mk hw8; clear hw8 hcomp))
          go_ret
          have hend := slots_end HOW HB6.out HB0.out HU.out w8 (by rw [HW8.out, HW7.out])
          exact ⟨_, rfl, hend.1, hend.2⟩
        · intro x w7 cnt7 hSx hlk hrg7 hlt7 hg7 hs7 hen
          have hb7 : Below w.heap.size w w7 := HB6.out.grown hg7 HB6.out.size (fun k hk => by cases hk; exact hsz4)
          have HB7 := Aside0.mk hb7
          have HR7 := Aside0.mk hrg7
          have HX := Aside0.mk hSx
          have HW7 := Aside0.mk (HW.out.kept hg7 (Or.inr (row_ne_iter HW.out hrg).symm))
          clear hb7 hSx hlk hg7 hrg7 hrg hs7
          by_cases hx0 : atOf l0 x < 0
          · have hx0t : decide (atOf l0 x ≥ 0) = false := decide_eq_false (by omega)
            have hx0t' : decide (0 ≤ atOf l0 x) = false := decide_eq_false (by omega)
            have HCO' := Aside0.mk (coll_step HCO.out x [] HX.out (fun h => absurd hx0 h) (fun _ => rfl))
            clear hx0
            go_wp2_with (go_at_call 69; refine (impl_at.calls _ _ l0 x (atOf l0 x) _ (Kd.C_below HR.out HB7.out) HC.out rfl).mono ?_; rintro e w8 ⟨rfl, hb8⟩; have HB8 := Aside0.mk (below_then HB7.out HB7.out.size hb8); have HR8 := Aside0.mk (HR7.out.kept (grown_none hb8) (by simp) (by simp)); have HW8 := Aside0.mk (row_below HW7.out hb8); clear hb8)
            go_roundw
            case rel =>
              refine ⟨_, cnt7, bs, HR8.out, ⟨by have := HL.out; omega⟩, HW8, HNN, ⟨by have := HCO'.out; rwa [List.append_nil] at this⟩, HB8⟩
            case measure => rw [HR8.out.left_eq, HG.out.left_eq]; exact hlt7
          · have hr := atOf_range l0 x
            have p0 : 0 ≤ atOf l0 x := by omega
            have q0 : atOf l0 x < (l0.length : Int) := hr.2
            obtain ⟨ad, e, x0, x1, x2, x3, x4, x5, x6, x7⟩ := at_T39 HR.out (atOf l0 x) p0 q0
            cases e
            have X1 := Aside0.mk x1
            have X2 := Aside0.mk x2
            have X3 := Aside0.mk x3
            have hx0t : decide (0 ≤ atOf l0 x) = true := decide_eq_true p0
            have p0' := eq_true p0
            have q0' := eq_true q0
            have HX0 := Aside0.mk hx0
            clear x0 x1 x2 x3 x4 x5 x6 x7 hx0 p0 q0 hr
            by_cases h2 : (rd_T39 l0 (atOf l0 x)).f1 = 2
            · have h2b : ((rd_T39 l0 (atOf l0 x)).f1 == 2) = true := beq_iff_eq.mpr h2
              have HCO' := Aside0.mk (coll_step HCO.out x [(rd_T39 l0 (atOf l0 x)).f2, (rd_T39 l0 (atOf l0 x)).f3] HX.out (fun h y => by simp [InSlot, h2]) (fun h => absurd h HX0.out))
              clear h2
              go_wp2_with (first
                | (go_at_call 69; refine (impl_at.calls _ _ l0 x (atOf l0 x) _ (Kd.C_below HR.out HB7.out) HC.out rfl).mono ?_; rintro e w8 ⟨rfl, hb8⟩; have HB8 := Aside0.mk (below_then HB7.out HB7.out.size hb8); have HR8 := Aside0.mk (HR7.out.kept (grown_none hb8) (by simp) (by simp)); have HW8 := Aside0.mk (row_below HW7.out hb8); have c1 := (HB8.out.cell (World.block_lt_of_cell? w _ X1.out)).trans X1.out; have c2 := (HB8.out.cell (World.block_lt_of_cell? w _ X2.out)).trans X2.out; have c3 := (HB8.out.cell (World.block_lt_of_cell? w _ X3.out)).trans X3.out; clear hb8)
                | (at_builtin; refine wpList_append_own _ rfl _ _ 32 rfl w.heap.size 9 i0 (.string ⟨#[]⟩) 1 16 Try.underlying32 hi hz0 hz1 hz2 rfl (by decide) _ _ _ rfl (HW9.out.alloc _) ⟨w9.heap.size, 0, none⟩ 1 1 [.string (rd_T39 l0 (atOf l0 x)).f3] rfl rfl (cell_one_new _ _ _) (by simp [Value.oneCell']) (by have := HL.out; unfold maxLen; omega) (by have := HL.out; omega) (by have := HB9.out.size; simp; omega) ?_; intro v10 w10 hown hg9 hnil9; have HW9z := Aside0.mk hown; have HN9z := Aside0.mk (show v10 ≠ Value.slice none 0 0 from fun e => by have := (hnil9.1 e).2; omega); have HR9z := Aside0.mk ((HR9.out.alloc _).kept hg9 (row_ne_map HW9.out HR9.out.owns) (row_ne_iter HW9.out HR9.out)); have HB9z := Aside0.mk ((below_alloc HB9.out _).grown hg9 (by have := HB9.out.size; simp; omega) (fun j hj => (HW9.out.lt j hj).1)); clear c1 c2 c3; clear hown hg9 hnil9; (try go_frame))
                | (at_builtin; refine wpList_append_own _ rfl _ _ 32 rfl w.heap.size 9 i0 (.string ⟨#[]⟩) 1 16 Try.underlying32 hi hz0 hz1 hz2 rfl (by decide) _ _ _ rfl (HW8.out.alloc _) ⟨w8.heap.size, 0, none⟩ 1 1 [.string (rd_T39 l0 (atOf l0 x)).f2] rfl rfl (cell_one_new _ _ _) (by simp [Value.oneCell']) (by have := HL.out; unfold maxLen; omega) (by have := HL.out; omega) (by have := HB8.out.size; simp; omega) ?_; intro v9 w9 hown hg9 hnil9; have HW9 := Aside0.mk hown; have HN9 := Aside0.mk (show v9 ≠ Value.slice none 0 0 from fun e => by have := (hnil9.1 e).2; omega); have HR9 := Aside0.mk ((HR8.out.alloc _).kept hg9 (row_ne_map HW8.out HR8.out.owns) (row_ne_iter HW8.out HR8.out)); have HB9 := Aside0.mk ((below_alloc HB8.out _).grown hg9 (by have := HB8.out.size; simp; omega) (fun j hj => (HW8.out.lt j hj).1)); clear c1 c2 c3; have c1 := (HB9.out.cell (World.block_lt_of_cell? w _ X1.out)).trans X1.out; have c2 := (HB9.out.cell (World.block_lt_of_cell? w _ X2.out)).trans X2.out; have c3 := (HB9.out.cell (World.block_lt_of_cell? w _ X3.out)).trans X3.out; clear hown hg9 hnil9; (try go_frame)))
              go_roundw
              case rel =>
                refine ⟨_, cnt7, bs ++ [(rd_T39 l0 (atOf l0 x)).f2, (rd_T39 l0 (atOf l0 x)).f3], HR9z.out, ⟨by have := HL.out; simp; omega⟩, ⟨by have := HW9z.out; simpa using this⟩, HN9z, HCO', HB9z⟩
              case measure => rw [HR9z.out.left_eq, HG.out.left_eq]; exact hlt7
            · have h2b : ((rd_T39 l0 (atOf l0 x)).f1 == 2) = false := beq_eq_false_iff_ne.mpr h2
              have HCO' := Aside0.mk (coll_step HCO.out x [(rd_T39 l0 (atOf l0 x)).f2] HX.out (fun h y => by simp [InSlot, h2]) (fun h => absurd h HX0.out))
              clear h2
              go_wp2_with (first
                | (go_at_call 69; refine (impl_at.calls _ _ l0 x (atOf l0 x) _ (Kd.C_below HR.out HB7.out) HC.out rfl).mono ?_; rintro e w8 ⟨rfl, hb8⟩; have HB8 := Aside0.mk (below_then HB7.out HB7.out.size hb8); have HR8 := Aside0.mk (HR7.out.kept (grown_none hb8) (by simp) (by simp)); have HW8 := Aside0.mk (row_below HW7.out hb8); have c1 := (HB8.out.cell (World.block_lt_of_cell? w _ X1.out)).trans X1.out; have c2 := (HB8.out.cell (World.block_lt_of_cell? w _ X2.out)).trans X2.out; have c3 := (HB8.out.cell (World.block_lt_of_cell? w _ X3.out)).trans X3.out; clear hb8)
                | (at_builtin; refine wpList_append_own _ rfl _ _ 32 rfl w.heap.size 9 i0 (.string ⟨#[]⟩) 1 16 Try.underlying32 hi hz0 hz1 hz2 rfl (by decide) _ _ _ rfl (HW8.out.alloc _) ⟨w8.heap.size, 0, none⟩ 1 1 [.string (rd_T39 l0 (atOf l0 x)).f2] rfl rfl (cell_one_new _ _ _) (by simp [Value.oneCell']) (by have := HL.out; unfold maxLen; omega) (by have := HL.out; omega) (by have := HB8.out.size; simp; omega) ?_; intro v9 w9 hown hg9 hnil9; have HW9 := Aside0.mk hown; have HN9 := Aside0.mk (show v9 ≠ Value.slice none 0 0 from fun e => by have := (hnil9.1 e).2; omega); have HR9 := Aside0.mk ((HR8.out.alloc _).kept hg9 (row_ne_map HW8.out HR8.out.owns) (row_ne_iter HW8.out HR8.out)); have HB9 := Aside0.mk ((below_alloc HB8.out _).grown hg9 (by have := HB8.out.size; simp; omega) (fun j hj => (HW8.out.lt j hj).1)); clear c1 c2 c3; have c1 := (HB9.out.cell (World.block_lt_of_cell? w _ X1.out)).trans X1.out; have c2 := (HB9.out.cell (World.block_lt_of_cell? w _ X2.out)).trans X2.out; have c3 := (HB9.out.cell (World.block_lt_of_cell? w _ X3.out)).trans X3.out; clear hown hg9 hnil9; (try go_frame)))
              go_roundw
              case rel =>
                refine ⟨_, cnt7, bs ++ [(rd_T39 l0 (atOf l0 x)).f2], HR9.out, ⟨by have := HL.out; simp; omega⟩, ⟨by have := HW9.out; simpa using this⟩, HN9, HCO', HB9⟩
              case measure => rw [HR9.out.left_eq, HG.out.left_eq]; exact hlt7

end Go.Proofs.Ytdkologncoofdaa.P
