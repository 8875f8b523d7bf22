/- Part 4 of the texts that the law FnBound reaches: contracts of the functions and plain lemmas. -/
import Derived.Test.YtdkologncoofdaaCFnBound2
import Derived.Test.YtdkologncoofdaaCFnBound3
-- Px26
namespace Go.Proofs.Ytdkologncoofdaa.P
open Go.RowKit Go.Proofs.YtdkologncoofdaaW.PrintWords Go.Proofs.YtdkologncoofdaaW.PrintLast Go.Proofs.YtdkologncoofdaaW.PrintMore
attribute [local go_sem] max2_int min2_int max_two min_two max_three min_three max_four min_four   -- for this text's walks alone
set_option linter.unusedVariables false
set_option linter.unusedSimpArgs false

/-! ### spec_l5SpoilPhase: function 82 -/
def spec_l5SpoilPhase.f (k : Nat) (s0_0 : List Int) (s0_1 : Int) (a1_0 : ByteArray) (a1_1 : Int) (a1_2 : ByteArray) (a1_3 : ByteArray) (a1_4 : Int) (a1_5 : Int) (a1_6 : ByteArray) (a1_7 : ByteArray) : Option (ByteArray × Int × ByteArray × ByteArray × Int × Int × ByteArray × ByteArray × Int) := (spec_l1Rd_pick.f k s0_0 s0_1 8).bind fun bt240 => (if bt240.1 = 0 then ((spec_l1Rd_of.f k s0_0 bt240.2 (([(⟨#[]⟩ : ByteArray), (⟨#[65]⟩ : ByteArray), (⟨#[103, 111, 111, 100]⟩ : ByteArray), (⟨#[102, 49]⟩ : ByteArray), (⟨#[110, 105, 110, 101, 45, 98, 121, 116, 101, 115]⟩ : ByteArray)] : List ByteArray))).bind fun bt245 => (some (bt245.1, a1_1, a1_2, a1_3, a1_4, a1_5, a1_6, a1_7, bt245.2))) else (if bt240.1 = 1 then ((spec_l1Rd_pick.f k s0_0 bt240.2 8).bind fun bt247 => (some (a1_0, wrap64 (bt247.1 - 1), a1_2, a1_3, a1_4, a1_5, a1_6, a1_7, bt247.2))) else (if bt240.1 = 2 then ((spec_l1Rd_of.f k s0_0 bt240.2 (([(⟨#[]⟩ : ByteArray), (⟨#[65]⟩ : ByteArray), a1_3, (⟨#[103, 111, 111, 100]⟩ : ByteArray)] : List ByteArray))).bind fun bt252 => (some (a1_0, a1_1, bt252.1, a1_3, a1_4, a1_5, a1_6, a1_7, bt252.2))) else (if bt240.1 = 3 then ((spec_l1Rd_of.f k s0_0 bt240.2 (([(⟨#[]⟩ : ByteArray), (⟨#[65]⟩ : ByteArray), a1_2, (⟨#[103, 111, 111, 100]⟩ : ByteArray)] : List ByteArray))).bind fun bt257 => (some (a1_0, a1_1, a1_2, bt257.1, a1_4, a1_5, a1_6, a1_7, bt257.2))) else (if bt240.1 = 4 then ((some (([(-1), 0, 1, a1_5, wrap64 (a1_5 + 1), 1000, 1001] : List Int) : List Int)).bind fun y259 => ((spec_l1Rd_pick.f k s0_0 bt240.2 7).bind fun bt262 => (if 0 ≤ bt262.1 then (if bt262.1 < (y259.length : Int) then (some (a1_0, a1_1, a1_2, a1_3, rd y259 bt262.1, a1_5, a1_6, a1_7, bt262.2)) else (none)) else (none)))) else (if bt240.1 = 5 then ((some (([(-1), 0, 1, 1000, 1001] : List Int) : List Int)).bind fun y265 => ((spec_l1Rd_pick.f k s0_0 bt240.2 5).bind fun bt268 => (if 0 ≤ bt268.1 then (if bt268.1 < (y265.length : Int) then (some (a1_0, a1_1, a1_2, a1_3, a1_4, rd y265 bt268.1, a1_6, a1_7, bt268.2)) else (none)) else (none)))) else (if bt240.1 = 6 then ((spec_l1Rd_of.f k s0_0 bt240.2 (([(⟨#[]⟩ : ByteArray), (⟨#[98, 114, 101, 119]⟩ : ByteArray), (⟨#[102, 49]⟩ : ByteArray), (⟨#[114, 101, 115, 116]⟩ : ByteArray), (⟨#[110, 111, 110, 101]⟩ : ByteArray)] : List ByteArray))).bind fun bt274 => (some (a1_0, a1_1, a1_2, a1_3, a1_4, a1_5, bt274.1, a1_7, bt274.2))) else ((spec_l1Rd_of.f k s0_0 bt240.2 (([(⟨#[]⟩ : ByteArray), (⟨#[98, 114, 101, 119]⟩ : ByteArray), (⟨#[102, 49]⟩ : ByteArray), (⟨#[114, 101, 115, 116]⟩ : ByteArray), (⟨#[110, 111, 110, 101]⟩ : ByteArray)] : List ByteArray))).bind fun bt279 => (some (a1_0, a1_1, a1_2, a1_3, a1_4, a1_5, a1_6, bt279.1, bt279.2))))))))))
theorem spec_l5SpoilPhase.mono : ∀ a0 a1 a2 a3 a4 a5 a6 a7 a8 a9 k, LeO (spec_l5SpoilPhase.f k a0 a1 a2 a3 a4 a5 a6 a7 a8 a9) (spec_l5SpoilPhase.f (k + 1) a0 a1 a2 a3 a4 a5 a6 a7 a8 a9) := by
 intro a0 a1 a2 a3 a4 a5 a6 a7 a8 a9 k
 unfold spec_l5SpoilPhase.f
 repeat' first
   | (with_reducible exact spec_l1Rd_of.mono _ _ _ _)
   | (with_reducible exact spec_l1Rd_pick.mono _ _ _ _)
   | (with_reducible exact LeO.refl _)
   | (with_reducible exact LeO.none _)
   | (with_reducible refine LeO.ite ?_ ?_)
   | (with_reducible refine LeO.bind ?_ (fun _ => ?_))
   | exact spec_l1Rd_of.mono _ _ _ _
   | exact spec_l1Rd_pick.mono _ _ _ _
   | exact LeO.none _
   | refine LeO.ite ?_ ?_
   | refine LeO.bind ?_ (fun _ => ?_)
def spec_l5SpoilPhase.T12 : Bool × List (List Nat × List Nat) := (true, [([], []), ([0], [0]), ([], []), ([2], [2]), ([3], [3]), ([1, 4], [1, 4]), ([], []), ([6], [6]), ([5, 7], [5, 7]), ([8], [8]), ([0, 1, 2, 3, 4, 5, 6, 7, 8, 9], []), ([10, 9, 7, 0, 1, 2, 3, 4, 5, 6, 7, 8, 9], [9, 10])])
def spec_l5SpoilPhase.B12 : List Nat := [0, 1, 0, 4, 12, 31, 0, 64, 255, 511, 1023, 2047]
theorem spec_l5SpoilPhase.tab12 : rtab .any (opsOf Try.f82 12) = spec_l5SpoilPhase.T12 := by kernel_rfl
theorem spec_l5SpoilPhase.bits12 : waitsOk spec_l5SpoilPhase.T12.2 spec_l5SpoilPhase.B12 = true := by kernel_rfl
set_option maxHeartbeats 8000000 in
set_option maxRecDepth 100000 in
theorem spec_l5SpoilPhase.calls (k : Nat) (g : Nat) (s0_0 : List Int) (s0_1 : Int) (a1_0 : ByteArray) (a1_1 : Int) (a1_2 : ByteArray) (a1_3 : ByteArray) (a1_4 : Int) (a1_5 : Int) (a1_6 : ByteArray) (a1_7 : ByteArray) (r1 : ByteArray) (r2 : Int) (r3 : ByteArray) (r4 : ByteArray) (r5 : Int) (r6 : Int) (r7 : ByteArray) (r8 : ByteArray) (r9 : Int) (w0 w : World) (hI : IsS107 w0 w g s0_0 s0_1) (hB : Below w0.heap.size w0 w) (h : spec_l5SpoilPhase.f k s0_0 s0_1 a1_0 a1_1 a1_2 a1_3 a1_4 a1_5 a1_6 a1_7 = some (r1, r2, r3, r4, r5, r6, r7, r8, r9)) :
  Calls Try.prog 82 #[.pointer (some ⟨g, 0, none⟩), .agg #[.string a1_0, .int .i64 a1_1, .string a1_2, .string a1_3, .int .i64 a1_4, .int .i64 a1_5, .string a1_6, .string a1_7]] w fun e w' => e = .returned (.agg #[.string r1, .int .i64 r2, .string r3, .string r4, .int .i64 r5, .int .i64 r6, .string r7, .string r8]) ∧ IsS107 w0 w' g s0_0 r9 ∧ Below w0.heap.size w0 w' ∧ KeepBut w w' g none := by
 have hu39 := Try.underlying39
 have HI0 := Aside0.mk hI
 have HK := Aside0.mk (KeepBut.refl w g none)
 have HL := Aside0.mk hB.size
 clear hI
 have HW0 := Aside0.mk hB.size
 have HB := Aside0.mk hB
 clear hB
 have H : ((spec_l1Rd_pick.f k s0_0 s0_1 8).bind fun bt240 => (if bt240.1 = 0 then ((spec_l1Rd_of.f k s0_0 bt240.2 (([(⟨#[]⟩ : ByteArray), (⟨#[65]⟩ : ByteArray), (⟨#[103, 111, 111, 100]⟩ : ByteArray), (⟨#[102, 49]⟩ : ByteArray), (⟨#[110, 105, 110, 101, 45, 98, 121, 116, 101, 115]⟩ : ByteArray)] : List ByteArray))).bind fun bt245 => (some (bt245.1, a1_1, a1_2, a1_3, a1_4, a1_5, a1_6, a1_7, bt245.2))) else (if bt240.1 = 1 then ((spec_l1Rd_pick.f k s0_0 bt240.2 8).bind fun bt247 => (some (a1_0, wrap64 (bt247.1 - 1), a1_2, a1_3, a1_4, a1_5, a1_6, a1_7, bt247.2))) else (if bt240.1 = 2 then ((spec_l1Rd_of.f k s0_0 bt240.2 (([(⟨#[]⟩ : ByteArray), (⟨#[65]⟩ : ByteArray), a1_3, (⟨#[103, 111, 111, 100]⟩ : ByteArray)] : List ByteArray))).bind fun bt252 => (some (a1_0, a1_1, bt252.1, a1_3, a1_4, a1_5, a1_6, a1_7, bt252.2))) else (if bt240.1 = 3 then ((spec_l1Rd_of.f k s0_0 bt240.2 (([(⟨#[]⟩ : ByteArray), (⟨#[65]⟩ : ByteArray), a1_2, (⟨#[103, 111, 111, 100]⟩ : ByteArray)] : List ByteArray))).bind fun bt257 => (some (a1_0, a1_1, a1_2, bt257.1, a1_4, a1_5, a1_6, a1_7, bt257.2))) else (if bt240.1 = 4 then ((some (([(-1), 0, 1, a1_5, wrap64 (a1_5 + 1), 1000, 1001] : List Int) : List Int)).bind fun y259 => ((spec_l1Rd_pick.f k s0_0 bt240.2 7).bind fun bt262 => (if 0 ≤ bt262.1 then (if bt262.1 < (y259.length : Int) then (some (a1_0, a1_1, a1_2, a1_3, rd y259 bt262.1, a1_5, a1_6, a1_7, bt262.2)) else (none)) else (none)))) else (if bt240.1 = 5 then ((some (([(-1), 0, 1, 1000, 1001] : List Int) : List Int)).bind fun y265 => ((spec_l1Rd_pick.f k s0_0 bt240.2 5).bind fun bt268 => (if 0 ≤ bt268.1 then (if bt268.1 < (y265.length : Int) then (some (a1_0, a1_1, a1_2, a1_3, a1_4, rd y265 bt268.1, a1_6, a1_7, bt268.2)) else (none)) else (none)))) else (if bt240.1 = 6 then ((spec_l1Rd_of.f k s0_0 bt240.2 (([(⟨#[]⟩ : ByteArray), (⟨#[98, 114, 101, 119]⟩ : ByteArray), (⟨#[102, 49]⟩ : ByteArray), (⟨#[114, 101, 115, 116]⟩ : ByteArray), (⟨#[110, 111, 110, 101]⟩ : ByteArray)] : List ByteArray))).bind fun bt274 => (some (a1_0, a1_1, a1_2, a1_3, a1_4, a1_5, bt274.1, a1_7, bt274.2))) else ((spec_l1Rd_of.f k s0_0 bt240.2 (([(⟨#[]⟩ : ByteArray), (⟨#[98, 114, 101, 119]⟩ : ByteArray), (⟨#[102, 49]⟩ : ByteArray), (⟨#[114, 101, 115, 116]⟩ : ByteArray), (⟨#[110, 111, 110, 101]⟩ : ByteArray)] : List ByteArray))).bind fun bt279 => (some (a1_0, a1_1, a1_2, a1_3, a1_4, a1_5, a1_6, bt279.1, bt279.2))))))))))) = some (r1, r2, r3, r4, r5, r6, r7, r8, r9) := h
 clear h
 replace H := Option.bind_eq_some_iff.mp H
 obtain ⟨⟨t240, t241⟩, A30, H⟩ := H
 replace H : (if t240 = 0 then ((spec_l1Rd_of.f k s0_0 t241 (([(⟨#[]⟩ : ByteArray), (⟨#[65]⟩ : ByteArray), (⟨#[103, 111, 111, 100]⟩ : ByteArray), (⟨#[102, 49]⟩ : ByteArray), (⟨#[110, 105, 110, 101, 45, 98, 121, 116, 101, 115]⟩ : ByteArray)] : List ByteArray))).bind fun bt245 => (some (bt245.1, a1_1, a1_2, a1_3, a1_4, a1_5, a1_6, a1_7, bt245.2))) else (if t240 = 1 then ((spec_l1Rd_pick.f k s0_0 t241 8).bind fun bt247 => (some (a1_0, wrap64 (bt247.1 - 1), a1_2, a1_3, a1_4, a1_5, a1_6, a1_7, bt247.2))) else (if t240 = 2 then ((spec_l1Rd_of.f k s0_0 t241 (([(⟨#[]⟩ : ByteArray), (⟨#[65]⟩ : ByteArray), a1_3, (⟨#[103, 111, 111, 100]⟩ : ByteArray)] : List ByteArray))).bind fun bt252 => (some (a1_0, a1_1, bt252.1, a1_3, a1_4, a1_5, a1_6, a1_7, bt252.2))) else (if t240 = 3 then ((spec_l1Rd_of.f k s0_0 t241 (([(⟨#[]⟩ : ByteArray), (⟨#[65]⟩ : ByteArray), a1_2, (⟨#[103, 111, 111, 100]⟩ : ByteArray)] : List ByteArray))).bind fun bt257 => (some (a1_0, a1_1, a1_2, bt257.1, a1_4, a1_5, a1_6, a1_7, bt257.2))) else (if t240 = 4 then ((some (([(-1), 0, 1, a1_5, wrap64 (a1_5 + 1), 1000, 1001] : List Int) : List Int)).bind fun y259 => ((spec_l1Rd_pick.f k s0_0 t241 7).bind fun bt262 => (if 0 ≤ bt262.1 then (if bt262.1 < (y259.length : Int) then (some (a1_0, a1_1, a1_2, a1_3, rd y259 bt262.1, a1_5, a1_6, a1_7, bt262.2)) else (none)) else (none)))) else (if t240 = 5 then ((some (([(-1), 0, 1, 1000, 1001] : List Int) : List Int)).bind fun y265 => ((spec_l1Rd_pick.f k s0_0 t241 5).bind fun bt268 => (if 0 ≤ bt268.1 then (if bt268.1 < (y265.length : Int) then (some (a1_0, a1_1, a1_2, a1_3, a1_4, rd y265 bt268.1, a1_6, a1_7, bt268.2)) else (none)) else (none)))) else (if t240 = 6 then ((spec_l1Rd_of.f k s0_0 t241 (([(⟨#[]⟩ : ByteArray), (⟨#[98, 114, 101, 119]⟩ : ByteArray), (⟨#[102, 49]⟩ : ByteArray), (⟨#[114, 101, 115, 116]⟩ : ByteArray), (⟨#[110, 111, 110, 101]⟩ : ByteArray)] : List ByteArray))).bind fun bt274 => (some (a1_0, a1_1, a1_2, a1_3, a1_4, a1_5, bt274.1, a1_7, bt274.2))) else ((spec_l1Rd_of.f k s0_0 t241 (([(⟨#[]⟩ : ByteArray), (⟨#[98, 114, 101, 119]⟩ : ByteArray), (⟨#[102, 49]⟩ : ByteArray), (⟨#[114, 101, 115, 116]⟩ : ByteArray), (⟨#[110, 111, 110, 101]⟩ : ByteArray)] : List ByteArray))).bind fun bt279 => (some (a1_0, a1_1, a1_2, a1_3, a1_4, a1_5, a1_6, bt279.1, bt279.2)))))))))) = some (r1, r2, r3, r4, r5, r6, r7, r8, r9) := H
 have A3 := Aside0.mk A30
 clear A30
 by_cases c4 : t240 = 0
 ·rw [if_pos c4] at H
  have c4b0 : (t240 == 0) = true := beq_iff_eq.mpr c4
  have c4b1 : (t240 != 0) = false := bne_eq_false_iff_eq.mpr c4
  clear c4
  obtain ⟨y242, hy242⟩ : ∃ y_ : List ByteArray, y_ = (([(⟨#[]⟩ : ByteArray), (⟨#[65]⟩ : ByteArray), (⟨#[103, 111, 111, 100]⟩ : ByteArray), (⟨#[102, 49]⟩ : ByteArray), (⟨#[110, 105, 110, 101, 45, 98, 121, 116, 101, 115]⟩ : ByteArray)] : List ByteArray)) := ⟨_, rfl⟩
  replace H : ((spec_l1Rd_of.f k s0_0 t241 y242).bind fun bt245 => (some (bt245.1, a1_1, a1_2, a1_3, a1_4, a1_5, a1_6, a1_7, bt245.2))) = some (r1, r2, r3, r4, r5, r6, r7, r8, r9) := by first | (rw [hy242]; with_reducible exact H) | (have H2_ := (Option.bind_some _ _).symm.trans H; rw [hy242]; with_reducible exact H2_) | (have H2_ := (Option.bind_some _ _).symm.trans H; with_reducible exact H2_) | with_reducible exact H | (rw [hy242]; exact H) | exact H
  have Ny242 := Aside0.mk hy242
  clear hy242
  replace H := Option.bind_eq_some_iff.mp H
  obtain ⟨⟨t245, t246⟩, A50, H⟩ := H
  replace H : (some (t245, a1_1, a1_2, a1_3, a1_4, a1_5, a1_6, a1_7, t246)) = some (r1, r2, r3, r4, r5, r6, r7, r8, r9) := H
  have A5 := Aside0.mk A50
  clear A50
  simp only [Option.some.injEq, Prod.mk.injEq] at H
  obtain ⟨rfl, rfl, rfl, rfl, rfl, rfl, rfl, rfl, rfl⟩ := H
  go_enter Try.func82, Try.ntmps82
  go_wp2_with (first | ((with_reducible refine gate_dst (N := 3) rfl ?_); refine box_event ?hg (N := 3) ?hd (cs := #[.string a1_0, .int .i64 a1_1, .string a1_2, .string a1_3, .int .i64 a1_4, .int .i64 a1_5, .string a1_6, .string a1_7]) (t := 39) ?hr ?_; (case hd => rfl); (case hg => rfl); (case hr => first | (go_simp; done) | (go_simp; rfl)); intro gb238 hg w6 hbox hb; have n0_ := Aside0.mk (IsS107.below (ib HI0.out) hb); have n1_ := kt HK (KeepBut.of_below hb g none); have n2_ := bsi HB hb; have n3_ := Aside0.mk (hbox); have n4_ := Aside0.mk ((by rw [hg]; exact (keep_size (w := w) (g := g) (row := none) (kb HK.out)) : w.heap.size ≤ gb238)); have n5_ := Aside0.mk ((Nat.le_trans HW0.out (by rw [hg]; exact (keep_size (w := w) (g := g) (row := none) (kb HK.out)) : w.heap.size ≤ gb238) : w0.heap.size ≤ gb238)); have n6_ := Aside0.mk ((by rw [hg]; exact Nat.ne_of_lt (IsS107.lt (show IsS107 w0 _ g s0_0 s0_1 from ib HI0.out)) : g ≠ gb238)); have n7_ := Aside0.mk ((by rw [hg]; exact Nat.ne_of_gt (IsS107.lt (show IsS107 w0 _ g s0_0 s0_1 from ib HI0.out)) : gb238 ≠ g)); clear HI0; clear HK; clear HB; have HI0 := n0_; have HK := n1_; have HB := n2_; have BK238 := n3_; have GW238 := n4_; have GE238 := n5_; have NB0_238 := n6_; have NB238_0 := n7_; clear n0_ n1_ n2_ n3_ n4_ n5_ n6_ n7_; clear hb hbox hg) | ((with_reducible refine gate_dst (N := 4) rfl ?_); refine box_event ?hg (N := 4) ?hd (cs := #[.string (⟨#[]⟩ : ByteArray), .int .i64 0, .string (⟨#[]⟩ : ByteArray), .string (⟨#[]⟩ : ByteArray), .int .i64 0, .int .i64 0, .string (⟨#[]⟩ : ByteArray), .string (⟨#[]⟩ : ByteArray)]) (t := 39) ?hr ?_; (case hd => rfl); (case hg => rfl); (case hr => first | (go_simp; done) | (go_simp; rfl)); intro gb239 hg w7 hbox hb; have n0_ := Aside0.mk (IsS107.below (ib HI0.out) hb); have n1_ := up BK238 hb; have n2_ := kt HK (KeepBut.of_below hb g none); have n3_ := bsi HB hb; have n4_ := Aside0.mk (hbox); have n5_ := Aside0.mk ((by rw [hg]; exact (keep_size (w := w) (g := g) (row := none) (kb HK.out)) : w.heap.size ≤ gb239)); have n6_ := Aside0.mk ((Nat.le_trans HW0.out (by rw [hg]; exact (keep_size (w := w) (g := g) (row := none) (kb HK.out)) : w.heap.size ≤ gb239) : w0.heap.size ≤ gb239)); have n7_ := nlt' hg BK238; have n8_ := ngt' hg BK238; have n9_ := Aside0.mk ((by rw [hg]; exact Nat.ne_of_lt (IsS107.lt (show IsS107 w0 _ g s0_0 s0_1 from ib HI0.out)) : g ≠ gb239)); have n10_ := Aside0.mk ((by rw [hg]; exact Nat.ne_of_gt (IsS107.lt (show IsS107 w0 _ g s0_0 s0_1 from ib HI0.out)) : gb239 ≠ g)); clear HI0; clear BK238; clear HK; clear HB; have HI0 := n0_; have BK238 := n1_; have HK := n2_; have HB := n3_; have BK239 := n4_; have GW239 := n5_; have GE239 := n6_; have NB238_239 := n7_; have NB239_238 := n8_; have NB0_239 := n9_; have NB239_0 := n10_; clear n0_ n1_ n2_ n3_ n4_ n5_ n6_ n7_ n8_ n9_ n10_; clear hb hbox hg) | ((with_reducible refine gate_callee (f := 64) rfl ?_); refine goesL_ (some 6) rfl rfl Try.func64 (by kernel_rfl) rfl #[.pointer (some ⟨g, 0, none⟩), .int .i64 8] rfl mxp ?_; (with_reducible refine (spec_l1Rd_pick.calls k g s0_0 s0_1 8 t240 t241 w0 _ ?side1 ?side2 A3.out).mono ?_); (case side1 => exact ib HI0.out); (case side2 => exact bi HB.out); rintro e w8 ⟨rfl, hi, hb, hk⟩; refine ⟨_, rfl, ?_⟩; have n0_ := kp BK238 hk NB238_0; have n1_ := kp BK239 hk NB239_0; have n2_ := kt HK hk; have n3_ := Aside0.mk (hb); have n4_ := Aside0.mk (hi); clear BK238; clear BK239; clear HK; clear HB; clear HI0; have BK238 := n0_; have BK239 := n1_; have HK := n2_; have HB := n3_; have HI0 := n4_; clear n0_ n1_ n2_ n3_ n4_; (try clear hb); (try clear hb2); (try clear hk); (try clear hi)) | ((with_reducible refine gate_dst (N := 14) rfl ?_); refine Kd.R_lit Kd.string _ 9 ?hg (N := 14) ?hd (xs := ([(⟨#[]⟩ : ByteArray), (⟨#[65]⟩ : ByteArray), (⟨#[103, 111, 111, 100]⟩ : ByteArray), (⟨#[102, 49]⟩ : ByteArray), (⟨#[110, 105, 110, 101, 45, 98, 121, 116, 101, 115]⟩ : ByteArray)] : List ByteArray)) (inner := [.string (⟨#[]⟩ : ByteArray), .string (⟨#[65]⟩ : ByteArray), .string (⟨#[103, 111, 111, 100]⟩ : ByteArray), .string (⟨#[102, 49]⟩ : ByteArray), .string (⟨#[110, 105, 110, 101, 45, 98, 121, 116, 101, 115]⟩ : ByteArray)]) (ok := fun _ => True) (okp := fun _ => True) ?hr ?hp (fun _ hk => hk) trivial (Below.refl _ _) (Nat.le_refl _) (by simp) ?_; (case hd => rfl); (case hg => rfl); (case hr => first | (go_simp; done) | (go_simp; rfl)); (case hp => exact (Reps.one (show Kd.M Kd.string _ _ _ (⟨#[]⟩ : ByteArray) [.string (⟨#[]⟩ : ByteArray)] from rfl) (Reps.one (show Kd.M Kd.string _ _ _ (⟨#[65]⟩ : ByteArray) [.string (⟨#[65]⟩ : ByteArray)] from rfl) (Reps.one (show Kd.M Kd.string _ _ _ (⟨#[103, 111, 111, 100]⟩ : ByteArray) [.string (⟨#[103, 111, 111, 100]⟩ : ByteArray)] from rfl) (Reps.one (show Kd.M Kd.string _ _ _ (⟨#[102, 49]⟩ : ByteArray) [.string (⟨#[102, 49]⟩ : ByteArray)] from rfl) (Reps.one (show Kd.M Kd.string _ _ _ (⟨#[110, 105, 110, 101, 45, 98, 121, 116, 101, 115]⟩ : ByteArray) [.string (⟨#[110, 105, 110, 101, 45, 98, 121, 116, 101, 115]⟩ : ByteArray)] from rfl) (Reps.none _ _))))))); intro v243 w9 ho10 hb hg_ hnew_; clear hg_ hnew_; (first | rw [← Ny242.out] at ho10 | (simp only [Int.reduceToNat] at ho10; rw [← Ny242.out] at ho10)); have n0_ := Aside0.mk (Kd.R_lower ho10 (keep_size (w := w) (g := g) (row := none) (kb HK.out))); have n1_ := Aside0.mk (IsS107.below (ib HI0.out) hb); have n2_ := up BK238 hb; have n3_ := up BK239 hb; have n4_ := kt HK (KeepBut.of_below hb g none); have n5_ := bsi HB hb; clear HI0; clear BK238; clear BK239; clear HK; clear HB; have HO244 := n0_; have HI0 := n1_; have BK238 := n2_; have BK239 := n3_; have HK := n4_; have HB := n5_; clear n0_ n1_ n2_ n3_ n4_ n5_; clear hb ho10; obtain ⟨Ao11, co11, eo11⟩ := Kd.R_slice HO244.out; subst eo11) | ((with_reducible refine gate_callee (f := 80) rfl ?_); refine goesL_ (some 15) rfl rfl Try.func80 (by kernel_rfl) rfl #[.pointer (some ⟨g, 0, none⟩), .slice Ao11 y242.length co11] rfl mxp ?_; (with_reducible refine (spec_l1Rd_of.calls k g s0_0 t241 _ _ y242 t245 t246 w0 _ ?side1 ?side2 ?side3 ?side4 ?side5 A5.out).mono ?_); (case side1 => exact ib HI0.out); (case side2 => exact bi HB.out); (case side3 => exact cx (Kd.R_reads' HO244.out).2.2); (case side4 => exact (Kd.R_reads' HO244.out).2.1); (case side5 => exact far_slice (IsS107.own_ne HI0.out HO244.out (by decide))); rintro e w12 ⟨rfl, hi, hb, hk⟩; refine ⟨_, rfl, ?_⟩; have n0_ := kp BK238 hk NB238_0; have n1_ := kp BK239 hk NB239_0; have n2_ := Aside0.mk (Kd.R_mono (Kd.R_keep (IsS107.apart (show IsS107 w0 _ g s0_0 t241 from ib HI0.out) (rx HO244.out) (by decide)) hk (fun _ h => h.2)) (fun _ h => h.1)); have n3_ := kt HK hk; have n4_ := Aside0.mk (hb); have n5_ := Aside0.mk (hi); clear BK238; clear BK239; clear HO244; clear HK; clear HB; clear HI0; have BK238 := n0_; have BK239 := n1_; have HO244 := n2_; have HK := n3_; have HB := n4_; have HI0 := n5_; clear n0_ n1_ n2_ n3_ n4_ n5_; (try clear hb); (try clear hb2); (try clear hk); (try clear hi); have hnb13 := NB238_239.out; have hnc13 := NB239_238.out; have hnb14 := NB238_0.out; have hnc14 := NB0_238.out; have hcz15_0 := b0 BK238; have hcz15_1 := b1 BK238; have hcz15_2 := b2 BK238; have hcz15_3 := b3 BK238; have hcz15_4 := b4 BK238; have hcz15_5 := b5 BK238; have hcz15_6 := b6 BK238; have hcz15_7 := b7 BK238; have hfz15_0 := fz BK238 0; have hfz15_1 := fz BK238 1; have hfz15_2 := fz BK238 2; have hfz15_3 := fz BK238 3; have hfz15_4 := fz BK238 4; have hfz15_5 := fz BK238 5; have hfz15_6 := fz BK238 6; have hfz15_7 := fz BK238 7; have hnb16 := NB239_0.out; have hnc16 := NB0_239.out; have hcz17_0 := b0 BK239; have hcz17_1 := b1 BK239; have hcz17_2 := b2 BK239; have hcz17_3 := b3 BK239; have hcz17_4 := b4 BK239; have hcz17_5 := b5 BK239; have hcz17_6 := b6 BK239; have hcz17_7 := b7 BK239; have hfz17_0 := fz BK239 0; have hfz17_1 := fz BK239 1; have hfz17_2 := fz BK239 2; have hfz17_3 := fz BK239 3; have hfz17_4 := fz BK239 4; have hfz17_5 := fz BK239 5; have hfz17_6 := fz BK239 6; have hfz17_7 := fz BK239 7))
  refine bodyPost_ret (results_cell_row rfl _ _ gb239 39 #[.string t245, .int .i64 a1_1, .string a1_2, .string a1_3, .int .i64 a1_4, .int .i64 a1_5, .string a1_6, .string a1_7] (0, 0) _ rfl (by refine bx ?_; refine blk_put (cs := #[.string t245, .int .i64 a1_1, .string a1_2, .string a1_3, .int .i64 a1_4, .int .i64 a1_5, .string a1_6, .string (⟨#[]⟩ : ByteArray)]) ?_ 7 _ rfl; refine bx ?_; refine blk_put (cs := #[.string t245, .int .i64 a1_1, .string a1_2, .string a1_3, .int .i64 a1_4, .int .i64 a1_5, .string (⟨#[]⟩ : ByteArray), .string (⟨#[]⟩ : ByteArray)]) ?_ 6 _ rfl; refine bx ?_; refine blk_put (cs := #[.string t245, .int .i64 a1_1, .string a1_2, .string a1_3, .int .i64 a1_4, .int .i64 0, .string (⟨#[]⟩ : ByteArray), .string (⟨#[]⟩ : ByteArray)]) ?_ 5 _ rfl; refine bx ?_; refine blk_put (cs := #[.string t245, .int .i64 a1_1, .string a1_2, .string a1_3, .int .i64 0, .int .i64 0, .string (⟨#[]⟩ : ByteArray), .string (⟨#[]⟩ : ByteArray)]) ?_ 4 _ rfl; refine bx ?_; refine blk_put (cs := #[.string t245, .int .i64 a1_1, .string a1_2, .string (⟨#[]⟩ : ByteArray), .int .i64 0, .int .i64 0, .string (⟨#[]⟩ : ByteArray), .string (⟨#[]⟩ : ByteArray)]) ?_ 3 _ rfl; refine bx ?_; refine blk_put (cs := #[.string t245, .int .i64 a1_1, .string (⟨#[]⟩ : ByteArray), .string (⟨#[]⟩ : ByteArray), .int .i64 0, .int .i64 0, .string (⟨#[]⟩ : ByteArray), .string (⟨#[]⟩ : ByteArray)]) ?_ 2 _ rfl; refine bx ?_; refine blk_put (cs := #[.string t245, .int .i64 0, .string (⟨#[]⟩ : ByteArray), .string (⟨#[]⟩ : ByteArray), .int .i64 0, .int .i64 0, .string (⟨#[]⟩ : ByteArray), .string (⟨#[]⟩ : ByteArray)]) ?_ 1 _ rfl; refine bx ?_; refine blk_put (cs := #[.string (⟨#[]⟩ : ByteArray), .int .i64 0, .string (⟨#[]⟩ : ByteArray), .string (⟨#[]⟩ : ByteArray), .int .i64 0, .int .i64 0, .string (⟨#[]⟩ : ByteArray), .string (⟨#[]⟩ : ByteArray)]) ?_ 0 _ rfl; refine bx ?_; refine blk_far ?_ NB239_238.out _; refine bx ?_; exact BK239.out) Try.underlying39 rfl (by kernel_rfl)) rfl ?_
  exact ⟨exq, ib HI0.out, bi HB.out, kb HK.out⟩
 ·rw [if_neg c4] at H
  have c4b0 : (t240 == 0) = false := beq_eq_false_iff_ne.mpr c4
  have c4b1 : (t240 != 0) = true := bne_iff_ne.mpr c4
  by_cases c18 : t240 = 1
  ·rw [if_pos c18] at H
   have c18b0 : (t240 == 1) = true := beq_iff_eq.mpr c18
   have c18b1 : (t240 != 1) = false := bne_eq_false_iff_eq.mpr c18
   clear c18
   replace H := Option.bind_eq_some_iff.mp H
   obtain ⟨⟨t247, t248⟩, A190, H⟩ := H
   replace H : (some (a1_0, wrap64 (t247 - 1), a1_2, a1_3, a1_4, a1_5, a1_6, a1_7, t248)) = some (r1, r2, r3, r4, r5, r6, r7, r8, r9) := H
   have A19 := Aside0.mk A190
   clear A190
   simp only [Option.some.injEq, Prod.mk.injEq] at H
   obtain ⟨rfl, rfl, rfl, rfl, rfl, rfl, rfl, rfl, rfl⟩ := H
   go_enter Try.func82, Try.ntmps82
   go_wp2_with (first | ((with_reducible refine gate_dst (N := 3) rfl ?_); refine box_event ?hg (N := 3) ?hd (cs := #[.string a1_0, .int .i64 a1_1, .string a1_2, .string a1_3, .int .i64 a1_4, .int .i64 a1_5, .string a1_6, .string a1_7]) (t := 39) ?hr ?_; (case hd => rfl); (case hg => rfl); (case hr => first | (go_simp; done) | (go_simp; rfl)); intro gb238 hg w20 hbox hb; have n0_ := Aside0.mk (IsS107.below (ib HI0.out) hb); have n1_ := kt HK (KeepBut.of_below hb g none); have n2_ := bsi HB hb; have n3_ := Aside0.mk (hbox); have n4_ := Aside0.mk ((by rw [hg]; exact (keep_size (w := w) (g := g) (row := none) (kb HK.out)) : w.heap.size ≤ gb238)); have n5_ := Aside0.mk ((Nat.le_trans HW0.out (by rw [hg]; exact (keep_size (w := w) (g := g) (row := none) (kb HK.out)) : w.heap.size ≤ gb238) : w0.heap.size ≤ gb238)); have n6_ := Aside0.mk ((by rw [hg]; exact Nat.ne_of_lt (IsS107.lt (show IsS107 w0 _ g s0_0 s0_1 from ib HI0.out)) : g ≠ gb238)); have n7_ := Aside0.mk ((by rw [hg]; exact Nat.ne_of_gt (IsS107.lt (show IsS107 w0 _ g s0_0 s0_1 from ib HI0.out)) : gb238 ≠ g)); clear HI0; clear HK; clear HB; have HI0 := n0_; have HK := n1_; have HB := n2_; have BK238 := n3_; have GW238 := n4_; have GE238 := n5_; have NB0_238 := n6_; have NB238_0 := n7_; clear n0_ n1_ n2_ n3_ n4_ n5_ n6_ n7_; clear hb hbox hg) | ((with_reducible refine gate_dst (N := 4) rfl ?_); refine box_event ?hg (N := 4) ?hd (cs := #[.string (⟨#[]⟩ : ByteArray), .int .i64 0, .string (⟨#[]⟩ : ByteArray), .string (⟨#[]⟩ : ByteArray), .int .i64 0, .int .i64 0, .string (⟨#[]⟩ : ByteArray), .string (⟨#[]⟩ : ByteArray)]) (t := 39) ?hr ?_; (case hd => rfl); (case hg => rfl); (case hr => first | (go_simp; done) | (go_simp; rfl)); intro gb239 hg w21 hbox hb; have n0_ := Aside0.mk (IsS107.below (ib HI0.out) hb); have n1_ := up BK238 hb; have n2_ := kt HK (KeepBut.of_below hb g none); have n3_ := bsi HB hb; have n4_ := Aside0.mk (hbox); have n5_ := Aside0.mk ((by rw [hg]; exact (keep_size (w := w) (g := g) (row := none) (kb HK.out)) : w.heap.size ≤ gb239)); have n6_ := Aside0.mk ((Nat.le_trans HW0.out (by rw [hg]; exact (keep_size (w := w) (g := g) (row := none) (kb HK.out)) : w.heap.size ≤ gb239) : w0.heap.size ≤ gb239)); have n7_ := nlt' hg BK238; have n8_ := ngt' hg BK238; have n9_ := Aside0.mk ((by rw [hg]; exact Nat.ne_of_lt (IsS107.lt (show IsS107 w0 _ g s0_0 s0_1 from ib HI0.out)) : g ≠ gb239)); have n10_ := Aside0.mk ((by rw [hg]; exact Nat.ne_of_gt (IsS107.lt (show IsS107 w0 _ g s0_0 s0_1 from ib HI0.out)) : gb239 ≠ g)); clear HI0; clear BK238; clear HK; clear HB; have HI0 := n0_; have BK238 := n1_; have HK := n2_; have HB := n3_; have BK239 := n4_; have GW239 := n5_; have GE239 := n6_; have NB238_239 := n7_; have NB239_238 := n8_; have NB0_239 := n9_; have NB239_0 := n10_; clear n0_ n1_ n2_ n3_ n4_ n5_ n6_ n7_ n8_ n9_ n10_; clear hb hbox hg) | ((with_reducible refine gate_callee (f := 64) rfl ?_); refine goesL_ (some 6) rfl rfl Try.func64 (by kernel_rfl) rfl #[.pointer (some ⟨g, 0, none⟩), .int .i64 8] rfl mxp ?_; (with_reducible refine (spec_l1Rd_pick.calls k g s0_0 s0_1 8 t240 t241 w0 _ ?side1 ?side2 A3.out).mono ?_); (case side1 => exact ib HI0.out); (case side2 => exact bi HB.out); rintro e w22 ⟨rfl, hi, hb, hk⟩; refine ⟨_, rfl, ?_⟩; have n0_ := kp BK238 hk NB238_0; have n1_ := kp BK239 hk NB239_0; have n2_ := kt HK hk; have n3_ := Aside0.mk (hb); have n4_ := Aside0.mk (hi); clear BK238; clear BK239; clear HK; clear HB; clear HI0; have BK238 := n0_; have BK239 := n1_; have HK := n2_; have HB := n3_; have HI0 := n4_; clear n0_ n1_ n2_ n3_ n4_; (try clear hb); (try clear hb2); (try clear hk); (try clear hi)) | ((with_reducible refine gate_callee (f := 64) rfl ?_); refine goesL_ (some 20) rfl rfl Try.func64 (by kernel_rfl) rfl #[.pointer (some ⟨g, 0, none⟩), .int .i64 8] rfl mxp ?_; (with_reducible refine (spec_l1Rd_pick.calls k g s0_0 t241 8 t247 t248 w0 _ ?side1 ?side2 A19.out).mono ?_); (case side1 => exact ib HI0.out); (case side2 => exact bi HB.out); rintro e w23 ⟨rfl, hi, hb, hk⟩; refine ⟨_, rfl, ?_⟩; have n0_ := kp BK238 hk NB238_0; have n1_ := kp BK239 hk NB239_0; have n2_ := kt HK hk; have n3_ := Aside0.mk (hb); have n4_ := Aside0.mk (hi); clear BK238; clear BK239; clear HK; clear HB; clear HI0; have BK238 := n0_; have BK239 := n1_; have HK := n2_; have HB := n3_; have HI0 := n4_; clear n0_ n1_ n2_ n3_ n4_; (try clear hb); (try clear hb2); (try clear hk); (try clear hi); have hnb24 := NB238_239.out; have hnc24 := NB239_238.out; have hnb25 := NB238_0.out; have hnc25 := NB0_238.out; have hcz26_0 := b0 BK238; have hcz26_1 := b1 BK238; have hcz26_2 := b2 BK238; have hcz26_3 := b3 BK238; have hcz26_4 := b4 BK238; have hcz26_5 := b5 BK238; have hcz26_6 := b6 BK238; have hcz26_7 := b7 BK238; have hfz26_0 := fz BK238 0; have hfz26_1 := fz BK238 1; have hfz26_2 := fz BK238 2; have hfz26_3 := fz BK238 3; have hfz26_4 := fz BK238 4; have hfz26_5 := fz BK238 5; have hfz26_6 := fz BK238 6; have hfz26_7 := fz BK238 7; have hnb27 := NB239_0.out; have hnc27 := NB0_239.out; have hcz28_0 := b0 BK239; have hcz28_1 := b1 BK239; have hcz28_2 := b2 BK239; have hcz28_3 := b3 BK239; have hcz28_4 := b4 BK239; have hcz28_5 := b5 BK239; have hcz28_6 := b6 BK239; have hcz28_7 := b7 BK239; have hfz28_0 := fz BK239 0; have hfz28_1 := fz BK239 1; have hfz28_2 := fz BK239 2; have hfz28_3 := fz BK239 3; have hfz28_4 := fz BK239 4; have hfz28_5 := fz BK239 5; have hfz28_6 := fz BK239 6; have hfz28_7 := fz BK239 7))
   refine bodyPost_ret (results_cell_row rfl _ _ gb239 39 #[.string a1_0, .int .i64 (wrap64 (t247 - 1)), .string a1_2, .string a1_3, .int .i64 a1_4, .int .i64 a1_5, .string a1_6, .string a1_7] (0, 0) _ rfl (by refine bx ?_; refine blk_put (cs := #[.string a1_0, .int .i64 (wrap64 (t247 - 1)), .string a1_2, .string a1_3, .int .i64 a1_4, .int .i64 a1_5, .string a1_6, .string (⟨#[]⟩ : ByteArray)]) ?_ 7 _ rfl; refine bx ?_; refine blk_put (cs := #[.string a1_0, .int .i64 (wrap64 (t247 - 1)), .string a1_2, .string a1_3, .int .i64 a1_4, .int .i64 a1_5, .string (⟨#[]⟩ : ByteArray), .string (⟨#[]⟩ : ByteArray)]) ?_ 6 _ rfl; refine bx ?_; refine blk_put (cs := #[.string a1_0, .int .i64 (wrap64 (t247 - 1)), .string a1_2, .string a1_3, .int .i64 a1_4, .int .i64 0, .string (⟨#[]⟩ : ByteArray), .string (⟨#[]⟩ : ByteArray)]) ?_ 5 _ rfl; refine bx ?_; refine blk_put (cs := #[.string a1_0, .int .i64 (wrap64 (t247 - 1)), .string a1_2, .string a1_3, .int .i64 0, .int .i64 0, .string (⟨#[]⟩ : ByteArray), .string (⟨#[]⟩ : ByteArray)]) ?_ 4 _ rfl; refine bx ?_; refine blk_put (cs := #[.string a1_0, .int .i64 (wrap64 (t247 - 1)), .string a1_2, .string (⟨#[]⟩ : ByteArray), .int .i64 0, .int .i64 0, .string (⟨#[]⟩ : ByteArray), .string (⟨#[]⟩ : ByteArray)]) ?_ 3 _ rfl; refine bx ?_; refine blk_put (cs := #[.string a1_0, .int .i64 (wrap64 (t247 - 1)), .string (⟨#[]⟩ : ByteArray), .string (⟨#[]⟩ : ByteArray), .int .i64 0, .int .i64 0, .string (⟨#[]⟩ : ByteArray), .string (⟨#[]⟩ : ByteArray)]) ?_ 2 _ rfl; refine bx ?_; refine blk_put (cs := #[.string a1_0, .int .i64 0, .string (⟨#[]⟩ : ByteArray), .string (⟨#[]⟩ : ByteArray), .int .i64 0, .int .i64 0, .string (⟨#[]⟩ : ByteArray), .string (⟨#[]⟩ : ByteArray)]) ?_ 1 _ rfl; refine bx ?_; refine blk_put (cs := #[.string (⟨#[]⟩ : ByteArray), .int .i64 0, .string (⟨#[]⟩ : ByteArray), .string (⟨#[]⟩ : ByteArray), .int .i64 0, .int .i64 0, .string (⟨#[]⟩ : ByteArray), .string (⟨#[]⟩ : ByteArray)]) ?_ 0 _ rfl; refine bx ?_; refine blk_far ?_ NB239_238.out _; refine bx ?_; exact BK239.out) Try.underlying39 rfl (by kernel_rfl)) rfl ?_
   exact ⟨exq, ib HI0.out, bi HB.out, kb HK.out⟩
  ·rw [if_neg c18] at H
   have c18b0 : (t240 == 1) = false := beq_eq_false_iff_ne.mpr c18
   have c18b1 : (t240 != 1) = true := bne_iff_ne.mpr c18
   by_cases c29 : t240 = 2
   ·rw [if_pos c29] at H
    have c29b0 : (t240 == 2) = true := beq_iff_eq.mpr c29
    have c29b1 : (t240 != 2) = false := bne_eq_false_iff_eq.mpr c29
    clear c29
    obtain ⟨y249, hy249⟩ : ∃ y_ : List ByteArray, y_ = (([(⟨#[]⟩ : ByteArray), (⟨#[65]⟩ : ByteArray), a1_3, (⟨#[103, 111, 111, 100]⟩ : ByteArray)] : List ByteArray)) := ⟨_, rfl⟩
    replace H : ((spec_l1Rd_of.f k s0_0 t241 y249).bind fun bt252 => (some (a1_0, a1_1, bt252.1, a1_3, a1_4, a1_5, a1_6, a1_7, bt252.2))) = some (r1, r2, r3, r4, r5, r6, r7, r8, r9) := by first | (rw [hy249]; with_reducible exact H) | (have H2_ := (Option.bind_some _ _).symm.trans H; rw [hy249]; with_reducible exact H2_) | (have H2_ := (Option.bind_some _ _).symm.trans H; with_reducible exact H2_) | with_reducible exact H | (rw [hy249]; exact H) | exact H
    have Ny249 := Aside0.mk hy249
    clear hy249
    replace H := Option.bind_eq_some_iff.mp H
    obtain ⟨⟨t252, t253⟩, A300, H⟩ := H
    replace H : (some (a1_0, a1_1, t252, a1_3, a1_4, a1_5, a1_6, a1_7, t253)) = some (r1, r2, r3, r4, r5, r6, r7, r8, r9) := H
    have A30 := Aside0.mk A300
    clear A300
    simp only [Option.some.injEq, Prod.mk.injEq] at H
    obtain ⟨rfl, rfl, rfl, rfl, rfl, rfl, rfl, rfl, rfl⟩ := H
    go_enter Try.func82, Try.ntmps82
    go_wp2_with (first | ((with_reducible refine gate_dst (N := 3) rfl ?_); refine box_event ?hg (N := 3) ?hd (cs := #[.string a1_0, .int .i64 a1_1, .string a1_2, .string a1_3, .int .i64 a1_4, .int .i64 a1_5, .string a1_6, .string a1_7]) (t := 39) ?hr ?_; (case hd => rfl); (case hg => rfl); (case hr => first | (go_simp; done) | (go_simp; rfl)); intro gb238 hg w31 hbox hb; have n0_ := Aside0.mk (IsS107.below (ib HI0.out) hb); have n1_ := kt HK (KeepBut.of_below hb g none); have n2_ := bsi HB hb; have n3_ := Aside0.mk (hbox); have n4_ := Aside0.mk ((by rw [hg]; exact (keep_size (w := w) (g := g) (row := none) (kb HK.out)) : w.heap.size ≤ gb238)); have n5_ := Aside0.mk ((Nat.le_trans HW0.out (by rw [hg]; exact (keep_size (w := w) (g := g) (row := none) (kb HK.out)) : w.heap.size ≤ gb238) : w0.heap.size ≤ gb238)); have n6_ := Aside0.mk ((by rw [hg]; exact Nat.ne_of_lt (IsS107.lt (show IsS107 w0 _ g s0_0 s0_1 from ib HI0.out)) : g ≠ gb238)); have n7_ := Aside0.mk ((by rw [hg]; exact Nat.ne_of_gt (IsS107.lt (show IsS107 w0 _ g s0_0 s0_1 from ib HI0.out)) : gb238 ≠ g)); clear HI0; clear HK; clear HB; have HI0 := n0_; have HK := n1_; have HB := n2_; have BK238 := n3_; have GW238 := n4_; have GE238 := n5_; have NB0_238 := n6_; have NB238_0 := n7_; clear n0_ n1_ n2_ n3_ n4_ n5_ n6_ n7_; clear hb hbox hg) | ((with_reducible refine gate_dst (N := 4) rfl ?_); refine box_event ?hg (N := 4) ?hd (cs := #[.string (⟨#[]⟩ : ByteArray), .int .i64 0, .string (⟨#[]⟩ : ByteArray), .string (⟨#[]⟩ : ByteArray), .int .i64 0, .int .i64 0, .string (⟨#[]⟩ : ByteArray), .string (⟨#[]⟩ : ByteArray)]) (t := 39) ?hr ?_; (case hd => rfl); (case hg => rfl); (case hr => first | (go_simp; done) | (go_simp; rfl)); intro gb239 hg w32 hbox hb; have n0_ := Aside0.mk (IsS107.below (ib HI0.out) hb); have n1_ := up BK238 hb; have n2_ := kt HK (KeepBut.of_below hb g none); have n3_ := bsi HB hb; have n4_ := Aside0.mk (hbox); have n5_ := Aside0.mk ((by rw [hg]; exact (keep_size (w := w) (g := g) (row := none) (kb HK.out)) : w.heap.size ≤ gb239)); have n6_ := Aside0.mk ((Nat.le_trans HW0.out (by rw [hg]; exact (keep_size (w := w) (g := g) (row := none) (kb HK.out)) : w.heap.size ≤ gb239) : w0.heap.size ≤ gb239)); have n7_ := nlt' hg BK238; have n8_ := ngt' hg BK238; have n9_ := Aside0.mk ((by rw [hg]; exact Nat.ne_of_lt (IsS107.lt (show IsS107 w0 _ g s0_0 s0_1 from ib HI0.out)) : g ≠ gb239)); have n10_ := Aside0.mk ((by rw [hg]; exact Nat.ne_of_gt (IsS107.lt (show IsS107 w0 _ g s0_0 s0_1 from ib HI0.out)) : gb239 ≠ g)); clear HI0; clear BK238; clear HK; clear HB; have HI0 := n0_; have BK238 := n1_; have HK := n2_; have HB := n3_; have BK239 := n4_; have GW239 := n5_; have GE239 := n6_; have NB238_239 := n7_; have NB239_238 := n8_; have NB0_239 := n9_; have NB239_0 := n10_; clear n0_ n1_ n2_ n3_ n4_ n5_ n6_ n7_ n8_ n9_ n10_; clear hb hbox hg) | ((with_reducible refine gate_callee (f := 64) rfl ?_); refine goesL_ (some 6) rfl rfl Try.func64 (by kernel_rfl) rfl #[.pointer (some ⟨g, 0, none⟩), .int .i64 8] rfl mxp ?_; (with_reducible refine (spec_l1Rd_pick.calls k g s0_0 s0_1 8 t240 t241 w0 _ ?side1 ?side2 A3.out).mono ?_); (case side1 => exact ib HI0.out); (case side2 => exact bi HB.out); rintro e w33 ⟨rfl, hi, hb, hk⟩; refine ⟨_, rfl, ?_⟩; have n0_ := kp BK238 hk NB238_0; have n1_ := kp BK239 hk NB239_0; have n2_ := kt HK hk; have n3_ := Aside0.mk (hb); have n4_ := Aside0.mk (hi); clear BK238; clear BK239; clear HK; clear HB; clear HI0; have BK238 := n0_; have BK239 := n1_; have HK := n2_; have HB := n3_; have HI0 := n4_; clear n0_ n1_ n2_ n3_ n4_; (try clear hb); (try clear hb2); (try clear hk); (try clear hi); have hnb34 := NB238_239.out; have hnc34 := NB239_238.out; have hnb35 := NB238_0.out; have hnc35 := NB0_238.out; have hcz36_0 := b0 BK238; have hcz36_1 := b1 BK238; have hcz36_2 := b2 BK238; have hcz36_3 := b3 BK238; have hcz36_4 := b4 BK238; have hcz36_5 := b5 BK238; have hcz36_6 := b6 BK238; have hcz36_7 := b7 BK238; have hfz36_0 := fz BK238 0; have hfz36_1 := fz BK238 1; have hfz36_2 := fz BK238 2; have hfz36_3 := fz BK238 3; have hfz36_4 := fz BK238 4; have hfz36_5 := fz BK238 5; have hfz36_6 := fz BK238 6; have hfz36_7 := fz BK238 7) | ((with_reducible refine gate_dst (N := 28) rfl ?_); refine Kd.R_lit Kd.string _ 9 ?hg (N := 28) ?hd (xs := ([(⟨#[]⟩ : ByteArray), (⟨#[65]⟩ : ByteArray), a1_3, (⟨#[103, 111, 111, 100]⟩ : ByteArray)] : List ByteArray)) (inner := [.string (⟨#[]⟩ : ByteArray), .string (⟨#[65]⟩ : ByteArray), .string a1_3, .string (⟨#[103, 111, 111, 100]⟩ : ByteArray)]) (ok := fun _ => True) (okp := fun _ => True) ?hr ?hp (fun _ hk => hk) trivial (Below.refl _ _) (Nat.le_refl _) (by simp) ?_; (case hd => rfl); (case hg => rfl); (case hr => first | (go_simp; done) | (go_simp; rfl)); (case hp => exact (Reps.one (show Kd.M Kd.string _ _ _ (⟨#[]⟩ : ByteArray) [.string (⟨#[]⟩ : ByteArray)] from rfl) (Reps.one (show Kd.M Kd.string _ _ _ (⟨#[65]⟩ : ByteArray) [.string (⟨#[65]⟩ : ByteArray)] from rfl) (Reps.one (show Kd.M Kd.string _ _ _ a1_3 [.string a1_3] from rfl) (Reps.one (show Kd.M Kd.string _ _ _ (⟨#[103, 111, 111, 100]⟩ : ByteArray) [.string (⟨#[103, 111, 111, 100]⟩ : ByteArray)] from rfl) (Reps.none _ _)))))); intro v250 w37 ho38 hb hg_ hnew_; clear hg_ hnew_; (first | rw [← Ny249.out] at ho38 | (simp only [Int.reduceToNat] at ho38; rw [← Ny249.out] at ho38)); have n0_ := Aside0.mk (Kd.R_lower ho38 (keep_size (w := w) (g := g) (row := none) (kb HK.out))); have n1_ := Aside0.mk (IsS107.below (ib HI0.out) hb); have n2_ := up BK238 hb; have n3_ := up BK239 hb; have n4_ := kt HK (KeepBut.of_below hb g none); have n5_ := bsi HB hb; clear HI0; clear BK238; clear BK239; clear HK; clear HB; have HO251 := n0_; have HI0 := n1_; have BK238 := n2_; have BK239 := n3_; have HK := n4_; have HB := n5_; clear n0_ n1_ n2_ n3_ n4_ n5_; clear hb ho38; obtain ⟨Ao39, co39, eo39⟩ := Kd.R_slice HO251.out; subst eo39) | ((with_reducible refine gate_callee (f := 80) rfl ?_); refine goesL_ (some 29) rfl rfl Try.func80 (by kernel_rfl) rfl #[.pointer (some ⟨g, 0, none⟩), .slice Ao39 y249.length co39] rfl mxp ?_; (with_reducible refine (spec_l1Rd_of.calls k g s0_0 t241 _ _ y249 t252 t253 w0 _ ?side1 ?side2 ?side3 ?side4 ?side5 A30.out).mono ?_); (case side1 => exact ib HI0.out); (case side2 => exact bi HB.out); (case side3 => exact cx (Kd.R_reads' HO251.out).2.2); (case side4 => exact (Kd.R_reads' HO251.out).2.1); (case side5 => exact far_slice (IsS107.own_ne HI0.out HO251.out (by decide))); rintro e w40 ⟨rfl, hi, hb, hk⟩; refine ⟨_, rfl, ?_⟩; have n0_ := kp BK238 hk NB238_0; have n1_ := kp BK239 hk NB239_0; have n2_ := Aside0.mk (Kd.R_mono (Kd.R_keep (IsS107.apart (show IsS107 w0 _ g s0_0 t241 from ib HI0.out) (rx HO251.out) (by decide)) hk (fun _ h => h.2)) (fun _ h => h.1)); have n3_ := kt HK hk; have n4_ := Aside0.mk (hb); have n5_ := Aside0.mk (hi); clear BK238; clear BK239; clear HO251; clear HK; clear HB; clear HI0; have BK238 := n0_; have BK239 := n1_; have HO251 := n2_; have HK := n3_; have HB := n4_; have HI0 := n5_; clear n0_ n1_ n2_ n3_ n4_ n5_; (try clear hb); (try clear hb2); (try clear hk); (try clear hi); have hcz41_0 := b0 BK238; have hcz41_1 := b1 BK238; have hcz41_2 := b2 BK238; have hcz41_3 := b3 BK238; have hcz41_4 := b4 BK238; have hcz41_5 := b5 BK238; have hcz41_6 := b6 BK238; have hcz41_7 := b7 BK238; have hfz41_0 := fz BK238 0; have hfz41_1 := fz BK238 1; have hfz41_2 := fz BK238 2; have hfz41_3 := fz BK238 3; have hfz41_4 := fz BK238 4; have hfz41_5 := fz BK238 5; have hfz41_6 := fz BK238 6; have hfz41_7 := fz BK238 7; have hnb42 := NB239_0.out; have hnc42 := NB0_239.out; have hcz43_0 := b0 BK239; have hcz43_1 := b1 BK239; have hcz43_2 := b2 BK239; have hcz43_3 := b3 BK239; have hcz43_4 := b4 BK239; have hcz43_5 := b5 BK239; have hcz43_6 := b6 BK239; have hcz43_7 := b7 BK239; have hfz43_0 := fz BK239 0; have hfz43_1 := fz BK239 1; have hfz43_2 := fz BK239 2; have hfz43_3 := fz BK239 3; have hfz43_4 := fz BK239 4; have hfz43_5 := fz BK239 5; have hfz43_6 := fz BK239 6; have hfz43_7 := fz BK239 7))
    refine bodyPost_ret (results_cell_row rfl _ _ gb239 39 #[.string a1_0, .int .i64 a1_1, .string t252, .string a1_3, .int .i64 a1_4, .int .i64 a1_5, .string a1_6, .string a1_7] (0, 0) _ rfl (by refine bx ?_; refine blk_put (cs := #[.string a1_0, .int .i64 a1_1, .string t252, .string a1_3, .int .i64 a1_4, .int .i64 a1_5, .string a1_6, .string (⟨#[]⟩ : ByteArray)]) ?_ 7 _ rfl; refine bx ?_; refine blk_put (cs := #[.string a1_0, .int .i64 a1_1, .string t252, .string a1_3, .int .i64 a1_4, .int .i64 a1_5, .string (⟨#[]⟩ : ByteArray), .string (⟨#[]⟩ : ByteArray)]) ?_ 6 _ rfl; refine bx ?_; refine blk_put (cs := #[.string a1_0, .int .i64 a1_1, .string t252, .string a1_3, .int .i64 a1_4, .int .i64 0, .string (⟨#[]⟩ : ByteArray), .string (⟨#[]⟩ : ByteArray)]) ?_ 5 _ rfl; refine bx ?_; refine blk_put (cs := #[.string a1_0, .int .i64 a1_1, .string t252, .string a1_3, .int .i64 0, .int .i64 0, .string (⟨#[]⟩ : ByteArray), .string (⟨#[]⟩ : ByteArray)]) ?_ 4 _ rfl; refine bx ?_; refine blk_put (cs := #[.string a1_0, .int .i64 a1_1, .string t252, .string (⟨#[]⟩ : ByteArray), .int .i64 0, .int .i64 0, .string (⟨#[]⟩ : ByteArray), .string (⟨#[]⟩ : ByteArray)]) ?_ 3 _ rfl; refine bx ?_; refine blk_put (cs := #[.string a1_0, .int .i64 a1_1, .string (⟨#[]⟩ : ByteArray), .string (⟨#[]⟩ : ByteArray), .int .i64 0, .int .i64 0, .string (⟨#[]⟩ : ByteArray), .string (⟨#[]⟩ : ByteArray)]) ?_ 2 _ rfl; refine bx ?_; refine blk_put (cs := #[.string a1_0, .int .i64 0, .string (⟨#[]⟩ : ByteArray), .string (⟨#[]⟩ : ByteArray), .int .i64 0, .int .i64 0, .string (⟨#[]⟩ : ByteArray), .string (⟨#[]⟩ : ByteArray)]) ?_ 1 _ rfl; refine bx ?_; refine blk_put (cs := #[.string (⟨#[]⟩ : ByteArray), .int .i64 0, .string (⟨#[]⟩ : ByteArray), .string (⟨#[]⟩ : ByteArray), .int .i64 0, .int .i64 0, .string (⟨#[]⟩ : ByteArray), .string (⟨#[]⟩ : ByteArray)]) ?_ 0 _ rfl; refine bx ?_; refine blk_far ?_ NB239_238.out _; refine bx ?_; exact BK239.out) Try.underlying39 rfl (by kernel_rfl)) rfl ?_
    exact ⟨exq, ib HI0.out, bi HB.out, kb HK.out⟩
   ·rw [if_neg c29] at H
    have c29b0 : (t240 == 2) = false := beq_eq_false_iff_ne.mpr c29
    have c29b1 : (t240 != 2) = true := bne_iff_ne.mpr c29
    by_cases c44 : t240 = 3
    ·rw [if_pos c44] at H
     have c44b0 : (t240 == 3) = true := beq_iff_eq.mpr c44
     have c44b1 : (t240 != 3) = false := bne_eq_false_iff_eq.mpr c44
     clear c44
     obtain ⟨y254, hy254⟩ : ∃ y_ : List ByteArray, y_ = (([(⟨#[]⟩ : ByteArray), (⟨#[65]⟩ : ByteArray), a1_2, (⟨#[103, 111, 111, 100]⟩ : ByteArray)] : List ByteArray)) := ⟨_, rfl⟩
     replace H : ((spec_l1Rd_of.f k s0_0 t241 y254).bind fun bt257 => (some (a1_0, a1_1, a1_2, bt257.1, a1_4, a1_5, a1_6, a1_7, bt257.2))) = some (r1, r2, r3, r4, r5, r6, r7, r8, r9) := by first | (rw [hy254]; with_reducible exact H) | (have H2_ := (Option.bind_some _ _).symm.trans H; rw [hy254]; with_reducible exact H2_) | (have H2_ := (Option.bind_some _ _).symm.trans H; with_reducible exact H2_) | with_reducible exact H | (rw [hy254]; exact H) | exact H
     have Ny254 := Aside0.mk hy254
     clear hy254
     replace H := Option.bind_eq_some_iff.mp H
     obtain ⟨⟨t257, t258⟩, A450, H⟩ := H
     replace H : (some (a1_0, a1_1, a1_2, t257, a1_4, a1_5, a1_6, a1_7, t258)) = some (r1, r2, r3, r4, r5, r6, r7, r8, r9) := H
     have A45 := Aside0.mk A450
     clear A450
     simp only [Option.some.injEq, Prod.mk.injEq] at H
     obtain ⟨rfl, rfl, rfl, rfl, rfl, rfl, rfl, rfl, rfl⟩ := H
     go_enter Try.func82, Try.ntmps82
     go_wp2_with (first | ((with_reducible refine gate_dst (N := 3) rfl ?_); refine box_event ?hg (N := 3) ?hd (cs := #[.string a1_0, .int .i64 a1_1, .string a1_2, .string a1_3, .int .i64 a1_4, .int .i64 a1_5, .string a1_6, .string a1_7]) (t := 39) ?hr ?_; (case hd => rfl); (case hg => rfl); (case hr => first | (go_simp; done) | (go_simp; rfl)); intro gb238 hg w46 hbox hb; have n0_ := Aside0.mk (IsS107.below (ib HI0.out) hb); have n1_ := kt HK (KeepBut.of_below hb g none); have n2_ := bsi HB hb; have n3_ := Aside0.mk (hbox); have n4_ := Aside0.mk ((by rw [hg]; exact (keep_size (w := w) (g := g) (row := none) (kb HK.out)) : w.heap.size ≤ gb238)); have n5_ := Aside0.mk ((Nat.le_trans HW0.out (by rw [hg]; exact (keep_size (w := w) (g := g) (row := none) (kb HK.out)) : w.heap.size ≤ gb238) : w0.heap.size ≤ gb238)); have n6_ := Aside0.mk ((by rw [hg]; exact Nat.ne_of_lt (IsS107.lt (show IsS107 w0 _ g s0_0 s0_1 from ib HI0.out)) : g ≠ gb238)); have n7_ := Aside0.mk ((by rw [hg]; exact Nat.ne_of_gt (IsS107.lt (show IsS107 w0 _ g s0_0 s0_1 from ib HI0.out)) : gb238 ≠ g)); clear HI0; clear HK; clear HB; have HI0 := n0_; have HK := n1_; have HB := n2_; have BK238 := n3_; have GW238 := n4_; have GE238 := n5_; have NB0_238 := n6_; have NB238_0 := n7_; clear n0_ n1_ n2_ n3_ n4_ n5_ n6_ n7_; clear hb hbox hg) | ((with_reducible refine gate_dst (N := 4) rfl ?_); refine box_event ?hg (N := 4) ?hd (cs := #[.string (⟨#[]⟩ : ByteArray), .int .i64 0, .string (⟨#[]⟩ : ByteArray), .string (⟨#[]⟩ : ByteArray), .int .i64 0, .int .i64 0, .string (⟨#[]⟩ : ByteArray), .string (⟨#[]⟩ : ByteArray)]) (t := 39) ?hr ?_; (case hd => rfl); (case hg => rfl); (case hr => first | (go_simp; done) | (go_simp; rfl)); intro gb239 hg w47 hbox hb; have n0_ := Aside0.mk (IsS107.below (ib HI0.out) hb); have n1_ := up BK238 hb; have n2_ := kt HK (KeepBut.of_below hb g none); have n3_ := bsi HB hb; have n4_ := Aside0.mk (hbox); have n5_ := Aside0.mk ((by rw [hg]; exact (keep_size (w := w) (g := g) (row := none) (kb HK.out)) : w.heap.size ≤ gb239)); have n6_ := Aside0.mk ((Nat.le_trans HW0.out (by rw [hg]; exact (keep_size (w := w) (g := g) (row := none) (kb HK.out)) : w.heap.size ≤ gb239) : w0.heap.size ≤ gb239)); have n7_ := nlt' hg BK238; have n8_ := ngt' hg BK238; have n9_ := Aside0.mk ((by rw [hg]; exact Nat.ne_of_lt (IsS107.lt (show IsS107 w0 _ g s0_0 s0_1 from ib HI0.out)) : g ≠ gb239)); have n10_ := Aside0.mk ((by rw [hg]; exact Nat.ne_of_gt (IsS107.lt (show IsS107 w0 _ g s0_0 s0_1 from ib HI0.out)) : gb239 ≠ g)); clear HI0; clear BK238; clear HK; clear HB; have HI0 := n0_; have BK238 := n1_; have HK := n2_; have HB := n3_; have BK239 := n4_; have GW239 := n5_; have GE239 := n6_; have NB238_239 := n7_; have NB239_238 := n8_; have NB0_239 := n9_; have NB239_0 := n10_; clear n0_ n1_ n2_ n3_ n4_ n5_ n6_ n7_ n8_ n9_ n10_; clear hb hbox hg) | ((with_reducible refine gate_callee (f := 64) rfl ?_); refine goesL_ (some 6) rfl rfl Try.func64 (by kernel_rfl) rfl #[.pointer (some ⟨g, 0, none⟩), .int .i64 8] rfl mxp ?_; (with_reducible refine (spec_l1Rd_pick.calls k g s0_0 s0_1 8 t240 t241 w0 _ ?side1 ?side2 A3.out).mono ?_); (case side1 => exact ib HI0.out); (case side2 => exact bi HB.out); rintro e w48 ⟨rfl, hi, hb, hk⟩; refine ⟨_, rfl, ?_⟩; have n0_ := kp BK238 hk NB238_0; have n1_ := kp BK239 hk NB239_0; have n2_ := kt HK hk; have n3_ := Aside0.mk (hb); have n4_ := Aside0.mk (hi); clear BK238; clear BK239; clear HK; clear HB; clear HI0; have BK238 := n0_; have BK239 := n1_; have HK := n2_; have HB := n3_; have HI0 := n4_; clear n0_ n1_ n2_ n3_ n4_; (try clear hb); (try clear hb2); (try clear hk); (try clear hi); have hnb49 := NB238_239.out; have hnc49 := NB239_238.out; have hnb50 := NB238_0.out; have hnc50 := NB0_238.out; have hcz51_0 := b0 BK238; have hcz51_1 := b1 BK238; have hcz51_2 := b2 BK238; have hcz51_3 := b3 BK238; have hcz51_4 := b4 BK238; have hcz51_5 := b5 BK238; have hcz51_6 := b6 BK238; have hcz51_7 := b7 BK238; have hfz51_0 := fz BK238 0; have hfz51_1 := fz BK238 1; have hfz51_2 := fz BK238 2; have hfz51_3 := fz BK238 3; have hfz51_4 := fz BK238 4; have hfz51_5 := fz BK238 5; have hfz51_6 := fz BK238 6; have hfz51_7 := fz BK238 7) | ((with_reducible refine gate_dst (N := 36) rfl ?_); refine Kd.R_lit Kd.string _ 9 ?hg (N := 36) ?hd (xs := ([(⟨#[]⟩ : ByteArray), (⟨#[65]⟩ : ByteArray), a1_2, (⟨#[103, 111, 111, 100]⟩ : ByteArray)] : List ByteArray)) (inner := [.string (⟨#[]⟩ : ByteArray), .string (⟨#[65]⟩ : ByteArray), .string a1_2, .string (⟨#[103, 111, 111, 100]⟩ : ByteArray)]) (ok := fun _ => True) (okp := fun _ => True) ?hr ?hp (fun _ hk => hk) trivial (Below.refl _ _) (Nat.le_refl _) (by simp) ?_; (case hd => rfl); (case hg => rfl); (case hr => first | (go_simp; done) | (go_simp; rfl)); (case hp => exact (Reps.one (show Kd.M Kd.string _ _ _ (⟨#[]⟩ : ByteArray) [.string (⟨#[]⟩ : ByteArray)] from rfl) (Reps.one (show Kd.M Kd.string _ _ _ (⟨#[65]⟩ : ByteArray) [.string (⟨#[65]⟩ : ByteArray)] from rfl) (Reps.one (show Kd.M Kd.string _ _ _ a1_2 [.string a1_2] from rfl) (Reps.one (show Kd.M Kd.string _ _ _ (⟨#[103, 111, 111, 100]⟩ : ByteArray) [.string (⟨#[103, 111, 111, 100]⟩ : ByteArray)] from rfl) (Reps.none _ _)))))); intro v255 w52 ho53 hb hg_ hnew_; clear hg_ hnew_; (first | rw [← Ny254.out] at ho53 | (simp only [Int.reduceToNat] at ho53; rw [← Ny254.out] at ho53)); have n0_ := Aside0.mk (Kd.R_lower ho53 (keep_size (w := w) (g := g) (row := none) (kb HK.out))); have n1_ := Aside0.mk (IsS107.below (ib HI0.out) hb); have n2_ := up BK238 hb; have n3_ := up BK239 hb; have n4_ := kt HK (KeepBut.of_below hb g none); have n5_ := bsi HB hb; clear HI0; clear BK238; clear BK239; clear HK; clear HB; have HO256 := n0_; have HI0 := n1_; have BK238 := n2_; have BK239 := n3_; have HK := n4_; have HB := n5_; clear n0_ n1_ n2_ n3_ n4_ n5_; clear hb ho53; obtain ⟨Ao54, co54, eo54⟩ := Kd.R_slice HO256.out; subst eo54) | ((with_reducible refine gate_callee (f := 80) rfl ?_); refine goesL_ (some 37) rfl rfl Try.func80 (by kernel_rfl) rfl #[.pointer (some ⟨g, 0, none⟩), .slice Ao54 y254.length co54] rfl mxp ?_; (with_reducible refine (spec_l1Rd_of.calls k g s0_0 t241 _ _ y254 t257 t258 w0 _ ?side1 ?side2 ?side3 ?side4 ?side5 A45.out).mono ?_); (case side1 => exact ib HI0.out); (case side2 => exact bi HB.out); (case side3 => exact cx (Kd.R_reads' HO256.out).2.2); (case side4 => exact (Kd.R_reads' HO256.out).2.1); (case side5 => exact far_slice (IsS107.own_ne HI0.out HO256.out (by decide))); rintro e w55 ⟨rfl, hi, hb, hk⟩; refine ⟨_, rfl, ?_⟩; have n0_ := kp BK238 hk NB238_0; have n1_ := kp BK239 hk NB239_0; have n2_ := Aside0.mk (Kd.R_mono (Kd.R_keep (IsS107.apart (show IsS107 w0 _ g s0_0 t241 from ib HI0.out) (rx HO256.out) (by decide)) hk (fun _ h => h.2)) (fun _ h => h.1)); have n3_ := kt HK hk; have n4_ := Aside0.mk (hb); have n5_ := Aside0.mk (hi); clear BK238; clear BK239; clear HO256; clear HK; clear HB; clear HI0; have BK238 := n0_; have BK239 := n1_; have HO256 := n2_; have HK := n3_; have HB := n4_; have HI0 := n5_; clear n0_ n1_ n2_ n3_ n4_ n5_; (try clear hb); (try clear hb2); (try clear hk); (try clear hi); have hcz56_0 := b0 BK238; have hcz56_1 := b1 BK238; have hcz56_2 := b2 BK238; have hcz56_3 := b3 BK238; have hcz56_4 := b4 BK238; have hcz56_5 := b5 BK238; have hcz56_6 := b6 BK238; have hcz56_7 := b7 BK238; have hfz56_0 := fz BK238 0; have hfz56_1 := fz BK238 1; have hfz56_2 := fz BK238 2; have hfz56_3 := fz BK238 3; have hfz56_4 := fz BK238 4; have hfz56_5 := fz BK238 5; have hfz56_6 := fz BK238 6; have hfz56_7 := fz BK238 7; have hnb57 := NB239_0.out; have hnc57 := NB0_239.out; have hcz58_0 := b0 BK239; have hcz58_1 := b1 BK239; have hcz58_2 := b2 BK239; have hcz58_3 := b3 BK239; have hcz58_4 := b4 BK239; have hcz58_5 := b5 BK239; have hcz58_6 := b6 BK239; have hcz58_7 := b7 BK239; have hfz58_0 := fz BK239 0; have hfz58_1 := fz BK239 1; have hfz58_2 := fz BK239 2; have hfz58_3 := fz BK239 3; have hfz58_4 := fz BK239 4; have hfz58_5 := fz BK239 5; have hfz58_6 := fz BK239 6; have hfz58_7 := fz BK239 7))
     refine bodyPost_ret (results_cell_row rfl _ _ gb239 39 #[.string a1_0, .int .i64 a1_1, .string a1_2, .string t257, .int .i64 a1_4, .int .i64 a1_5, .string a1_6, .string a1_7] (0, 0) _ rfl (by refine bx ?_; refine blk_put (cs := #[.string a1_0, .int .i64 a1_1, .string a1_2, .string t257, .int .i64 a1_4, .int .i64 a1_5, .string a1_6, .string (⟨#[]⟩ : ByteArray)]) ?_ 7 _ rfl; refine bx ?_; refine blk_put (cs := #[.string a1_0, .int .i64 a1_1, .string a1_2, .string t257, .int .i64 a1_4, .int .i64 a1_5, .string (⟨#[]⟩ : ByteArray), .string (⟨#[]⟩ : ByteArray)]) ?_ 6 _ rfl; refine bx ?_; refine blk_put (cs := #[.string a1_0, .int .i64 a1_1, .string a1_2, .string t257, .int .i64 a1_4, .int .i64 0, .string (⟨#[]⟩ : ByteArray), .string (⟨#[]⟩ : ByteArray)]) ?_ 5 _ rfl; refine bx ?_; refine blk_put (cs := #[.string a1_0, .int .i64 a1_1, .string a1_2, .string t257, .int .i64 0, .int .i64 0, .string (⟨#[]⟩ : ByteArray), .string (⟨#[]⟩ : ByteArray)]) ?_ 4 _ rfl; refine bx ?_; refine blk_put (cs := #[.string a1_0, .int .i64 a1_1, .string a1_2, .string (⟨#[]⟩ : ByteArray), .int .i64 0, .int .i64 0, .string (⟨#[]⟩ : ByteArray), .string (⟨#[]⟩ : ByteArray)]) ?_ 3 _ rfl; refine bx ?_; refine blk_put (cs := #[.string a1_0, .int .i64 a1_1, .string (⟨#[]⟩ : ByteArray), .string (⟨#[]⟩ : ByteArray), .int .i64 0, .int .i64 0, .string (⟨#[]⟩ : ByteArray), .string (⟨#[]⟩ : ByteArray)]) ?_ 2 _ rfl; refine bx ?_; refine blk_put (cs := #[.string a1_0, .int .i64 0, .string (⟨#[]⟩ : ByteArray), .string (⟨#[]⟩ : ByteArray), .int .i64 0, .int .i64 0, .string (⟨#[]⟩ : ByteArray), .string (⟨#[]⟩ : ByteArray)]) ?_ 1 _ rfl; refine bx ?_; refine blk_put (cs := #[.string (⟨#[]⟩ : ByteArray), .int .i64 0, .string (⟨#[]⟩ : ByteArray), .string (⟨#[]⟩ : ByteArray), .int .i64 0, .int .i64 0, .string (⟨#[]⟩ : ByteArray), .string (⟨#[]⟩ : ByteArray)]) ?_ 0 _ rfl; refine bx ?_; refine blk_far ?_ NB239_238.out _; refine bx ?_; exact BK239.out) Try.underlying39 rfl (by kernel_rfl)) rfl ?_
     exact ⟨exq, ib HI0.out, bi HB.out, kb HK.out⟩
    ·rw [if_neg c44] at H
     have c44b0 : (t240 == 3) = false := beq_eq_false_iff_ne.mpr c44
     have c44b1 : (t240 != 3) = true := bne_iff_ne.mpr c44
     by_cases c59 : t240 = 4
     ·rw [if_pos c59] at H
      have c59b0 : (t240 == 4) = true := beq_iff_eq.mpr c59
      have c59b1 : (t240 != 4) = false := bne_eq_false_iff_eq.mpr c59
      clear c59
      obtain ⟨y259, hy259⟩ : ∃ y_ : List Int, y_ = (([(-1), 0, 1, a1_5, wrap64 (a1_5 + 1), 1000, 1001] : List Int)) := ⟨_, rfl⟩
      replace H : ((spec_l1Rd_pick.f k s0_0 t241 7).bind fun bt262 => (if 0 ≤ bt262.1 then (if bt262.1 < (y259.length : Int) then (some (a1_0, a1_1, a1_2, a1_3, rd y259 bt262.1, a1_5, a1_6, a1_7, bt262.2)) else (none)) else (none))) = some (r1, r2, r3, r4, r5, r6, r7, r8, r9) := by first | (rw [hy259]; with_reducible exact H) | (have H2_ := (Option.bind_some _ _).symm.trans H; rw [hy259]; with_reducible exact H2_) | (have H2_ := (Option.bind_some _ _).symm.trans H; with_reducible exact H2_) | with_reducible exact H | (rw [hy259]; exact H) | exact H
      have Ny259 := Aside0.mk hy259
      clear hy259
      replace H := Option.bind_eq_some_iff.mp H
      obtain ⟨⟨t262, t263⟩, A600, H⟩ := H
      replace H : (if 0 ≤ t262 then (if t262 < (y259.length : Int) then (some (a1_0, a1_1, a1_2, a1_3, rd y259 t262, a1_5, a1_6, a1_7, t263)) else (none)) else (none)) = some (r1, r2, r3, r4, r5, r6, r7, r8, r9) := H
      have A60 := Aside0.mk A600
      clear A600
      by_cases c61 : 0 ≤ t262
      ·rw [if_pos c61] at H
       have c61b0 : decide (0 ≤ t262) = true := decide_eq_true c61
       clear c61
       by_cases c62 : t262 < (y259.length : Int)
       ·rw [if_pos c62] at H
        have c62b0 : decide (t262 < (y259.length : Int)) = true := decide_eq_true c62
        clear c62
        simp only [Option.some.injEq, Prod.mk.injEq] at H
        obtain ⟨rfl, rfl, rfl, rfl, rfl, rfl, rfl, rfl, rfl⟩ := H
        go_enter Try.func82, Try.ntmps82
        try go_wp2_with (first | ((with_reducible refine gate_dst (N := 3) rfl ?_); refine box_event ?hg (N := 3) ?hd (cs := #[.string a1_0, .int .i64 a1_1, .string a1_2, .string a1_3, .int .i64 a1_4, .int .i64 a1_5, .string a1_6, .string a1_7]) (t := 39) ?hr ?_; (case hd => rfl); (case hg => rfl); (case hr => first | (go_simp; done) | (go_simp; rfl)); intro gb238 hg w63 hbox hb; have n0_ := Aside0.mk (IsS107.below (ib HI0.out) hb); have n1_ := kt HK (KeepBut.of_below hb g none); have n2_ := bsi HB hb; have n3_ := Aside0.mk (hbox); have n4_ := Aside0.mk ((by rw [hg]; exact (keep_size (w := w) (g := g) (row := none) (kb HK.out)) : w.heap.size ≤ gb238)); have n5_ := Aside0.mk ((Nat.le_trans HW0.out (by rw [hg]; exact (keep_size (w := w) (g := g) (row := none) (kb HK.out)) : w.heap.size ≤ gb238) : w0.heap.size ≤ gb238)); have n6_ := Aside0.mk ((by rw [hg]; exact Nat.ne_of_lt (IsS107.lt (show IsS107 w0 _ g s0_0 s0_1 from ib HI0.out)) : g ≠ gb238)); have n7_ := Aside0.mk ((by rw [hg]; exact Nat.ne_of_gt (IsS107.lt (show IsS107 w0 _ g s0_0 s0_1 from ib HI0.out)) : gb238 ≠ g)); clear HI0; clear HK; clear HB; have HI0 := n0_; have HK := n1_; have HB := n2_; have BK238 := n3_; have GW238 := n4_; have GE238 := n5_; have NB0_238 := n6_; have NB238_0 := n7_; clear n0_ n1_ n2_ n3_ n4_ n5_ n6_ n7_; clear hb hbox hg) | ((with_reducible refine gate_dst (N := 4) rfl ?_); refine box_event ?hg (N := 4) ?hd (cs := #[.string (⟨#[]⟩ : ByteArray), .int .i64 0, .string (⟨#[]⟩ : ByteArray), .string (⟨#[]⟩ : ByteArray), .int .i64 0, .int .i64 0, .string (⟨#[]⟩ : ByteArray), .string (⟨#[]⟩ : ByteArray)]) (t := 39) ?hr ?_; (case hd => rfl); (case hg => rfl); (case hr => first | (go_simp; done) | (go_simp; rfl)); intro gb239 hg w64 hbox hb; have n0_ := Aside0.mk (IsS107.below (ib HI0.out) hb); have n1_ := up BK238 hb; have n2_ := kt HK (KeepBut.of_below hb g none); have n3_ := bsi HB hb; have n4_ := Aside0.mk (hbox); have n5_ := Aside0.mk ((by rw [hg]; exact (keep_size (w := w) (g := g) (row := none) (kb HK.out)) : w.heap.size ≤ gb239)); have n6_ := Aside0.mk ((Nat.le_trans HW0.out (by rw [hg]; exact (keep_size (w := w) (g := g) (row := none) (kb HK.out)) : w.heap.size ≤ gb239) : w0.heap.size ≤ gb239)); have n7_ := nlt' hg BK238; have n8_ := ngt' hg BK238; have n9_ := Aside0.mk ((by rw [hg]; exact Nat.ne_of_lt (IsS107.lt (show IsS107 w0 _ g s0_0 s0_1 from ib HI0.out)) : g ≠ gb239)); have n10_ := Aside0.mk ((by rw [hg]; exact Nat.ne_of_gt (IsS107.lt (show IsS107 w0 _ g s0_0 s0_1 from ib HI0.out)) : gb239 ≠ g)); clear HI0; clear BK238; clear HK; clear HB; have HI0 := n0_; have BK238 := n1_; have HK := n2_; have HB := n3_; have BK239 := n4_; have GW239 := n5_; have GE239 := n6_; have NB238_239 := n7_; have NB239_238 := n8_; have NB0_239 := n9_; have NB239_0 := n10_; clear n0_ n1_ n2_ n3_ n4_ n5_ n6_ n7_ n8_ n9_ n10_; clear hb hbox hg) | ((with_reducible refine gate_callee (f := 64) rfl ?_); refine goesL_ (some 6) rfl rfl Try.func64 (by kernel_rfl) rfl #[.pointer (some ⟨g, 0, none⟩), .int .i64 8] rfl mxp ?_; (with_reducible refine (spec_l1Rd_pick.calls k g s0_0 s0_1 8 t240 t241 w0 _ ?side1 ?side2 A3.out).mono ?_); (case side1 => exact ib HI0.out); (case side2 => exact bi HB.out); rintro e w65 ⟨rfl, hi, hb, hk⟩; refine ⟨_, rfl, ?_⟩; have n0_ := kp BK238 hk NB238_0; have n1_ := kp BK239 hk NB239_0; have n2_ := kt HK hk; have n3_ := Aside0.mk (hb); have n4_ := Aside0.mk (hi); clear BK238; clear BK239; clear HK; clear HB; clear HI0; have BK238 := n0_; have BK239 := n1_; have HK := n2_; have HB := n3_; have HI0 := n4_; clear n0_ n1_ n2_ n3_ n4_; (try clear hb); (try clear hb2); (try clear hk); (try clear hi)))
        have pi264 : (0 ≤ (t262 : Int)) = True := eq_true (oda)
        have qi264 : (t262 < (y259.length : Int)) = True := eq_true (oda)
        have n0_ := Aside0.mk (blk_drew BK238.out)
        have n1_ := Aside0.mk (blk_drew BK239.out)
        have n2_ := Aside0.mk (IsS107.drew HI0.out)
        have n3_ := Aside0.mk (keep_drew HK.out)
        have n4_ := Aside0.mk (below_drew1 HB.out)
        clear BK238
        clear BK239
        clear HI0
        clear HK
        clear HB
        have BK238 := n0_
        have BK239 := n1_
        have HI0 := n2_
        have HK := n3_
        have HB := n4_
        clear n0_ n1_ n2_ n3_ n4_
        refine start_ (n := 12) (S := fun w' => w'.cell? ⟨gb238, 0, none⟩ = some (.string a1_0) ∧ w'.cell? ⟨gb238, 1, none⟩ = some (.int .i64 a1_1) ∧ w'.cell? ⟨gb238, 2, none⟩ = some (.string a1_2) ∧ w'.cell? ⟨gb238, 3, none⟩ = some (.string a1_3) ∧ w'.cell? ⟨gb238, 4, none⟩ = some (.int .i64 a1_4) ∧ w'.cell? ⟨gb238, 5, none⟩ = some (.int .i64 a1_5) ∧ w'.cell? ⟨gb238, 6, none⟩ = some (.string a1_6) ∧ w'.cell? ⟨gb238, 7, none⟩ = some (.string a1_7)) (ds := [11]) #[false, false, false, false, false, false, false, false, false, false, false, false] (by kernel_rfl) rfl rfl ⟨(blk_cell BK238.out 0).trans rfl, (blk_cell BK238.out 1).trans rfl, (blk_cell BK238.out 2).trans rfl, (blk_cell BK238.out 3).trans rfl, (blk_cell BK238.out 4).trans rfl, (blk_cell BK238.out 5).trans rfl, (blk_cell BK238.out 6).trans rfl, (blk_cell BK238.out 7).trans rfl⟩ (fun hHeld => ?_); refine with_tabW spec_l5SpoilPhase.tab12 spec_l5SpoilPhase.bits12 (fun HT_ HW_ => ?_)
        generalize w65.drew = w66 at BK238 BK239 HI0 HK HB hHeld ⊢
        refine pure_ (i := 0) (N := some 41) (v := ?_) (a' := ?_) #[true, false, false, false, false, false, false, false, false, false, false, false] rfl rfl (any_of HT_.out (by kernel_rfl)) (fun _ _ _ h => h) (Or.inl ⟨by rfl, ?_⟩) ?_ ?_
        rotate_left
        ·intro w'
         go_simp
         with_reducible rfl
        rotate_left
        ·simp only [Act.put, List.setIfInBounds_toArray, List.set_cons_zero, List.set_cons_succ, i64_w, i32_w]
         rfl
        refine pure_ (i := 2) (N := some 43) (v := ?_) (a' := ?_) #[true, false, true, false, false, false, false, false, false, false, false, false] rfl rfl (any_of HT_.out (by kernel_rfl)) (fun _ _ _ h => h) (Or.inl ⟨by rfl, ?_⟩) ?_ ?_
        rotate_left
        ·intro w'
         go_simp
         with_reducible rfl
        rotate_left
        ·simp only [Act.put, List.setIfInBounds_toArray, List.set_cons_zero, List.set_cons_succ, i64_w, i32_w]
         rfl
        refine pure_ (i := 6) (N := some 47) (v := ?_) (a' := ?_) #[true, false, true, false, false, false, true, false, false, false, false, false] rfl rfl (any_of HT_.out (by kernel_rfl)) (fun _ _ _ h => h) (Or.inl ⟨by rfl, ?_⟩) ?_ ?_
        rotate_left
        ·intro w'
         go_simp
         with_reducible rfl
        rotate_left
        ·simp only [Act.put, List.setIfInBounds_toArray, List.set_cons_zero, List.set_cons_succ, i64_w, i32_w]
         rfl
        refine take_ (i := 1) (N := some 42) (v := ?_) (a' := ?_) #[true, true, true, false, false, false, true, false, false, false, false, false] rfl rfl (take_ofW HT_.out HW_.out (by kernel_rfl)) (fun _ _ _ h => h) (Or.inl ⟨by rfl, ?_⟩) hHeld ?_ ?_
        rotate_left
        ·rintro w' ⟨s0, s1, s2, s3, s4, s5, s6, s7⟩
         go_simp
         with_reducible rfl
        rotate_left
        ·simp only [Act.put, List.setIfInBounds_toArray, List.set_cons_zero, List.set_cons_succ, i64_w, i32_w]
         rfl
        refine take_ (i := 3) (N := some 44) (v := ?_) (a' := ?_) #[true, true, true, true, false, false, true, false, false, false, false, false] rfl rfl (take_ofW HT_.out HW_.out (by kernel_rfl)) (fun _ _ _ h => h) (Or.inl ⟨by rfl, ?_⟩) hHeld ?_ ?_
        rotate_left
        ·rintro w' ⟨s0, s1, s2, s3, s4, s5, s6, s7⟩
         go_simp
         with_reducible rfl
        rotate_left
        ·simp only [Act.put, List.setIfInBounds_toArray, List.set_cons_zero, List.set_cons_succ, i64_w, i32_w]
         rfl
        refine pure_ (i := 4) (N := some 45) (v := ?_) (a' := ?_) #[true, true, true, true, true, false, true, false, false, false, false, false] rfl rfl (any_of HT_.out (by kernel_rfl)) (fun _ _ _ h => h) (Or.inl ⟨by rfl, ?_⟩) ?_ ?_
        rotate_left
        ·intro w'
         go_simp
         with_reducible rfl
        rotate_left
        ·simp only [Act.put, List.setIfInBounds_toArray, List.set_cons_zero, List.set_cons_succ, i64_w, i32_w]
         rfl
        refine join_ (σ := Value × Addr) 4 #[true, true, true, true, true, true, true, true, false, false, false, false] (fun s_ => [(46, s_.1), (48, .int .i64 t262)]) (fun s_ w' => (w'.cell? ⟨gb238, 0, none⟩ = some (.string a1_0) ∧ w'.cell? ⟨gb238, 1, none⟩ = some (.int .i64 a1_1) ∧ w'.cell? ⟨gb238, 2, none⟩ = some (.string a1_2) ∧ w'.cell? ⟨gb238, 3, none⟩ = some (.string a1_3) ∧ w'.cell? ⟨gb238, 4, none⟩ = some (.int .i64 a1_4) ∧ w'.cell? ⟨gb238, 5, none⟩ = some (.int .i64 a1_5) ∧ w'.cell? ⟨gb238, 6, none⟩ = some (.string a1_6) ∧ w'.cell? ⟨gb238, 7, none⟩ = some (.string a1_7)) ∧ (Kd.R (Kd.int .i64) 3 w' w.heap.size (fun _ => True) s_.1 y259) ∧ (∃ c_, (s_.1 : Value) = .slice (some s_.2) y259.length c_) ∧ (w'.heap[gb238]? = some (.cells #[.string a1_0, .int .i64 a1_1, .string a1_2, .string a1_3, .int .i64 a1_4, .int .i64 a1_5, .string a1_6, .string a1_7] 39 (0, 0))) ∧ (w'.heap[gb239]? = some (.cells #[.string (⟨#[]⟩ : ByteArray), .int .i64 0, .string (⟨#[]⟩ : ByteArray), .string (⟨#[]⟩ : ByteArray), .int .i64 0, .int .i64 0, .string (⟨#[]⟩ : ByteArray), .string (⟨#[]⟩ : ByteArray)] 39 (0, 0))) ∧ (IsS107 w0 w' g s0_0 t263) ∧ (KeepBut w w' g none) ∧ (Below w0.heap.size w0 w')) ?_ ?_
        rotate_left
        ·intro hCont
         refine two_ (i := 5) (j := 7) (Ni := some 46) (Nj := some 48) #[true, true, true, true, true, true, true, false, false, false, false, false] #[true, true, true, true, true, false, true, true, false, false, false, false] rfl rfl rfl rfl (two_of HT_.out (by kernel_rfl)) (by decide) (by decide) (fun K hK => ?_) (fun K hK => ?_)
         ·skip
          refine Kd.R_lit_step (Kd.int .i64) _ 3 ?hg (N := 46) ?hd (xs := ([(-1), 0, 1, a1_5, wrap64 (a1_5 + 1), 1000, 1001] : List Int)) (inner := [.int .i64 (-1), .int .i64 0, .int .i64 1, .int .i64 a1_5, .int .i64 (wrap64 (a1_5 + 1)), .int .i64 1000, .int .i64 1001]) (ok := fun _ => True) (okp := fun _ => True) ?hr ?hp (fun _ hk => hk) trivial (Below.refl _ _) (Nat.le_refl _) (by simp) ?_; (case hd => rfl); (case hg => rfl); (case hr => first | (go_simp; done) | (go_simp; rfl)); (case hp => exact (Reps.one (show Kd.M (Kd.int .i64) _ _ _ (-1) [.int .i64 (-1)] from rfl) (Reps.one (show Kd.M (Kd.int .i64) _ _ _ 0 [.int .i64 0] from rfl) (Reps.one (show Kd.M (Kd.int .i64) _ _ _ 1 [.int .i64 1] from rfl) (Reps.one (show Kd.M (Kd.int .i64) _ _ _ a1_5 [.int .i64 a1_5] from rfl) (Reps.one (show Kd.M (Kd.int .i64) _ _ _ (wrap64 (a1_5 + 1)) [.int .i64 (wrap64 (a1_5 + 1))] from rfl) (Reps.one (show Kd.M (Kd.int .i64) _ _ _ 1000 [.int .i64 1000] from rfl) (Reps.one (show Kd.M (Kd.int .i64) _ _ _ 1001 [.int .i64 1001] from rfl) (Reps.none _ _)))))))))
          intro v260 w67 ho68 hb hg_ hnew_
          clear hg_ hnew_
          (first | rw [← Ny259.out] at ho68 | (simp only [Int.reduceToNat] at ho68; rw [← Ny259.out] at ho68))
          have n0_ := Aside0.mk (Kd.R_lower ho68 (keep_size (w := w) (g := g) (row := none) (kb HK.out)))
          have n1_ := Aside0.mk (IsS107.below (ib HI0.out) hb)
          have n2_ := up BK238 hb
          have n3_ := up BK239 hb
          have n4_ := kt HK (KeepBut.of_below hb g none)
          have n5_ := bsi HB hb
          clear HI0
          clear BK238
          clear BK239
          clear HK
          clear HB
          have HO261 := n0_
          have HI0 := n1_
          have BK238 := n2_
          have BK239 := n3_
          have HK := n4_
          have HB := n5_
          clear n0_ n1_ n2_ n3_ n4_ n5_
          clear hb ho68
          obtain ⟨Ao69, co69, eo69⟩ := Kd.R_slice HO261.out
          subst eo69
          obtain ⟨ado69, fo69, _⟩ := Kd.at_int (Kd.R_reads' HO261.out).2.2 0 (by decide) (by rw [Ny259.out]; simp)
          cases fo69
          refine hK.out _ _ ⟨(blk_cell BK238.out 0).trans rfl, (blk_cell BK238.out 1).trans rfl, (blk_cell BK238.out 2).trans rfl, (blk_cell BK238.out 3).trans rfl, (blk_cell BK238.out 4).trans rfl, (blk_cell BK238.out 5).trans rfl, (blk_cell BK238.out 6).trans rfl, (blk_cell BK238.out 7).trans rfl⟩ (fun hHeld => ?_)
          clear hK K
          refine norm_ (a' := ?_) ?_ ?_
          rotate_left
          ·show Act.put _ (some 46) _ = _
           simp only [Act.put, List.setIfInBounds_toArray, List.set_cons_zero, List.set_cons_succ, i64_w, i32_w]
           rfl
          refine one_ (i := 7) (N := some 48) #[true, true, true, true, true, true, true, true, false, false, false, false] rfl rfl (one_of HT_.out (by kernel_rfl)) (by decide) (fun K hK => ?_)
          refine goes_ Try.func64 (by kernel_rfl) rfl #[.pointer (some ⟨g, 0, none⟩), .int .i64 7] (by rfl) rfl rfl mxp ?_
          with_reducible refine (spec_l1Rd_pick.calls k g s0_0 t241 7 t262 t263 w0 _ ?side1 ?side2 A60.out).mono ?_
          (case side1 => exact ib HI0.out)
          (case side2 => exact bi HB.out)
          rintro e w70 ⟨rfl, hi, hb, hk⟩
          refine ⟨_, rfl, ?_⟩
          have n0_ := kp BK238 hk NB238_0
          have n1_ := kp BK239 hk NB239_0
          have n2_ := Aside0.mk (Kd.R_mono (Kd.R_keep (IsS107.apart (show IsS107 w0 _ g s0_0 t241 from ib HI0.out) (rx HO261.out) (by decide)) hk (fun _ h => h.2)) (fun _ h => h.1))
          have n3_ := kt HK hk
          have n4_ := Aside0.mk (hb)
          have n5_ := Aside0.mk (hi)
          clear BK238
          clear BK239
          clear HO261
          clear HK
          clear HB
          clear HI0
          have BK238 := n0_
          have BK239 := n1_
          have HO261 := n2_
          have HK := n3_
          have HB := n4_
          have HI0 := n5_
          clear n0_ n1_ n2_ n3_ n4_ n5_
          (try clear hb)
          (try clear hb2)
          (try clear hk)
          (try clear hi)
          refine hK.out _ _ ⟨(blk_cell BK238.out 0).trans rfl, (blk_cell BK238.out 1).trans rfl, (blk_cell BK238.out 2).trans rfl, (blk_cell BK238.out 3).trans rfl, (blk_cell BK238.out 4).trans rfl, (blk_cell BK238.out 5).trans rfl, (blk_cell BK238.out 6).trans rfl, (blk_cell BK238.out 7).trans rfl⟩ (fun hHeld => ?_)
          clear hK K
          refine norm_ (a' := ?_) ?_ ?_
          rotate_left
          ·show Act.put _ (some 48) _ = _
           simp only [Act.put, List.setIfInBounds_toArray, List.set_cons_zero, List.set_cons_succ, i64_w, i32_w]
           rfl
          exact norm_ (by simp only [putAll, Act.put, List.setIfInBounds_toArray, List.set_cons_zero, List.set_cons_succ]) (hCont (.slice (some ado69) y259.length co69, ado69) _ ⟨hHeld, (rx HO261.out), ⟨_, rfl⟩, (bx BK238.out), (bx BK239.out), (ib HI0.out), (kb HK.out), (bi HB.out)⟩)
         ·skip
          refine goes_ Try.func64 (by kernel_rfl) rfl #[.pointer (some ⟨g, 0, none⟩), .int .i64 7] (by rfl) rfl rfl mxp ?_
          with_reducible refine (spec_l1Rd_pick.calls k g s0_0 t241 7 t262 t263 w0 _ ?side1 ?side2 A60.out).mono ?_
          (case side1 => exact ib HI0.out)
          (case side2 => exact bi HB.out)
          rintro e w67 ⟨rfl, hi, hb, hk⟩
          refine ⟨_, rfl, ?_⟩
          have n0_ := kp BK238 hk NB238_0
          have n1_ := kp BK239 hk NB239_0
          have n2_ := kt HK hk
          have n3_ := Aside0.mk (hb)
          have n4_ := Aside0.mk (hi)
          clear BK238
          clear BK239
          clear HK
          clear HB
          clear HI0
          have BK238 := n0_
          have BK239 := n1_
          have HK := n2_
          have HB := n3_
          have HI0 := n4_
          clear n0_ n1_ n2_ n3_ n4_
          (try clear hb)
          (try clear hb2)
          (try clear hk)
          (try clear hi)
          refine hK.out _ _ ⟨(blk_cell BK238.out 0).trans rfl, (blk_cell BK238.out 1).trans rfl, (blk_cell BK238.out 2).trans rfl, (blk_cell BK238.out 3).trans rfl, (blk_cell BK238.out 4).trans rfl, (blk_cell BK238.out 5).trans rfl, (blk_cell BK238.out 6).trans rfl, (blk_cell BK238.out 7).trans rfl⟩ (fun hHeld => ?_)
          clear hK K
          refine norm_ (a' := ?_) ?_ ?_
          rotate_left
          ·show Act.put _ (some 48) _ = _
           simp only [Act.put, List.setIfInBounds_toArray, List.set_cons_zero, List.set_cons_succ, i64_w, i32_w]
           rfl
          refine one_ (i := 5) (N := some 46) #[true, true, true, true, true, true, true, true, false, false, false, false] rfl rfl (one_of HT_.out (by kernel_rfl)) (by decide) (fun K hK => ?_)
          refine Kd.R_lit_step (Kd.int .i64) _ 3 ?hg (N := 46) ?hd (xs := ([(-1), 0, 1, a1_5, wrap64 (a1_5 + 1), 1000, 1001] : List Int)) (inner := [.int .i64 (-1), .int .i64 0, .int .i64 1, .int .i64 a1_5, .int .i64 (wrap64 (a1_5 + 1)), .int .i64 1000, .int .i64 1001]) (ok := fun _ => True) (okp := fun _ => True) ?hr ?hp (fun _ hk => hk) trivial (Below.refl _ _) (Nat.le_refl _) (by simp) ?_; (case hd => rfl); (case hg => rfl); (case hr => first | (go_simp; done) | (go_simp; rfl)); (case hp => exact (Reps.one (show Kd.M (Kd.int .i64) _ _ _ (-1) [.int .i64 (-1)] from rfl) (Reps.one (show Kd.M (Kd.int .i64) _ _ _ 0 [.int .i64 0] from rfl) (Reps.one (show Kd.M (Kd.int .i64) _ _ _ 1 [.int .i64 1] from rfl) (Reps.one (show Kd.M (Kd.int .i64) _ _ _ a1_5 [.int .i64 a1_5] from rfl) (Reps.one (show Kd.M (Kd.int .i64) _ _ _ (wrap64 (a1_5 + 1)) [.int .i64 (wrap64 (a1_5 + 1))] from rfl) (Reps.one (show Kd.M (Kd.int .i64) _ _ _ 1000 [.int .i64 1000] from rfl) (Reps.one (show Kd.M (Kd.int .i64) _ _ _ 1001 [.int .i64 1001] from rfl) (Reps.none _ _)))))))))
          intro v260 w68 ho69 hb hg_ hnew_
          clear hg_ hnew_
          (first | rw [← Ny259.out] at ho69 | (simp only [Int.reduceToNat] at ho69; rw [← Ny259.out] at ho69))
          have n0_ := Aside0.mk (Kd.R_lower ho69 (keep_size (w := w) (g := g) (row := none) (kb HK.out)))
          have n1_ := Aside0.mk (IsS107.below (ib HI0.out) hb)
          have n2_ := up BK238 hb
          have n3_ := up BK239 hb
          have n4_ := kt HK (KeepBut.of_below hb g none)
          have n5_ := bsi HB hb
          clear HI0
          clear BK238
          clear BK239
          clear HK
          clear HB
          have HO261 := n0_
          have HI0 := n1_
          have BK238 := n2_
          have BK239 := n3_
          have HK := n4_
          have HB := n5_
          clear n0_ n1_ n2_ n3_ n4_ n5_
          clear hb ho69
          obtain ⟨Ao70, co70, eo70⟩ := Kd.R_slice HO261.out
          subst eo70
          obtain ⟨ado70, fo70, _⟩ := Kd.at_int (Kd.R_reads' HO261.out).2.2 0 (by decide) (by rw [Ny259.out]; simp)
          cases fo70
          refine hK.out _ _ ⟨(blk_cell BK238.out 0).trans rfl, (blk_cell BK238.out 1).trans rfl, (blk_cell BK238.out 2).trans rfl, (blk_cell BK238.out 3).trans rfl, (blk_cell BK238.out 4).trans rfl, (blk_cell BK238.out 5).trans rfl, (blk_cell BK238.out 6).trans rfl, (blk_cell BK238.out 7).trans rfl⟩ (fun hHeld => ?_)
          clear hK K
          refine norm_ (a' := ?_) ?_ ?_
          rotate_left
          ·show Act.put _ (some 46) _ = _
           simp only [Act.put, List.setIfInBounds_toArray, List.set_cons_zero, List.set_cons_succ, i64_w, i32_w]
           rfl
          exact norm_ (by simp only [putAll, Act.put, List.setIfInBounds_toArray, List.set_cons_zero, List.set_cons_succ]) (hCont (.slice (some ado70) y259.length co70, ado70) _ ⟨hHeld, (rx HO261.out), ⟨_, rfl⟩, (bx BK238.out), (bx BK239.out), (ib HI0.out), (kb HK.out), (bi HB.out)⟩)
        rintro ⟨v260, adz_v260⟩ w71 ⟨hS_, h0_, h1_, h2_, h3_, h4_, h5_, h6_⟩
        have n0_ : Aside0 (Kd.R (Kd.int .i64) 3 w71 w.heap.size (fun _ => True) v260 y259) := ⟨h0_⟩
        have n1_ : Aside0 (∃ c_, (v260 : Value) = .slice (some adz_v260) y259.length c_) := ⟨h1_⟩
        have n2_ : Aside0 (w71.heap[gb238]? = some (.cells #[.string a1_0, .int .i64 a1_1, .string a1_2, .string a1_3, .int .i64 a1_4, .int .i64 a1_5, .string a1_6, .string a1_7] 39 (0, 0))) := ⟨h2_⟩
        have n3_ : Aside0 (w71.heap[gb239]? = some (.cells #[.string (⟨#[]⟩ : ByteArray), .int .i64 0, .string (⟨#[]⟩ : ByteArray), .string (⟨#[]⟩ : ByteArray), .int .i64 0, .int .i64 0, .string (⟨#[]⟩ : ByteArray), .string (⟨#[]⟩ : ByteArray)] 39 (0, 0))) := ⟨h3_⟩
        have n4_ : Aside0 (IsS107 w0 w71 g s0_0 t263) := ⟨h4_⟩
        have n5_ : Aside0 (KeepBut w w71 g none) := ⟨h5_⟩
        have n6_ : Aside0 (Below w0.heap.size w0 w71) := ⟨h6_⟩
        clear BK238
        clear BK239
        clear HI0
        clear HK
        clear HB
        clear h0_ h1_ h2_ h3_ h4_ h5_ h6_
        have HO261 := n0_
        have HA_HO261 := n1_
        have BK238 := n2_
        have BK239 := n3_
        have HI0 := n4_
        have HK := n5_
        have HB := n6_
        clear n0_ n1_ n2_ n3_ n4_ n5_ n6_
        have hHeld : w71.cell? ⟨gb238, 0, none⟩ = some (.string a1_0) ∧ w71.cell? ⟨gb238, 1, none⟩ = some (.int .i64 a1_1) ∧ w71.cell? ⟨gb238, 2, none⟩ = some (.string a1_2) ∧ w71.cell? ⟨gb238, 3, none⟩ = some (.string a1_3) ∧ w71.cell? ⟨gb238, 4, none⟩ = some (.int .i64 a1_4) ∧ w71.cell? ⟨gb238, 5, none⟩ = some (.int .i64 a1_5) ∧ w71.cell? ⟨gb238, 6, none⟩ = some (.string a1_6) ∧ w71.cell? ⟨gb238, 7, none⟩ = some (.string a1_7) := hS_
        obtain ⟨co72, eo72⟩ := HA_HO261.out
        clear HA_HO261
        subst eo72
        refine norm_ (a' := ?_) ?_ ?_
        rotate_left
        ·simp only [putAll, Act.put, List.setIfInBounds_toArray, List.set_cons_zero, List.set_cons_succ]
         rfl
        refine pure_ (i := 8) (N := some 49) (v := ?_) (a' := ?_) #[true, true, true, true, true, true, true, true, true, false, false, false] rfl rfl (any_of HT_.out (by kernel_rfl)) (fun _ _ _ h => h) (Or.inl ⟨by rfl, ?_⟩) ?_ ?_
        rotate_left
        ·intro w'
         go_simp
         with_reducible rfl
        rotate_left
        ·simp only [Act.put, List.setIfInBounds_toArray, List.set_cons_zero, List.set_cons_succ, i64_w, i32_w]
         rfl
        refine one_ (i := 9) (N := some 50) #[true, true, true, true, true, true, true, true, true, true, false, false] rfl rfl (one_of HT_.out (by kernel_rfl)) (by decide) (fun K hK => ?_)
        (have p264 : 0 ≤ (t262 : Int) := oda; have q264 : t262 < (y259.length : Int) := oda; obtain ⟨ad264, e264, hx264_0⟩ := Kd.at_int (Kd.R_reads' HO261.out).2.2 t262 p264 q264; obtain rfl : adz_v260 = ad264 := (by injection e264))
        refine value_ (w1 := ?_) (v := ?_) (by rfl) rfl ?_ ?_
        rotate_left 2
        ·go_simp
         constructor
         ·rfl
         ·rfl
        clear hx264_0
        refine hK.out _ _ ⟨(blk_cell BK238.out 0).trans rfl, (blk_cell BK238.out 1).trans rfl, (blk_cell BK238.out 2).trans rfl, (blk_cell BK238.out 3).trans rfl, (blk_cell BK238.out 4).trans rfl, (blk_cell BK238.out 5).trans rfl, (blk_cell BK238.out 6).trans rfl, (blk_cell BK238.out 7).trans rfl⟩ (fun hHeld => ?_)
        clear hK K
        refine norm_ (a' := ?_) ?_ ?_
        rotate_left
        ·show Act.put _ (some 50) _ = _
         simp only [Act.put, List.setIfInBounds_toArray, List.set_cons_zero, List.set_cons_succ, i64_w, i32_w]
         rfl
        refine pure_ (i := 10) (N := some 51) (v := ?_) (a' := ?_) #[true, true, true, true, true, true, true, true, true, true, true, false] rfl rfl (any_of HT_.out (by kernel_rfl)) (fun _ _ _ h => h) (Or.inl ⟨by rfl, ?_⟩) ?_ ?_
        rotate_left
        ·intro w'
         go_simp
         with_reducible rfl
        rotate_left
        ·simp only [Act.put, List.setIfInBounds_toArray, List.set_cons_zero, List.set_cons_succ, i64_w, i32_w]
         rfl
        refine last_ (i := 11) (N := none) #[true, true, true, true, true, true, true, true, true, true, true, true] rfl rfl (one_of HT_.out (by kernel_rfl)) (by decide) (fun K hK => ?_)
        have hs73 : w71.cell? ⟨gb238, 4, none⟩ = some (.int .i64 a1_4) := (blk_cell BK238.out 4).trans rfl
        have hfs73 := blk_frozen BK238.out 4
        have hns73_1 := NB239_238.out
        have hms73_1 := NB238_239.out
        refine skip_ (w1 := ?_) (by rfl) rfl ?_ ?_
        rotate_left
        ·go_simp
         rfl
        refine hK.out _ _ ?_
        clear hK K
        refine done_ (done_of HT_.out (by kernel_rfl)) ?_
        have hnb74 := NB238_239.out
        have hnc74 := NB239_238.out
        have hnb75 := NB238_0.out
        have hnc75 := NB0_238.out
        have hcz76_0 := b0 BK238
        have hcz76_1 := b1 BK238
        have hcz76_2 := b2 BK238
        have hcz76_3 := b3 BK238
        have hcz76_4 := b4 BK238
        have hcz76_5 := b5 BK238
        have hcz76_6 := b6 BK238
        have hcz76_7 := b7 BK238
        have hfz76_0 := fz BK238 0
        have hfz76_1 := fz BK238 1
        have hfz76_2 := fz BK238 2
        have hfz76_3 := fz BK238 3
        have hfz76_4 := fz BK238 4
        have hfz76_5 := fz BK238 5
        have hfz76_6 := fz BK238 6
        have hfz76_7 := fz BK238 7
        have hnb77 := NB239_0.out
        have hnc77 := NB0_239.out
        have hcz78_0 := b0 BK239
        have hcz78_1 := b1 BK239
        have hcz78_2 := b2 BK239
        have hcz78_3 := b3 BK239
        have hcz78_4 := b4 BK239
        have hcz78_5 := b5 BK239
        have hcz78_6 := b6 BK239
        have hcz78_7 := b7 BK239
        have hfz78_0 := fz BK239 0
        have hfz78_1 := fz BK239 1
        have hfz78_2 := fz BK239 2
        have hfz78_3 := fz BK239 3
        have hfz78_4 := fz BK239 4
        have hfz78_5 := fz BK239 5
        have hfz78_6 := fz BK239 6
        have hfz78_7 := fz BK239 7
        try go_wp2
        refine bodyPost_ret (results_cell_row rfl _ _ gb239 39 #[.string a1_0, .int .i64 a1_1, .string a1_2, .string a1_3, .int .i64 (rd y259 t262), .int .i64 a1_5, .string a1_6, .string a1_7] (0, 0) _ rfl (by refine bx ?_; refine blk_put (cs := #[.string a1_0, .int .i64 a1_1, .string a1_2, .string a1_3, .int .i64 (rd y259 t262), .int .i64 a1_5, .string a1_6, .string (⟨#[]⟩ : ByteArray)]) ?_ 7 _ rfl; refine bx ?_; refine blk_put (cs := #[.string a1_0, .int .i64 a1_1, .string a1_2, .string a1_3, .int .i64 (rd y259 t262), .int .i64 a1_5, .string (⟨#[]⟩ : ByteArray), .string (⟨#[]⟩ : ByteArray)]) ?_ 6 _ rfl; refine bx ?_; refine blk_put (cs := #[.string a1_0, .int .i64 a1_1, .string a1_2, .string a1_3, .int .i64 (rd y259 t262), .int .i64 0, .string (⟨#[]⟩ : ByteArray), .string (⟨#[]⟩ : ByteArray)]) ?_ 5 _ rfl; refine bx ?_; refine blk_put (cs := #[.string a1_0, .int .i64 a1_1, .string a1_2, .string a1_3, .int .i64 0, .int .i64 0, .string (⟨#[]⟩ : ByteArray), .string (⟨#[]⟩ : ByteArray)]) ?_ 4 _ rfl; refine bx ?_; refine blk_put (cs := #[.string a1_0, .int .i64 a1_1, .string a1_2, .string (⟨#[]⟩ : ByteArray), .int .i64 0, .int .i64 0, .string (⟨#[]⟩ : ByteArray), .string (⟨#[]⟩ : ByteArray)]) ?_ 3 _ rfl; refine bx ?_; refine blk_put (cs := #[.string a1_0, .int .i64 a1_1, .string (⟨#[]⟩ : ByteArray), .string (⟨#[]⟩ : ByteArray), .int .i64 0, .int .i64 0, .string (⟨#[]⟩ : ByteArray), .string (⟨#[]⟩ : ByteArray)]) ?_ 2 _ rfl; refine bx ?_; refine blk_put (cs := #[.string a1_0, .int .i64 0, .string (⟨#[]⟩ : ByteArray), .string (⟨#[]⟩ : ByteArray), .int .i64 0, .int .i64 0, .string (⟨#[]⟩ : ByteArray), .string (⟨#[]⟩ : ByteArray)]) ?_ 1 _ rfl; refine bx ?_; refine blk_put (cs := #[.string (⟨#[]⟩ : ByteArray), .int .i64 0, .string (⟨#[]⟩ : ByteArray), .string (⟨#[]⟩ : ByteArray), .int .i64 0, .int .i64 0, .string (⟨#[]⟩ : ByteArray), .string (⟨#[]⟩ : ByteArray)]) ?_ 0 _ rfl; refine bx ?_; refine blk_far ?_ NB239_238.out _; refine bx ?_; exact BK239.out) Try.underlying39 rfl (by kernel_rfl)) rfl ?_
        exact ⟨exq, ib HI0.out, bi HB.out, kb HK.out⟩
       ·rw [if_neg c62] at H
        exact absurd H (by simp)
      ·rw [if_neg c61] at H
       exact absurd H (by simp)
     ·rw [if_neg c59] at H
      have c59b0 : (t240 == 4) = false := beq_eq_false_iff_ne.mpr c59
      have c59b1 : (t240 != 4) = true := bne_iff_ne.mpr c59
      by_cases c79 : t240 = 5
      ·rw [if_pos c79] at H
       have c79b0 : (t240 == 5) = true := beq_iff_eq.mpr c79
       have c79b1 : (t240 != 5) = false := bne_eq_false_iff_eq.mpr c79
       clear c79
       obtain ⟨y265, hy265⟩ : ∃ y_ : List Int, y_ = (([(-1), 0, 1, 1000, 1001] : List Int)) := ⟨_, rfl⟩
       replace H : ((spec_l1Rd_pick.f k s0_0 t241 5).bind fun bt268 => (if 0 ≤ bt268.1 then (if bt268.1 < (y265.length : Int) then (some (a1_0, a1_1, a1_2, a1_3, a1_4, rd y265 bt268.1, a1_6, a1_7, bt268.2)) else (none)) else (none))) = some (r1, r2, r3, r4, r5, r6, r7, r8, r9) := by first | (rw [hy265]; with_reducible exact H) | (have H2_ := (Option.bind_some _ _).symm.trans H; rw [hy265]; with_reducible exact H2_) | (have H2_ := (Option.bind_some _ _).symm.trans H; with_reducible exact H2_) | with_reducible exact H | (rw [hy265]; exact H) | exact H
       have Ny265 := Aside0.mk hy265
       clear hy265
       replace H := Option.bind_eq_some_iff.mp H
       obtain ⟨⟨t268, t269⟩, A800, H⟩ := H
       replace H : (if 0 ≤ t268 then (if t268 < (y265.length : Int) then (some (a1_0, a1_1, a1_2, a1_3, a1_4, rd y265 t268, a1_6, a1_7, t269)) else (none)) else (none)) = some (r1, r2, r3, r4, r5, r6, r7, r8, r9) := H
       have A80 := Aside0.mk A800
       clear A800
       by_cases c81 : 0 ≤ t268
       ·rw [if_pos c81] at H
        have c81b0 : decide (0 ≤ t268) = true := decide_eq_true c81
        clear c81
        by_cases c82 : t268 < (y265.length : Int)
        ·rw [if_pos c82] at H
         have c82b0 : decide (t268 < (y265.length : Int)) = true := decide_eq_true c82
         clear c82
         simp only [Option.some.injEq, Prod.mk.injEq] at H
         obtain ⟨rfl, rfl, rfl, rfl, rfl, rfl, rfl, rfl, rfl⟩ := H
         go_enter Try.func82, Try.ntmps82
         go_wp2_with (first | ((with_reducible refine gate_dst (N := 3) rfl ?_); refine box_event ?hg (N := 3) ?hd (cs := #[.string a1_0, .int .i64 a1_1, .string a1_2, .string a1_3, .int .i64 a1_4, .int .i64 a1_5, .string a1_6, .string a1_7]) (t := 39) ?hr ?_; (case hd => rfl); (case hg => rfl); (case hr => first | (go_simp; done) | (go_simp; rfl)); intro gb238 hg w83 hbox hb; have n0_ := Aside0.mk (IsS107.below (ib HI0.out) hb); have n1_ := kt HK (KeepBut.of_below hb g none); have n2_ := bsi HB hb; have n3_ := Aside0.mk (hbox); have n4_ := Aside0.mk ((by rw [hg]; exact (keep_size (w := w) (g := g) (row := none) (kb HK.out)) : w.heap.size ≤ gb238)); have n5_ := Aside0.mk ((Nat.le_trans HW0.out (by rw [hg]; exact (keep_size (w := w) (g := g) (row := none) (kb HK.out)) : w.heap.size ≤ gb238) : w0.heap.size ≤ gb238)); have n6_ := Aside0.mk ((by rw [hg]; exact Nat.ne_of_lt (IsS107.lt (show IsS107 w0 _ g s0_0 s0_1 from ib HI0.out)) : g ≠ gb238)); have n7_ := Aside0.mk ((by rw [hg]; exact Nat.ne_of_gt (IsS107.lt (show IsS107 w0 _ g s0_0 s0_1 from ib HI0.out)) : gb238 ≠ g)); clear HI0; clear HK; clear HB; have HI0 := n0_; have HK := n1_; have HB := n2_; have BK238 := n3_; have GW238 := n4_; have GE238 := n5_; have NB0_238 := n6_; have NB238_0 := n7_; clear n0_ n1_ n2_ n3_ n4_ n5_ n6_ n7_; clear hb hbox hg) | ((with_reducible refine gate_dst (N := 4) rfl ?_); refine box_event ?hg (N := 4) ?hd (cs := #[.string (⟨#[]⟩ : ByteArray), .int .i64 0, .string (⟨#[]⟩ : ByteArray), .string (⟨#[]⟩ : ByteArray), .int .i64 0, .int .i64 0, .string (⟨#[]⟩ : ByteArray), .string (⟨#[]⟩ : ByteArray)]) (t := 39) ?hr ?_; (case hd => rfl); (case hg => rfl); (case hr => first | (go_simp; done) | (go_simp; rfl)); intro gb239 hg w84 hbox hb; have n0_ := Aside0.mk (IsS107.below (ib HI0.out) hb); have n1_ := up BK238 hb; have n2_ := kt HK (KeepBut.of_below hb g none); have n3_ := bsi HB hb; have n4_ := Aside0.mk (hbox); have n5_ := Aside0.mk ((by rw [hg]; exact (keep_size (w := w) (g := g) (row := none) (kb HK.out)) : w.heap.size ≤ gb239)); have n6_ := Aside0.mk ((Nat.le_trans HW0.out (by rw [hg]; exact (keep_size (w := w) (g := g) (row := none) (kb HK.out)) : w.heap.size ≤ gb239) : w0.heap.size ≤ gb239)); have n7_ := nlt' hg BK238; have n8_ := ngt' hg BK238; have n9_ := Aside0.mk ((by rw [hg]; exact Nat.ne_of_lt (IsS107.lt (show IsS107 w0 _ g s0_0 s0_1 from ib HI0.out)) : g ≠ gb239)); have n10_ := Aside0.mk ((by rw [hg]; exact Nat.ne_of_gt (IsS107.lt (show IsS107 w0 _ g s0_0 s0_1 from ib HI0.out)) : gb239 ≠ g)); clear HI0; clear BK238; clear HK; clear HB; have HI0 := n0_; have BK238 := n1_; have HK := n2_; have HB := n3_; have BK239 := n4_; have GW239 := n5_; have GE239 := n6_; have NB238_239 := n7_; have NB239_238 := n8_; have NB0_239 := n9_; have NB239_0 := n10_; clear n0_ n1_ n2_ n3_ n4_ n5_ n6_ n7_ n8_ n9_ n10_; clear hb hbox hg) | ((with_reducible refine gate_callee (f := 64) rfl ?_); refine goesL_ (some 6) rfl rfl Try.func64 (by kernel_rfl) rfl #[.pointer (some ⟨g, 0, none⟩), .int .i64 8] rfl mxp ?_; (with_reducible refine (spec_l1Rd_pick.calls k g s0_0 s0_1 8 t240 t241 w0 _ ?side1 ?side2 A3.out).mono ?_); (case side1 => exact ib HI0.out); (case side2 => exact bi HB.out); rintro e w85 ⟨rfl, hi, hb, hk⟩; refine ⟨_, rfl, ?_⟩; have n0_ := kp BK238 hk NB238_0; have n1_ := kp BK239 hk NB239_0; have n2_ := kt HK hk; have n3_ := Aside0.mk (hb); have n4_ := Aside0.mk (hi); clear BK238; clear BK239; clear HK; clear HB; clear HI0; have BK238 := n0_; have BK239 := n1_; have HK := n2_; have HB := n3_; have HI0 := n4_; clear n0_ n1_ n2_ n3_ n4_; (try clear hb); (try clear hb2); (try clear hk); (try clear hi)) | ((with_reducible refine gate_dst (N := 54) rfl ?_); refine Kd.R_lit (Kd.int .i64) _ 3 ?hg (N := 54) ?hd (xs := ([(-1), 0, 1, 1000, 1001] : List Int)) (inner := [.int .i64 (-1), .int .i64 0, .int .i64 1, .int .i64 1000, .int .i64 1001]) (ok := fun _ => True) (okp := fun _ => True) ?hr ?hp (fun _ hk => hk) trivial (Below.refl _ _) (Nat.le_refl _) (by simp) ?_; (case hd => rfl); (case hg => rfl); (case hr => first | (go_simp; done) | (go_simp; rfl)); (case hp => exact (Reps.one (show Kd.M (Kd.int .i64) _ _ _ (-1) [.int .i64 (-1)] from rfl) (Reps.one (show Kd.M (Kd.int .i64) _ _ _ 0 [.int .i64 0] from rfl) (Reps.one (show Kd.M (Kd.int .i64) _ _ _ 1 [.int .i64 1] from rfl) (Reps.one (show Kd.M (Kd.int .i64) _ _ _ 1000 [.int .i64 1000] from rfl) (Reps.one (show Kd.M (Kd.int .i64) _ _ _ 1001 [.int .i64 1001] from rfl) (Reps.none _ _))))))); intro v266 w86 ho87 hb hg_ hnew_; clear hg_ hnew_; (first | rw [← Ny265.out] at ho87 | (simp only [Int.reduceToNat] at ho87; rw [← Ny265.out] at ho87)); have n0_ := Aside0.mk (Kd.R_lower ho87 (keep_size (w := w) (g := g) (row := none) (kb HK.out))); have n1_ := Aside0.mk (IsS107.below (ib HI0.out) hb); have n2_ := up BK238 hb; have n3_ := up BK239 hb; have n4_ := kt HK (KeepBut.of_below hb g none); have n5_ := bsi HB hb; clear HI0; clear BK238; clear BK239; clear HK; clear HB; have HO267 := n0_; have HI0 := n1_; have BK238 := n2_; have BK239 := n3_; have HK := n4_; have HB := n5_; clear n0_ n1_ n2_ n3_ n4_ n5_; clear hb ho87) | ((with_reducible refine gate_callee (f := 64) rfl ?_); refine goesL_ (some 56) rfl rfl Try.func64 (by kernel_rfl) rfl #[.pointer (some ⟨g, 0, none⟩), .int .i64 5] rfl mxp ?_; (with_reducible refine (spec_l1Rd_pick.calls k g s0_0 t241 5 t268 t269 w0 _ ?side1 ?side2 A80.out).mono ?_); (case side1 => exact ib HI0.out); (case side2 => exact bi HB.out); rintro e w88 ⟨rfl, hi, hb, hk⟩; refine ⟨_, rfl, ?_⟩; have n0_ := kp BK238 hk NB238_0; have n1_ := kp BK239 hk NB239_0; have n2_ := Aside0.mk (Kd.R_mono (Kd.R_keep (IsS107.apart (show IsS107 w0 _ g s0_0 t241 from ib HI0.out) (rx HO267.out) (by decide)) hk (fun _ h => h.2)) (fun _ h => h.1)); have n3_ := kt HK hk; have n4_ := Aside0.mk (hb); have n5_ := Aside0.mk (hi); clear BK238; clear BK239; clear HO267; clear HK; clear HB; clear HI0; have BK238 := n0_; have BK239 := n1_; have HO267 := n2_; have HK := n3_; have HB := n4_; have HI0 := n5_; clear n0_ n1_ n2_ n3_ n4_ n5_; (try clear hb); (try clear hb2); (try clear hk); (try clear hi); obtain ⟨Ao89, co89, eo89⟩ := Kd.R_slice HO267.out; subst eo89; have p270 : 0 ≤ (t268 : Int) := oda; have q270 : t268 < (y265.length : Int) := oda; obtain ⟨ad270, e270, hx270_0⟩ := Kd.at_int (Kd.R_reads' HO267.out).2.2 t268 p270 q270; cases e270; replace p270 := eq_true p270; replace q270 := eq_true q270; have hnb90 := NB238_239.out; have hnc90 := NB239_238.out; have hnb91 := NB238_0.out; have hnc91 := NB0_238.out; have hcz92_0 := b0 BK238; have hcz92_1 := b1 BK238; have hcz92_2 := b2 BK238; have hcz92_3 := b3 BK238; have hcz92_4 := b4 BK238; have hcz92_5 := b5 BK238; have hcz92_6 := b6 BK238; have hcz92_7 := b7 BK238; have hfz92_0 := fz BK238 0; have hfz92_1 := fz BK238 1; have hfz92_2 := fz BK238 2; have hfz92_3 := fz BK238 3; have hfz92_4 := fz BK238 4; have hfz92_5 := fz BK238 5; have hfz92_6 := fz BK238 6; have hfz92_7 := fz BK238 7; have hnb93 := NB239_0.out; have hnc93 := NB0_239.out; have hcz94_0 := b0 BK239; have hcz94_1 := b1 BK239; have hcz94_2 := b2 BK239; have hcz94_3 := b3 BK239; have hcz94_4 := b4 BK239; have hcz94_5 := b5 BK239; have hcz94_6 := b6 BK239; have hcz94_7 := b7 BK239; have hfz94_0 := fz BK239 0; have hfz94_1 := fz BK239 1; have hfz94_2 := fz BK239 2; have hfz94_3 := fz BK239 3; have hfz94_4 := fz BK239 4; have hfz94_5 := fz BK239 5; have hfz94_6 := fz BK239 6; have hfz94_7 := fz BK239 7))
         refine bodyPost_ret (results_cell_row rfl _ _ gb239 39 #[.string a1_0, .int .i64 a1_1, .string a1_2, .string a1_3, .int .i64 a1_4, .int .i64 (rd y265 t268), .string a1_6, .string a1_7] (0, 0) _ rfl (by refine bx ?_; refine blk_put (cs := #[.string a1_0, .int .i64 a1_1, .string a1_2, .string a1_3, .int .i64 a1_4, .int .i64 (rd y265 t268), .string a1_6, .string (⟨#[]⟩ : ByteArray)]) ?_ 7 _ rfl; refine bx ?_; refine blk_put (cs := #[.string a1_0, .int .i64 a1_1, .string a1_2, .string a1_3, .int .i64 a1_4, .int .i64 (rd y265 t268), .string (⟨#[]⟩ : ByteArray), .string (⟨#[]⟩ : ByteArray)]) ?_ 6 _ rfl; refine bx ?_; refine blk_put (cs := #[.string a1_0, .int .i64 a1_1, .string a1_2, .string a1_3, .int .i64 a1_4, .int .i64 0, .string (⟨#[]⟩ : ByteArray), .string (⟨#[]⟩ : ByteArray)]) ?_ 5 _ rfl; refine bx ?_; refine blk_put (cs := #[.string a1_0, .int .i64 a1_1, .string a1_2, .string a1_3, .int .i64 0, .int .i64 0, .string (⟨#[]⟩ : ByteArray), .string (⟨#[]⟩ : ByteArray)]) ?_ 4 _ rfl; refine bx ?_; refine blk_put (cs := #[.string a1_0, .int .i64 a1_1, .string a1_2, .string (⟨#[]⟩ : ByteArray), .int .i64 0, .int .i64 0, .string (⟨#[]⟩ : ByteArray), .string (⟨#[]⟩ : ByteArray)]) ?_ 3 _ rfl; refine bx ?_; refine blk_put (cs := #[.string a1_0, .int .i64 a1_1, .string (⟨#[]⟩ : ByteArray), .string (⟨#[]⟩ : ByteArray), .int .i64 0, .int .i64 0, .string (⟨#[]⟩ : ByteArray), .string (⟨#[]⟩ : ByteArray)]) ?_ 2 _ rfl; refine bx ?_; refine blk_put (cs := #[.string a1_0, .int .i64 0, .string (⟨#[]⟩ : ByteArray), .string (⟨#[]⟩ : ByteArray), .int .i64 0, .int .i64 0, .string (⟨#[]⟩ : ByteArray), .string (⟨#[]⟩ : ByteArray)]) ?_ 1 _ rfl; refine bx ?_; refine blk_put (cs := #[.string (⟨#[]⟩ : ByteArray), .int .i64 0, .string (⟨#[]⟩ : ByteArray), .string (⟨#[]⟩ : ByteArray), .int .i64 0, .int .i64 0, .string (⟨#[]⟩ : ByteArray), .string (⟨#[]⟩ : ByteArray)]) ?_ 0 _ rfl; refine bx ?_; refine blk_far ?_ NB239_238.out _; refine bx ?_; exact BK239.out) Try.underlying39 rfl (by kernel_rfl)) rfl ?_
         exact ⟨exq, ib HI0.out, bi HB.out, kb HK.out⟩
        ·rw [if_neg c82] at H
         exact absurd H (by simp)
       ·rw [if_neg c81] at H
        exact absurd H (by simp)
      ·rw [if_neg c79] at H
       have c79b0 : (t240 == 5) = false := beq_eq_false_iff_ne.mpr c79
       have c79b1 : (t240 != 5) = true := bne_iff_ne.mpr c79
       by_cases c95 : t240 = 6
       ·rw [if_pos c95] at H
        have c95b0 : (t240 == 6) = true := beq_iff_eq.mpr c95
        have c95b1 : (t240 != 6) = false := bne_eq_false_iff_eq.mpr c95
        clear c95
        obtain ⟨y271, hy271⟩ : ∃ y_ : List ByteArray, y_ = (([(⟨#[]⟩ : ByteArray), (⟨#[98, 114, 101, 119]⟩ : ByteArray), (⟨#[102, 49]⟩ : ByteArray), (⟨#[114, 101, 115, 116]⟩ : ByteArray), (⟨#[110, 111, 110, 101]⟩ : ByteArray)] : List ByteArray)) := ⟨_, rfl⟩
        replace H : ((spec_l1Rd_of.f k s0_0 t241 y271).bind fun bt274 => (some (a1_0, a1_1, a1_2, a1_3, a1_4, a1_5, bt274.1, a1_7, bt274.2))) = some (r1, r2, r3, r4, r5, r6, r7, r8, r9) := by first | (rw [hy271]; with_reducible exact H) | (have H2_ := (Option.bind_some _ _).symm.trans H; rw [hy271]; with_reducible exact H2_) | (have H2_ := (Option.bind_some _ _).symm.trans H; with_reducible exact H2_) | with_reducible exact H | (rw [hy271]; exact H) | exact H
        have Ny271 := Aside0.mk hy271
        clear hy271
        replace H := Option.bind_eq_some_iff.mp H
        obtain ⟨⟨t274, t275⟩, A960, H⟩ := H
        replace H : (some (a1_0, a1_1, a1_2, a1_3, a1_4, a1_5, t274, a1_7, t275)) = some (r1, r2, r3, r4, r5, r6, r7, r8, r9) := H
        have A96 := Aside0.mk A960
        clear A960
        simp only [Option.some.injEq, Prod.mk.injEq] at H
        obtain ⟨rfl, rfl, rfl, rfl, rfl, rfl, rfl, rfl, rfl⟩ := H
        go_enter Try.func82, Try.ntmps82
        go_wp2_with (first | ((with_reducible refine gate_dst (N := 3) rfl ?_); refine box_event ?hg (N := 3) ?hd (cs := #[.string a1_0, .int .i64 a1_1, .string a1_2, .string a1_3, .int .i64 a1_4, .int .i64 a1_5, .string a1_6, .string a1_7]) (t := 39) ?hr ?_; (case hd => rfl); (case hg => rfl); (case hr => first | (go_simp; done) | (go_simp; rfl)); intro gb238 hg w97 hbox hb; have n0_ := Aside0.mk (IsS107.below (ib HI0.out) hb); have n1_ := kt HK (KeepBut.of_below hb g none); have n2_ := bsi HB hb; have n3_ := Aside0.mk (hbox); have n4_ := Aside0.mk ((by rw [hg]; exact (keep_size (w := w) (g := g) (row := none) (kb HK.out)) : w.heap.size ≤ gb238)); have n5_ := Aside0.mk ((Nat.le_trans HW0.out (by rw [hg]; exact (keep_size (w := w) (g := g) (row := none) (kb HK.out)) : w.heap.size ≤ gb238) : w0.heap.size ≤ gb238)); have n6_ := Aside0.mk ((by rw [hg]; exact Nat.ne_of_lt (IsS107.lt (show IsS107 w0 _ g s0_0 s0_1 from ib HI0.out)) : g ≠ gb238)); have n7_ := Aside0.mk ((by rw [hg]; exact Nat.ne_of_gt (IsS107.lt (show IsS107 w0 _ g s0_0 s0_1 from ib HI0.out)) : gb238 ≠ g)); clear HI0; clear HK; clear HB; have HI0 := n0_; have HK := n1_; have HB := n2_; have BK238 := n3_; have GW238 := n4_; have GE238 := n5_; have NB0_238 := n6_; have NB238_0 := n7_; clear n0_ n1_ n2_ n3_ n4_ n5_ n6_ n7_; clear hb hbox hg) | ((with_reducible refine gate_dst (N := 4) rfl ?_); refine box_event ?hg (N := 4) ?hd (cs := #[.string (⟨#[]⟩ : ByteArray), .int .i64 0, .string (⟨#[]⟩ : ByteArray), .string (⟨#[]⟩ : ByteArray), .int .i64 0, .int .i64 0, .string (⟨#[]⟩ : ByteArray), .string (⟨#[]⟩ : ByteArray)]) (t := 39) ?hr ?_; (case hd => rfl); (case hg => rfl); (case hr => first | (go_simp; done) | (go_simp; rfl)); intro gb239 hg w98 hbox hb; have n0_ := Aside0.mk (IsS107.below (ib HI0.out) hb); have n1_ := up BK238 hb; have n2_ := kt HK (KeepBut.of_below hb g none); have n3_ := bsi HB hb; have n4_ := Aside0.mk (hbox); have n5_ := Aside0.mk ((by rw [hg]; exact (keep_size (w := w) (g := g) (row := none) (kb HK.out)) : w.heap.size ≤ gb239)); have n6_ := Aside0.mk ((Nat.le_trans HW0.out (by rw [hg]; exact (keep_size (w := w) (g := g) (row := none) (kb HK.out)) : w.heap.size ≤ gb239) : w0.heap.size ≤ gb239)); have n7_ := nlt' hg BK238; have n8_ := ngt' hg BK238; have n9_ := Aside0.mk ((by rw [hg]; exact Nat.ne_of_lt (IsS107.lt (show IsS107 w0 _ g s0_0 s0_1 from ib HI0.out)) : g ≠ gb239)); have n10_ := Aside0.mk ((by rw [hg]; exact Nat.ne_of_gt (IsS107.lt (show IsS107 w0 _ g s0_0 s0_1 from ib HI0.out)) : gb239 ≠ g)); clear HI0; clear BK238; clear HK; clear HB; have HI0 := n0_; have BK238 := n1_; have HK := n2_; have HB := n3_; have BK239 := n4_; have GW239 := n5_; have GE239 := n6_; have NB238_239 := n7_; have NB239_238 := n8_; have NB0_239 := n9_; have NB239_0 := n10_; clear n0_ n1_ n2_ n3_ n4_ n5_ n6_ n7_ n8_ n9_ n10_; clear hb hbox hg) | ((with_reducible refine gate_callee (f := 64) rfl ?_); refine goesL_ (some 6) rfl rfl Try.func64 (by kernel_rfl) rfl #[.pointer (some ⟨g, 0, none⟩), .int .i64 8] rfl mxp ?_; (with_reducible refine (spec_l1Rd_pick.calls k g s0_0 s0_1 8 t240 t241 w0 _ ?side1 ?side2 A3.out).mono ?_); (case side1 => exact ib HI0.out); (case side2 => exact bi HB.out); rintro e w99 ⟨rfl, hi, hb, hk⟩; refine ⟨_, rfl, ?_⟩; have n0_ := kp BK238 hk NB238_0; have n1_ := kp BK239 hk NB239_0; have n2_ := kt HK hk; have n3_ := Aside0.mk (hb); have n4_ := Aside0.mk (hi); clear BK238; clear BK239; clear HK; clear HB; clear HI0; have BK238 := n0_; have BK239 := n1_; have HK := n2_; have HB := n3_; have HI0 := n4_; clear n0_ n1_ n2_ n3_ n4_; (try clear hb); (try clear hb2); (try clear hk); (try clear hi)) | ((with_reducible refine gate_dst (N := 63) rfl ?_); refine Kd.R_lit Kd.string _ 9 ?hg (N := 63) ?hd (xs := ([(⟨#[]⟩ : ByteArray), (⟨#[98, 114, 101, 119]⟩ : ByteArray), (⟨#[102, 49]⟩ : ByteArray), (⟨#[114, 101, 115, 116]⟩ : ByteArray), (⟨#[110, 111, 110, 101]⟩ : ByteArray)] : List ByteArray)) (inner := [.string (⟨#[]⟩ : ByteArray), .string (⟨#[98, 114, 101, 119]⟩ : ByteArray), .string (⟨#[102, 49]⟩ : ByteArray), .string (⟨#[114, 101, 115, 116]⟩ : ByteArray), .string (⟨#[110, 111, 110, 101]⟩ : ByteArray)]) (ok := fun _ => True) (okp := fun _ => True) ?hr ?hp (fun _ hk => hk) trivial (Below.refl _ _) (Nat.le_refl _) (by simp) ?_; (case hd => rfl); (case hg => rfl); (case hr => first | (go_simp; done) | (go_simp; rfl)); (case hp => exact (Reps.one (show Kd.M Kd.string _ _ _ (⟨#[]⟩ : ByteArray) [.string (⟨#[]⟩ : ByteArray)] from rfl) (Reps.one (show Kd.M Kd.string _ _ _ (⟨#[98, 114, 101, 119]⟩ : ByteArray) [.string (⟨#[98, 114, 101, 119]⟩ : ByteArray)] from rfl) (Reps.one (show Kd.M Kd.string _ _ _ (⟨#[102, 49]⟩ : ByteArray) [.string (⟨#[102, 49]⟩ : ByteArray)] from rfl) (Reps.one (show Kd.M Kd.string _ _ _ (⟨#[114, 101, 115, 116]⟩ : ByteArray) [.string (⟨#[114, 101, 115, 116]⟩ : ByteArray)] from rfl) (Reps.one (show Kd.M Kd.string _ _ _ (⟨#[110, 111, 110, 101]⟩ : ByteArray) [.string (⟨#[110, 111, 110, 101]⟩ : ByteArray)] from rfl) (Reps.none _ _))))))); intro v272 w100 ho101 hb hg_ hnew_; clear hg_ hnew_; (first | rw [← Ny271.out] at ho101 | (simp only [Int.reduceToNat] at ho101; rw [← Ny271.out] at ho101)); have n0_ := Aside0.mk (Kd.R_lower ho101 (keep_size (w := w) (g := g) (row := none) (kb HK.out))); have n1_ := Aside0.mk (IsS107.below (ib HI0.out) hb); have n2_ := up BK238 hb; have n3_ := up BK239 hb; have n4_ := kt HK (KeepBut.of_below hb g none); have n5_ := bsi HB hb; clear HI0; clear BK238; clear BK239; clear HK; clear HB; have HO273 := n0_; have HI0 := n1_; have BK238 := n2_; have BK239 := n3_; have HK := n4_; have HB := n5_; clear n0_ n1_ n2_ n3_ n4_ n5_; clear hb ho101; obtain ⟨Ao102, co102, eo102⟩ := Kd.R_slice HO273.out; subst eo102) | ((with_reducible refine gate_callee (f := 80) rfl ?_); refine goesL_ (some 64) rfl rfl Try.func80 (by kernel_rfl) rfl #[.pointer (some ⟨g, 0, none⟩), .slice Ao102 y271.length co102] rfl mxp ?_; (with_reducible refine (spec_l1Rd_of.calls k g s0_0 t241 _ _ y271 t274 t275 w0 _ ?side1 ?side2 ?side3 ?side4 ?side5 A96.out).mono ?_); (case side1 => exact ib HI0.out); (case side2 => exact bi HB.out); (case side3 => exact cx (Kd.R_reads' HO273.out).2.2); (case side4 => exact (Kd.R_reads' HO273.out).2.1); (case side5 => exact far_slice (IsS107.own_ne HI0.out HO273.out (by decide))); rintro e w103 ⟨rfl, hi, hb, hk⟩; refine ⟨_, rfl, ?_⟩; have n0_ := kp BK238 hk NB238_0; have n1_ := kp BK239 hk NB239_0; have n2_ := Aside0.mk (Kd.R_mono (Kd.R_keep (IsS107.apart (show IsS107 w0 _ g s0_0 t241 from ib HI0.out) (rx HO273.out) (by decide)) hk (fun _ h => h.2)) (fun _ h => h.1)); have n3_ := kt HK hk; have n4_ := Aside0.mk (hb); have n5_ := Aside0.mk (hi); clear BK238; clear BK239; clear HO273; clear HK; clear HB; clear HI0; have BK238 := n0_; have BK239 := n1_; have HO273 := n2_; have HK := n3_; have HB := n4_; have HI0 := n5_; clear n0_ n1_ n2_ n3_ n4_ n5_; (try clear hb); (try clear hb2); (try clear hk); (try clear hi); have hnb104 := NB238_239.out; have hnc104 := NB239_238.out; have hnb105 := NB238_0.out; have hnc105 := NB0_238.out; have hcz106_0 := b0 BK238; have hcz106_1 := b1 BK238; have hcz106_2 := b2 BK238; have hcz106_3 := b3 BK238; have hcz106_4 := b4 BK238; have hcz106_5 := b5 BK238; have hcz106_6 := b6 BK238; have hcz106_7 := b7 BK238; have hfz106_0 := fz BK238 0; have hfz106_1 := fz BK238 1; have hfz106_2 := fz BK238 2; have hfz106_3 := fz BK238 3; have hfz106_4 := fz BK238 4; have hfz106_5 := fz BK238 5; have hfz106_6 := fz BK238 6; have hfz106_7 := fz BK238 7; have hnb107 := NB239_0.out; have hnc107 := NB0_239.out; have hcz108_0 := b0 BK239; have hcz108_1 := b1 BK239; have hcz108_2 := b2 BK239; have hcz108_3 := b3 BK239; have hcz108_4 := b4 BK239; have hcz108_5 := b5 BK239; have hcz108_6 := b6 BK239; have hcz108_7 := b7 BK239; have hfz108_0 := fz BK239 0; have hfz108_1 := fz BK239 1; have hfz108_2 := fz BK239 2; have hfz108_3 := fz BK239 3; have hfz108_4 := fz BK239 4; have hfz108_5 := fz BK239 5; have hfz108_6 := fz BK239 6; have hfz108_7 := fz BK239 7))
        refine bodyPost_ret (results_cell_row rfl _ _ gb239 39 #[.string a1_0, .int .i64 a1_1, .string a1_2, .string a1_3, .int .i64 a1_4, .int .i64 a1_5, .string t274, .string a1_7] (0, 0) _ rfl (by refine bx ?_; refine blk_put (cs := #[.string a1_0, .int .i64 a1_1, .string a1_2, .string a1_3, .int .i64 a1_4, .int .i64 a1_5, .string t274, .string (⟨#[]⟩ : ByteArray)]) ?_ 7 _ rfl; refine bx ?_; refine blk_put (cs := #[.string a1_0, .int .i64 a1_1, .string a1_2, .string a1_3, .int .i64 a1_4, .int .i64 a1_5, .string (⟨#[]⟩ : ByteArray), .string (⟨#[]⟩ : ByteArray)]) ?_ 6 _ rfl; refine bx ?_; refine blk_put (cs := #[.string a1_0, .int .i64 a1_1, .string a1_2, .string a1_3, .int .i64 a1_4, .int .i64 0, .string (⟨#[]⟩ : ByteArray), .string (⟨#[]⟩ : ByteArray)]) ?_ 5 _ rfl; refine bx ?_; refine blk_put (cs := #[.string a1_0, .int .i64 a1_1, .string a1_2, .string a1_3, .int .i64 0, .int .i64 0, .string (⟨#[]⟩ : ByteArray), .string (⟨#[]⟩ : ByteArray)]) ?_ 4 _ rfl; refine bx ?_; refine blk_put (cs := #[.string a1_0, .int .i64 a1_1, .string a1_2, .string (⟨#[]⟩ : ByteArray), .int .i64 0, .int .i64 0, .string (⟨#[]⟩ : ByteArray), .string (⟨#[]⟩ : ByteArray)]) ?_ 3 _ rfl; refine bx ?_; refine blk_put (cs := #[.string a1_0, .int .i64 a1_1, .string (⟨#[]⟩ : ByteArray), .string (⟨#[]⟩ : ByteArray), .int .i64 0, .int .i64 0, .string (⟨#[]⟩ : ByteArray), .string (⟨#[]⟩ : ByteArray)]) ?_ 2 _ rfl; refine bx ?_; refine blk_put (cs := #[.string a1_0, .int .i64 0, .string (⟨#[]⟩ : ByteArray), .string (⟨#[]⟩ : ByteArray), .int .i64 0, .int .i64 0, .string (⟨#[]⟩ : ByteArray), .string (⟨#[]⟩ : ByteArray)]) ?_ 1 _ rfl; refine bx ?_; refine blk_put (cs := #[.string (⟨#[]⟩ : ByteArray), .int .i64 0, .string (⟨#[]⟩ : ByteArray), .string (⟨#[]⟩ : ByteArray), .int .i64 0, .int .i64 0, .string (⟨#[]⟩ : ByteArray), .string (⟨#[]⟩ : ByteArray)]) ?_ 0 _ rfl; refine bx ?_; refine blk_far ?_ NB239_238.out _; refine bx ?_; exact BK239.out) Try.underlying39 rfl (by kernel_rfl)) rfl ?_
        exact ⟨exq, ib HI0.out, bi HB.out, kb HK.out⟩
       ·rw [if_neg c95] at H
        have c95b0 : (t240 == 6) = false := beq_eq_false_iff_ne.mpr c95
        have c95b1 : (t240 != 6) = true := bne_iff_ne.mpr c95
        obtain ⟨y276, hy276⟩ : ∃ y_ : List ByteArray, y_ = (([(⟨#[]⟩ : ByteArray), (⟨#[98, 114, 101, 119]⟩ : ByteArray), (⟨#[102, 49]⟩ : ByteArray), (⟨#[114, 101, 115, 116]⟩ : ByteArray), (⟨#[110, 111, 110, 101]⟩ : ByteArray)] : List ByteArray)) := ⟨_, rfl⟩
        replace H : ((spec_l1Rd_of.f k s0_0 t241 y276).bind fun bt279 => (some (a1_0, a1_1, a1_2, a1_3, a1_4, a1_5, a1_6, bt279.1, bt279.2))) = some (r1, r2, r3, r4, r5, r6, r7, r8, r9) := by first | (rw [hy276]; with_reducible exact H) | (have H2_ := (Option.bind_some _ _).symm.trans H; rw [hy276]; with_reducible exact H2_) | (have H2_ := (Option.bind_some _ _).symm.trans H; with_reducible exact H2_) | with_reducible exact H | (rw [hy276]; exact H) | exact H
        have Ny276 := Aside0.mk hy276
        clear hy276
        replace H := Option.bind_eq_some_iff.mp H
        obtain ⟨⟨t279, t280⟩, A1090, H⟩ := H
        replace H : (some (a1_0, a1_1, a1_2, a1_3, a1_4, a1_5, a1_6, t279, t280)) = some (r1, r2, r3, r4, r5, r6, r7, r8, r9) := H
        have A109 := Aside0.mk A1090
        clear A1090
        simp only [Option.some.injEq, Prod.mk.injEq] at H
        obtain ⟨rfl, rfl, rfl, rfl, rfl, rfl, rfl, rfl, rfl⟩ := H
        go_enter Try.func82, Try.ntmps82
        go_wp2_with (first | ((with_reducible refine gate_dst (N := 3) rfl ?_); refine box_event ?hg (N := 3) ?hd (cs := #[.string a1_0, .int .i64 a1_1, .string a1_2, .string a1_3, .int .i64 a1_4, .int .i64 a1_5, .string a1_6, .string a1_7]) (t := 39) ?hr ?_; (case hd => rfl); (case hg => rfl); (case hr => first | (go_simp; done) | (go_simp; rfl)); intro gb238 hg w110 hbox hb; have n0_ := Aside0.mk (IsS107.below (ib HI0.out) hb); have n1_ := kt HK (KeepBut.of_below hb g none); have n2_ := bsi HB hb; have n3_ := Aside0.mk (hbox); have n4_ := Aside0.mk ((by rw [hg]; exact (keep_size (w := w) (g := g) (row := none) (kb HK.out)) : w.heap.size ≤ gb238)); have n5_ := Aside0.mk ((Nat.le_trans HW0.out (by rw [hg]; exact (keep_size (w := w) (g := g) (row := none) (kb HK.out)) : w.heap.size ≤ gb238) : w0.heap.size ≤ gb238)); have n6_ := Aside0.mk ((by rw [hg]; exact Nat.ne_of_lt (IsS107.lt (show IsS107 w0 _ g s0_0 s0_1 from ib HI0.out)) : g ≠ gb238)); have n7_ := Aside0.mk ((by rw [hg]; exact Nat.ne_of_gt (IsS107.lt (show IsS107 w0 _ g s0_0 s0_1 from ib HI0.out)) : gb238 ≠ g)); clear HI0; clear HK; clear HB; have HI0 := n0_; have HK := n1_; have HB := n2_; have BK238 := n3_; have GW238 := n4_; have GE238 := n5_; have NB0_238 := n6_; have NB238_0 := n7_; clear n0_ n1_ n2_ n3_ n4_ n5_ n6_ n7_; clear hb hbox hg) | ((with_reducible refine gate_dst (N := 4) rfl ?_); refine box_event ?hg (N := 4) ?hd (cs := #[.string (⟨#[]⟩ : ByteArray), .int .i64 0, .string (⟨#[]⟩ : ByteArray), .string (⟨#[]⟩ : ByteArray), .int .i64 0, .int .i64 0, .string (⟨#[]⟩ : ByteArray), .string (⟨#[]⟩ : ByteArray)]) (t := 39) ?hr ?_; (case hd => rfl); (case hg => rfl); (case hr => first | (go_simp; done) | (go_simp; rfl)); intro gb239 hg w111 hbox hb; have n0_ := Aside0.mk (IsS107.below (ib HI0.out) hb); have n1_ := up BK238 hb; have n2_ := kt HK (KeepBut.of_below hb g none); have n3_ := bsi HB hb; have n4_ := Aside0.mk (hbox); have n5_ := Aside0.mk ((by rw [hg]; exact (keep_size (w := w) (g := g) (row := none) (kb HK.out)) : w.heap.size ≤ gb239)); have n6_ := Aside0.mk ((Nat.le_trans HW0.out (by rw [hg]; exact (keep_size (w := w) (g := g) (row := none) (kb HK.out)) : w.heap.size ≤ gb239) : w0.heap.size ≤ gb239)); have n7_ := nlt' hg BK238; have n8_ := ngt' hg BK238; have n9_ := Aside0.mk ((by rw [hg]; exact Nat.ne_of_lt (IsS107.lt (show IsS107 w0 _ g s0_0 s0_1 from ib HI0.out)) : g ≠ gb239)); have n10_ := Aside0.mk ((by rw [hg]; exact Nat.ne_of_gt (IsS107.lt (show IsS107 w0 _ g s0_0 s0_1 from ib HI0.out)) : gb239 ≠ g)); clear HI0; clear BK238; clear HK; clear HB; have HI0 := n0_; have BK238 := n1_; have HK := n2_; have HB := n3_; have BK239 := n4_; have GW239 := n5_; have GE239 := n6_; have NB238_239 := n7_; have NB239_238 := n8_; have NB0_239 := n9_; have NB239_0 := n10_; clear n0_ n1_ n2_ n3_ n4_ n5_ n6_ n7_ n8_ n9_ n10_; clear hb hbox hg) | ((with_reducible refine gate_callee (f := 64) rfl ?_); refine goesL_ (some 6) rfl rfl Try.func64 (by kernel_rfl) rfl #[.pointer (some ⟨g, 0, none⟩), .int .i64 8] rfl mxp ?_; (with_reducible refine (spec_l1Rd_pick.calls k g s0_0 s0_1 8 t240 t241 w0 _ ?side1 ?side2 A3.out).mono ?_); (case side1 => exact ib HI0.out); (case side2 => exact bi HB.out); rintro e w112 ⟨rfl, hi, hb, hk⟩; refine ⟨_, rfl, ?_⟩; have n0_ := kp BK238 hk NB238_0; have n1_ := kp BK239 hk NB239_0; have n2_ := kt HK hk; have n3_ := Aside0.mk (hb); have n4_ := Aside0.mk (hi); clear BK238; clear BK239; clear HK; clear HB; clear HI0; have BK238 := n0_; have BK239 := n1_; have HK := n2_; have HB := n3_; have HI0 := n4_; clear n0_ n1_ n2_ n3_ n4_; (try clear hb); (try clear hb2); (try clear hk); (try clear hi)) | ((with_reducible refine gate_dst (N := 8) rfl ?_); refine Kd.R_lit Kd.string _ 9 ?hg (N := 8) ?hd (xs := ([(⟨#[]⟩ : ByteArray), (⟨#[98, 114, 101, 119]⟩ : ByteArray), (⟨#[102, 49]⟩ : ByteArray), (⟨#[114, 101, 115, 116]⟩ : ByteArray), (⟨#[110, 111, 110, 101]⟩ : ByteArray)] : List ByteArray)) (inner := [.string (⟨#[]⟩ : ByteArray), .string (⟨#[98, 114, 101, 119]⟩ : ByteArray), .string (⟨#[102, 49]⟩ : ByteArray), .string (⟨#[114, 101, 115, 116]⟩ : ByteArray), .string (⟨#[110, 111, 110, 101]⟩ : ByteArray)]) (ok := fun _ => True) (okp := fun _ => True) ?hr ?hp (fun _ hk => hk) trivial (Below.refl _ _) (Nat.le_refl _) (by simp) ?_; (case hd => rfl); (case hg => rfl); (case hr => first | (go_simp; done) | (go_simp; rfl)); (case hp => exact (Reps.one (show Kd.M Kd.string _ _ _ (⟨#[]⟩ : ByteArray) [.string (⟨#[]⟩ : ByteArray)] from rfl) (Reps.one (show Kd.M Kd.string _ _ _ (⟨#[98, 114, 101, 119]⟩ : ByteArray) [.string (⟨#[98, 114, 101, 119]⟩ : ByteArray)] from rfl) (Reps.one (show Kd.M Kd.string _ _ _ (⟨#[102, 49]⟩ : ByteArray) [.string (⟨#[102, 49]⟩ : ByteArray)] from rfl) (Reps.one (show Kd.M Kd.string _ _ _ (⟨#[114, 101, 115, 116]⟩ : ByteArray) [.string (⟨#[114, 101, 115, 116]⟩ : ByteArray)] from rfl) (Reps.one (show Kd.M Kd.string _ _ _ (⟨#[110, 111, 110, 101]⟩ : ByteArray) [.string (⟨#[110, 111, 110, 101]⟩ : ByteArray)] from rfl) (Reps.none _ _))))))); intro v277 w113 ho114 hb hg_ hnew_; clear hg_ hnew_; (first | rw [← Ny276.out] at ho114 | (simp only [Int.reduceToNat] at ho114; rw [← Ny276.out] at ho114)); have n0_ := Aside0.mk (Kd.R_lower ho114 (keep_size (w := w) (g := g) (row := none) (kb HK.out))); have n1_ := Aside0.mk (IsS107.below (ib HI0.out) hb); have n2_ := up BK238 hb; have n3_ := up BK239 hb; have n4_ := kt HK (KeepBut.of_below hb g none); have n5_ := bsi HB hb; clear HI0; clear BK238; clear BK239; clear HK; clear HB; have HO278 := n0_; have HI0 := n1_; have BK238 := n2_; have BK239 := n3_; have HK := n4_; have HB := n5_; clear n0_ n1_ n2_ n3_ n4_ n5_; clear hb ho114; obtain ⟨Ao115, co115, eo115⟩ := Kd.R_slice HO278.out; subst eo115) | ((with_reducible refine gate_callee (f := 80) rfl ?_); refine goesL_ (some 9) rfl rfl Try.func80 (by kernel_rfl) rfl #[.pointer (some ⟨g, 0, none⟩), .slice Ao115 y276.length co115] rfl mxp ?_; (with_reducible refine (spec_l1Rd_of.calls k g s0_0 t241 _ _ y276 t279 t280 w0 _ ?side1 ?side2 ?side3 ?side4 ?side5 A109.out).mono ?_); (case side1 => exact ib HI0.out); (case side2 => exact bi HB.out); (case side3 => exact cx (Kd.R_reads' HO278.out).2.2); (case side4 => exact (Kd.R_reads' HO278.out).2.1); (case side5 => exact far_slice (IsS107.own_ne HI0.out HO278.out (by decide))); rintro e w116 ⟨rfl, hi, hb, hk⟩; refine ⟨_, rfl, ?_⟩; have n0_ := kp BK238 hk NB238_0; have n1_ := kp BK239 hk NB239_0; have n2_ := Aside0.mk (Kd.R_mono (Kd.R_keep (IsS107.apart (show IsS107 w0 _ g s0_0 t241 from ib HI0.out) (rx HO278.out) (by decide)) hk (fun _ h => h.2)) (fun _ h => h.1)); have n3_ := kt HK hk; have n4_ := Aside0.mk (hb); have n5_ := Aside0.mk (hi); clear BK238; clear BK239; clear HO278; clear HK; clear HB; clear HI0; have BK238 := n0_; have BK239 := n1_; have HO278 := n2_; have HK := n3_; have HB := n4_; have HI0 := n5_; clear n0_ n1_ n2_ n3_ n4_ n5_; (try clear hb); (try clear hb2); (try clear hk); (try clear hi); have hnb117 := NB238_239.out; have hnc117 := NB239_238.out; have hnb118 := NB238_0.out; have hnc118 := NB0_238.out; have hcz119_0 := b0 BK238; have hcz119_1 := b1 BK238; have hcz119_2 := b2 BK238; have hcz119_3 := b3 BK238; have hcz119_4 := b4 BK238; have hcz119_5 := b5 BK238; have hcz119_6 := b6 BK238; have hcz119_7 := b7 BK238; have hfz119_0 := fz BK238 0; have hfz119_1 := fz BK238 1; have hfz119_2 := fz BK238 2; have hfz119_3 := fz BK238 3; have hfz119_4 := fz BK238 4; have hfz119_5 := fz BK238 5; have hfz119_6 := fz BK238 6; have hfz119_7 := fz BK238 7; have hnb120 := NB239_0.out; have hnc120 := NB0_239.out; have hcz121_0 := b0 BK239; have hcz121_1 := b1 BK239; have hcz121_2 := b2 BK239; have hcz121_3 := b3 BK239; have hcz121_4 := b4 BK239; have hcz121_5 := b5 BK239; have hcz121_6 := b6 BK239; have hcz121_7 := b7 BK239; have hfz121_0 := fz BK239 0; have hfz121_1 := fz BK239 1; have hfz121_2 := fz BK239 2; have hfz121_3 := fz BK239 3; have hfz121_4 := fz BK239 4; have hfz121_5 := fz BK239 5; have hfz121_6 := fz BK239 6; have hfz121_7 := fz BK239 7))
        refine bodyPost_ret (results_cell_row rfl _ _ gb239 39 #[.string a1_0, .int .i64 a1_1, .string a1_2, .string a1_3, .int .i64 a1_4, .int .i64 a1_5, .string a1_6, .string t279] (0, 0) _ rfl (by refine bx ?_; refine blk_put (cs := #[.string a1_0, .int .i64 a1_1, .string a1_2, .string a1_3, .int .i64 a1_4, .int .i64 a1_5, .string a1_6, .string (⟨#[]⟩ : ByteArray)]) ?_ 7 _ rfl; refine bx ?_; refine blk_put (cs := #[.string a1_0, .int .i64 a1_1, .string a1_2, .string a1_3, .int .i64 a1_4, .int .i64 a1_5, .string (⟨#[]⟩ : ByteArray), .string (⟨#[]⟩ : ByteArray)]) ?_ 6 _ rfl; refine bx ?_; refine blk_put (cs := #[.string a1_0, .int .i64 a1_1, .string a1_2, .string a1_3, .int .i64 a1_4, .int .i64 0, .string (⟨#[]⟩ : ByteArray), .string (⟨#[]⟩ : ByteArray)]) ?_ 5 _ rfl; refine bx ?_; refine blk_put (cs := #[.string a1_0, .int .i64 a1_1, .string a1_2, .string a1_3, .int .i64 0, .int .i64 0, .string (⟨#[]⟩ : ByteArray), .string (⟨#[]⟩ : ByteArray)]) ?_ 4 _ rfl; refine bx ?_; refine blk_put (cs := #[.string a1_0, .int .i64 a1_1, .string a1_2, .string (⟨#[]⟩ : ByteArray), .int .i64 0, .int .i64 0, .string (⟨#[]⟩ : ByteArray), .string (⟨#[]⟩ : ByteArray)]) ?_ 3 _ rfl; refine bx ?_; refine blk_put (cs := #[.string a1_0, .int .i64 a1_1, .string (⟨#[]⟩ : ByteArray), .string (⟨#[]⟩ : ByteArray), .int .i64 0, .int .i64 0, .string (⟨#[]⟩ : ByteArray), .string (⟨#[]⟩ : ByteArray)]) ?_ 2 _ rfl; refine bx ?_; refine blk_put (cs := #[.string a1_0, .int .i64 0, .string (⟨#[]⟩ : ByteArray), .string (⟨#[]⟩ : ByteArray), .int .i64 0, .int .i64 0, .string (⟨#[]⟩ : ByteArray), .string (⟨#[]⟩ : ByteArray)]) ?_ 1 _ rfl; refine bx ?_; refine blk_put (cs := #[.string (⟨#[]⟩ : ByteArray), .int .i64 0, .string (⟨#[]⟩ : ByteArray), .string (⟨#[]⟩ : ByteArray), .int .i64 0, .int .i64 0, .string (⟨#[]⟩ : ByteArray), .string (⟨#[]⟩ : ByteArray)]) ?_ 0 _ rfl; refine bx ?_; refine blk_far ?_ NB239_238.out _; refine bx ?_; exact BK239.out) Try.underlying39 rfl (by kernel_rfl)) rfl ?_
        exact ⟨exq, ib HI0.out, bi HB.out, kb HK.out⟩


/-! ### spec_l5Spoil: function 94 -/
def spec_l5Spoil.l0 : Nat → List (S39) → Int → Int → List Int → Int → Option ((List (S39)) × Int)
 | 0, _, _, _, _, _ => none
 | k + 1, x5, x7, x8, x1000, x1001 => if (x5.length : Int) < x7 then ((spec_l3Dec.f k x8).bind fun t536 => (if 1 + t536.size ≤ 9223372036854775807 then ((spec_l5Phase.f k x1000 x1001 ((⟨#[122]⟩ : ByteArray) ++ t536) (([] : List ByteArray))).bind fun bt540 => (if x5.length < 1353245080339 then (spec_l5Spoil.l0 k (x5 ++ [(⟨bt540.1, bt540.2.1, bt540.2.2.1, bt540.2.2.2.1, bt540.2.2.2.2.1, bt540.2.2.2.2.2.1, bt540.2.2.2.2.2.2.1, bt540.2.2.2.2.2.2.2.1⟩ : S39)]) x7 (wrap64 (x8 + 1)) x1000 bt540.2.2.2.2.2.2.2.2) else (none))) else (none))) else (some (x5, x1001))
def spec_l5Spoil.f (k : Nat) (s0_0 : List Int) (s0_1 : Int) (l1 : List (S39)) : Option ((List (S39)) × Int) := (some (([] : List (S39)) : List (S39))).bind fun y518 => (if y518.length + l1.length < 1353245080339 then ((some (y518 ++ l1 : List (S39))).bind fun y521 => ((spec_l1Rd_pick.f k s0_0 s0_1 (y521.length : Int)).bind fun bt524 => ((spec_l1Rd_pick.f k s0_0 bt524.2 6).bind fun bt526 => (if bt526.1 = 0 then (if 0 ≤ bt524.1 then (if bt524.1 < (y521.length : Int) then (if y521.length < 1353245080339 then (some ((y521 ++ [(⟨(rd_T39 y521 bt524.1).f0, (rd_T39 y521 bt524.1).f1, (rd_T39 y521 bt524.1).f2, (rd_T39 y521 bt524.1).f3, (rd_T39 y521 bt524.1).f4, (rd_T39 y521 bt524.1).f5, (rd_T39 y521 bt524.1).f6, (rd_T39 y521 bt524.1).f7⟩ : S39)]), bt526.2)) else (none)) else (none)) else (none)) else (if bt526.1 = 1 then (if 0 ≤ bt524.1 then (if bt524.1 < (y521.length : Int) then (if 0 < (y521.length : Int) then (some ((y521.set (0 : Int).toNat (⟨(rd_T39 y521 bt524.1).f0, (rd_T39 y521 bt524.1).f1, (rd_T39 y521 bt524.1).f2, (rd_T39 y521 bt524.1).f3, (rd_T39 y521 bt524.1).f4, (rd_T39 y521 bt524.1).f5, (rd_T39 y521 bt524.1).f6, (rd_T39 y521 bt524.1).f7⟩ : S39)), bt526.2)) else (none)) else (none)) else (none)) else (if bt526.1 = 2 then ((spec_l1Rd_pick.f k s0_0 bt526.2 2).bind fun bt534 => (spec_l5Spoil.l0 k y521 (wrap64 (12 + bt534.1)) 0 s0_0 bt534.2)) else (if 0 ≤ bt524.1 then (if bt524.1 < (y521.length : Int) then ((spec_l5SpoilPhase.f k s0_0 bt526.2 ((rd_T39 y521 bt524.1).f0) ((rd_T39 y521 bt524.1).f1) ((rd_T39 y521 bt524.1).f2) ((rd_T39 y521 bt524.1).f3) ((rd_T39 y521 bt524.1).f4) ((rd_T39 y521 bt524.1).f5) ((rd_T39 y521 bt524.1).f6) ((rd_T39 y521 bt524.1).f7)).bind fun bt553 => (some ((y521.set (bt524.1 : Int).toNat (⟨bt553.1, bt553.2.1, bt553.2.2.1, bt553.2.2.2.1, bt553.2.2.2.2.1, bt553.2.2.2.2.2.1, bt553.2.2.2.2.2.2.1, bt553.2.2.2.2.2.2.2.1⟩ : S39)), bt553.2.2.2.2.2.2.2.2))) else (none)) else (none)))))))) else (none))
theorem spec_l5Spoil.mono_l : ∀ k, (∀ y0 y1 y2 y3 y4, LeO (spec_l5Spoil.l0 k y0 y1 y2 y3 y4) (spec_l5Spoil.l0 (k + 1) y0 y1 y2 y3 y4))
 | 0 => fun _ _ _ _ _ r h => by simp [spec_l5Spoil.l0] at h
 | k + 1 => by
  have ih0 := spec_l5Spoil.mono_l k
  ·intro y0 y1 y2 y3 y4
   unfold spec_l5Spoil.l0
   repeat' first
   | (with_reducible exact ih0 _ _ _ _ _)
   | (with_reducible exact spec_l1Rd_pick.mono _ _ _ _)
   | (with_reducible exact spec_l3Dec.mono _ _)
   | (with_reducible exact spec_l5Phase.mono _ _ _ _ _)
   | (with_reducible exact spec_l5SpoilPhase.mono _ _ _ _ _ _ _ _ _ _ _)
   | (with_reducible exact LeO.refl _)
   | (with_reducible exact LeO.none _)
   | (with_reducible refine LeO.ite ?_ ?_)
   | (with_reducible refine LeO.bind ?_ (fun _ => ?_))
   | exact ih0 _ _ _ _ _
   | exact spec_l1Rd_pick.mono _ _ _ _
   | exact spec_l3Dec.mono _ _
   | exact spec_l5Phase.mono _ _ _ _ _
   | exact spec_l5SpoilPhase.mono _ _ _ _ _ _ _ _ _ _ _
   | exact LeO.none _
   | refine LeO.ite ?_ ?_
   | refine LeO.bind ?_ (fun _ => ?_)
theorem spec_l5Spoil.mono : ∀ a0 a1 a2 k, LeO (spec_l5Spoil.f k a0 a1 a2) (spec_l5Spoil.f (k + 1) a0 a1 a2) := by
 intro a0 a1 a2 k
 have ih0 := spec_l5Spoil.mono_l k
 unfold spec_l5Spoil.f
 repeat' first
   | (with_reducible exact ih0 _ _ _ _ _)
   | (with_reducible exact spec_l1Rd_pick.mono _ _ _ _)
   | (with_reducible exact spec_l3Dec.mono _ _)
   | (with_reducible exact spec_l5Phase.mono _ _ _ _ _)
   | (with_reducible exact spec_l5SpoilPhase.mono _ _ _ _ _ _ _ _ _ _ _)
   | (with_reducible exact LeO.refl _)
   | (with_reducible exact LeO.none _)
   | (with_reducible refine LeO.ite ?_ ?_)
   | (with_reducible refine LeO.bind ?_ (fun _ => ?_))
   | exact ih0 _ _ _ _ _
   | exact spec_l1Rd_pick.mono _ _ _ _
   | exact spec_l3Dec.mono _ _
   | exact spec_l5Phase.mono _ _ _ _ _
   | exact spec_l5SpoilPhase.mono _ _ _ _ _ _ _ _ _ _ _
   | exact LeO.none _
   | refine LeO.ite ?_ ?_
   | refine LeO.bind ?_ (fun _ => ?_)
set_option maxHeartbeats 8000000 in
set_option maxRecDepth 100000 in
theorem spec_l5Spoil.calls (k : Nat) (g : Nat) (s0_0 : List Int) (s0_1 : Int) (A1 : Option Addr) (c1 : Nat) (l1 : List (S39)) (r1 : List (S39)) (r2 : Int) (w0 w : World) (hI : IsS107 w0 w g s0_0 s0_1) (hB : Below w0.heap.size w0 w) (hr1 : ∀ W_, KeepBut w W_ g none → Kd.C k39 W_ A1 l1.length l1) (hc1 : l1.length ≤ c1) (h : spec_l5Spoil.f k s0_0 s0_1 l1 = some (r1, r2)) :
  Calls Try.prog 94 #[.pointer (some ⟨g, 0, none⟩), .slice A1 l1.length c1] w fun e w' => ∃ v0_ : Value, e = .returned (v0_) ∧ Kd.R k39 39 w' w.heap.size (fun _ => True) v0_ r1 ∧ IsS107 w0 w' g s0_0 r2 ∧ Below w0.heap.size w0 w' ∧ KeepBut w w' g none := by
 have hu39 := Try.underlying39
 have HR1 := Aside0.mk hr1
 have HC1 := Aside0.mk hc1
 clear hr1 hc1
 have HI0 := Aside0.mk hI
 have HK := Aside0.mk (KeepBut.refl w g none)
 have HL := Aside0.mk hB.size
 clear hI
 have HW0 := Aside0.mk hB.size
 have HB := Aside0.mk hB
 clear hB
 have H : ((some (([] : List (S39)) : List (S39))).bind fun y518 => (if y518.length + l1.length < 1353245080339 then ((some (y518 ++ l1 : List (S39))).bind fun y521 => ((spec_l1Rd_pick.f k s0_0 s0_1 (y521.length : Int)).bind fun bt524 => ((spec_l1Rd_pick.f k s0_0 bt524.2 6).bind fun bt526 => (if bt526.1 = 0 then (if 0 ≤ bt524.1 then (if bt524.1 < (y521.length : Int) then (if y521.length < 1353245080339 then (some ((y521 ++ [(⟨(rd_T39 y521 bt524.1).f0, (rd_T39 y521 bt524.1).f1, (rd_T39 y521 bt524.1).f2, (rd_T39 y521 bt524.1).f3, (rd_T39 y521 bt524.1).f4, (rd_T39 y521 bt524.1).f5, (rd_T39 y521 bt524.1).f6, (rd_T39 y521 bt524.1).f7⟩ : S39)]), bt526.2)) else (none)) else (none)) else (none)) else (if bt526.1 = 1 then (if 0 ≤ bt524.1 then (if bt524.1 < (y521.length : Int) then (if 0 < (y521.length : Int) then (some ((y521.set (0 : Int).toNat (⟨(rd_T39 y521 bt524.1).f0, (rd_T39 y521 bt524.1).f1, (rd_T39 y521 bt524.1).f2, (rd_T39 y521 bt524.1).f3, (rd_T39 y521 bt524.1).f4, (rd_T39 y521 bt524.1).f5, (rd_T39 y521 bt524.1).f6, (rd_T39 y521 bt524.1).f7⟩ : S39)), bt526.2)) else (none)) else (none)) else (none)) else (if bt526.1 = 2 then ((spec_l1Rd_pick.f k s0_0 bt526.2 2).bind fun bt534 => (spec_l5Spoil.l0 k y521 (wrap64 (12 + bt534.1)) 0 s0_0 bt534.2)) else (if 0 ≤ bt524.1 then (if bt524.1 < (y521.length : Int) then ((spec_l5SpoilPhase.f k s0_0 bt526.2 ((rd_T39 y521 bt524.1).f0) ((rd_T39 y521 bt524.1).f1) ((rd_T39 y521 bt524.1).f2) ((rd_T39 y521 bt524.1).f3) ((rd_T39 y521 bt524.1).f4) ((rd_T39 y521 bt524.1).f5) ((rd_T39 y521 bt524.1).f6) ((rd_T39 y521 bt524.1).f7)).bind fun bt553 => (some ((y521.set (bt524.1 : Int).toNat (⟨bt553.1, bt553.2.1, bt553.2.2.1, bt553.2.2.2.1, bt553.2.2.2.2.1, bt553.2.2.2.2.2.1, bt553.2.2.2.2.2.2.1, bt553.2.2.2.2.2.2.2.1⟩ : S39)), bt553.2.2.2.2.2.2.2.2))) else (none)) else (none)))))))) else (none))) = some (r1, r2) := h
 clear h
 obtain ⟨y518, hy518⟩ : ∃ y_ : List (S39), y_ = (([] : List (S39))) := ⟨_, rfl⟩
 replace H : (if y518.length + l1.length < 1353245080339 then ((some (y518 ++ l1 : List (S39))).bind fun y521 => ((spec_l1Rd_pick.f k s0_0 s0_1 (y521.length : Int)).bind fun bt524 => ((spec_l1Rd_pick.f k s0_0 bt524.2 6).bind fun bt526 => (if bt526.1 = 0 then (if 0 ≤ bt524.1 then (if bt524.1 < (y521.length : Int) then (if y521.length < 1353245080339 then (some ((y521 ++ [(⟨(rd_T39 y521 bt524.1).f0, (rd_T39 y521 bt524.1).f1, (rd_T39 y521 bt524.1).f2, (rd_T39 y521 bt524.1).f3, (rd_T39 y521 bt524.1).f4, (rd_T39 y521 bt524.1).f5, (rd_T39 y521 bt524.1).f6, (rd_T39 y521 bt524.1).f7⟩ : S39)]), bt526.2)) else (none)) else (none)) else (none)) else (if bt526.1 = 1 then (if 0 ≤ bt524.1 then (if bt524.1 < (y521.length : Int) then (if 0 < (y521.length : Int) then (some ((y521.set (0 : Int).toNat (⟨(rd_T39 y521 bt524.1).f0, (rd_T39 y521 bt524.1).f1, (rd_T39 y521 bt524.1).f2, (rd_T39 y521 bt524.1).f3, (rd_T39 y521 bt524.1).f4, (rd_T39 y521 bt524.1).f5, (rd_T39 y521 bt524.1).f6, (rd_T39 y521 bt524.1).f7⟩ : S39)), bt526.2)) else (none)) else (none)) else (none)) else (if bt526.1 = 2 then ((spec_l1Rd_pick.f k s0_0 bt526.2 2).bind fun bt534 => (spec_l5Spoil.l0 k y521 (wrap64 (12 + bt534.1)) 0 s0_0 bt534.2)) else (if 0 ≤ bt524.1 then (if bt524.1 < (y521.length : Int) then ((spec_l5SpoilPhase.f k s0_0 bt526.2 ((rd_T39 y521 bt524.1).f0) ((rd_T39 y521 bt524.1).f1) ((rd_T39 y521 bt524.1).f2) ((rd_T39 y521 bt524.1).f3) ((rd_T39 y521 bt524.1).f4) ((rd_T39 y521 bt524.1).f5) ((rd_T39 y521 bt524.1).f6) ((rd_T39 y521 bt524.1).f7)).bind fun bt553 => (some ((y521.set (bt524.1 : Int).toNat (⟨bt553.1, bt553.2.1, bt553.2.2.1, bt553.2.2.2.1, bt553.2.2.2.2.1, bt553.2.2.2.2.2.1, bt553.2.2.2.2.2.2.1, bt553.2.2.2.2.2.2.2.1⟩ : S39)), bt553.2.2.2.2.2.2.2.2))) else (none)) else (none)))))))) else (none)) = some (r1, r2) := by first | (rw [hy518]; with_reducible exact H) | (have H2_ := (Option.bind_some _ _).symm.trans H; rw [hy518]; with_reducible exact H2_) | (have H2_ := (Option.bind_some _ _).symm.trans H; with_reducible exact H2_) | with_reducible exact H | (rw [hy518]; exact H) | exact H
 have Ny518 := Aside0.mk hy518
 clear hy518
 by_cases c3 : y518.length + l1.length < 1353245080339
 ·rw [if_pos c3] at H
  have LMc3 := Aside0.mk c3
  clear c3
  obtain ⟨y521, hy521⟩ : ∃ y_ : List (S39), y_ = (y518 ++ l1) := ⟨_, rfl⟩
  replace H : ((spec_l1Rd_pick.f k s0_0 s0_1 (y521.length : Int)).bind fun bt524 => ((spec_l1Rd_pick.f k s0_0 bt524.2 6).bind fun bt526 => (if bt526.1 = 0 then (if 0 ≤ bt524.1 then (if bt524.1 < (y521.length : Int) then (if y521.length < 1353245080339 then (some ((y521 ++ [(⟨(rd_T39 y521 bt524.1).f0, (rd_T39 y521 bt524.1).f1, (rd_T39 y521 bt524.1).f2, (rd_T39 y521 bt524.1).f3, (rd_T39 y521 bt524.1).f4, (rd_T39 y521 bt524.1).f5, (rd_T39 y521 bt524.1).f6, (rd_T39 y521 bt524.1).f7⟩ : S39)]), bt526.2)) else (none)) else (none)) else (none)) else (if bt526.1 = 1 then (if 0 ≤ bt524.1 then (if bt524.1 < (y521.length : Int) then (if 0 < (y521.length : Int) then (some ((y521.set (0 : Int).toNat (⟨(rd_T39 y521 bt524.1).f0, (rd_T39 y521 bt524.1).f1, (rd_T39 y521 bt524.1).f2, (rd_T39 y521 bt524.1).f3, (rd_T39 y521 bt524.1).f4, (rd_T39 y521 bt524.1).f5, (rd_T39 y521 bt524.1).f6, (rd_T39 y521 bt524.1).f7⟩ : S39)), bt526.2)) else (none)) else (none)) else (none)) else (if bt526.1 = 2 then ((spec_l1Rd_pick.f k s0_0 bt526.2 2).bind fun bt534 => (spec_l5Spoil.l0 k y521 (wrap64 (12 + bt534.1)) 0 s0_0 bt534.2)) else (if 0 ≤ bt524.1 then (if bt524.1 < (y521.length : Int) then ((spec_l5SpoilPhase.f k s0_0 bt526.2 ((rd_T39 y521 bt524.1).f0) ((rd_T39 y521 bt524.1).f1) ((rd_T39 y521 bt524.1).f2) ((rd_T39 y521 bt524.1).f3) ((rd_T39 y521 bt524.1).f4) ((rd_T39 y521 bt524.1).f5) ((rd_T39 y521 bt524.1).f6) ((rd_T39 y521 bt524.1).f7)).bind fun bt553 => (some ((y521.set (bt524.1 : Int).toNat (⟨bt553.1, bt553.2.1, bt553.2.2.1, bt553.2.2.2.1, bt553.2.2.2.2.1, bt553.2.2.2.2.2.1, bt553.2.2.2.2.2.2.1, bt553.2.2.2.2.2.2.2.1⟩ : S39)), bt553.2.2.2.2.2.2.2.2))) else (none)) else (none))))))) = some (r1, r2) := by first | (rw [hy521]; with_reducible exact H) | (have H2_ := (Option.bind_some _ _).symm.trans H; rw [hy521]; with_reducible exact H2_) | (have H2_ := (Option.bind_some _ _).symm.trans H; with_reducible exact H2_) | with_reducible exact H | (rw [hy521]; exact H) | exact H
  have Ny521 := Aside0.mk hy521
  clear hy521
  replace H := Option.bind_eq_some_iff.mp H
  obtain ⟨⟨t524, t525⟩, A40, H⟩ := H
  replace H : ((spec_l1Rd_pick.f k s0_0 t525 6).bind fun bt526 => (if bt526.1 = 0 then (if 0 ≤ t524 then (if t524 < (y521.length : Int) then (if y521.length < 1353245080339 then (some ((y521 ++ [(⟨(rd_T39 y521 t524).f0, (rd_T39 y521 t524).f1, (rd_T39 y521 t524).f2, (rd_T39 y521 t524).f3, (rd_T39 y521 t524).f4, (rd_T39 y521 t524).f5, (rd_T39 y521 t524).f6, (rd_T39 y521 t524).f7⟩ : S39)]), bt526.2)) else (none)) else (none)) else (none)) else (if bt526.1 = 1 then (if 0 ≤ t524 then (if t524 < (y521.length : Int) then (if 0 < (y521.length : Int) then (some ((y521.set (0 : Int).toNat (⟨(rd_T39 y521 t524).f0, (rd_T39 y521 t524).f1, (rd_T39 y521 t524).f2, (rd_T39 y521 t524).f3, (rd_T39 y521 t524).f4, (rd_T39 y521 t524).f5, (rd_T39 y521 t524).f6, (rd_T39 y521 t524).f7⟩ : S39)), bt526.2)) else (none)) else (none)) else (none)) else (if bt526.1 = 2 then ((spec_l1Rd_pick.f k s0_0 bt526.2 2).bind fun bt534 => (spec_l5Spoil.l0 k y521 (wrap64 (12 + bt534.1)) 0 s0_0 bt534.2)) else (if 0 ≤ t524 then (if t524 < (y521.length : Int) then ((spec_l5SpoilPhase.f k s0_0 bt526.2 ((rd_T39 y521 t524).f0) ((rd_T39 y521 t524).f1) ((rd_T39 y521 t524).f2) ((rd_T39 y521 t524).f3) ((rd_T39 y521 t524).f4) ((rd_T39 y521 t524).f5) ((rd_T39 y521 t524).f6) ((rd_T39 y521 t524).f7)).bind fun bt553 => (some ((y521.set (t524 : Int).toNat (⟨bt553.1, bt553.2.1, bt553.2.2.1, bt553.2.2.2.1, bt553.2.2.2.2.1, bt553.2.2.2.2.2.1, bt553.2.2.2.2.2.2.1, bt553.2.2.2.2.2.2.2.1⟩ : S39)), bt553.2.2.2.2.2.2.2.2))) else (none)) else (none)))))) = some (r1, r2) := H
  have A4 := Aside0.mk A40
  clear A40
  replace H := Option.bind_eq_some_iff.mp H
  obtain ⟨⟨t526, t527⟩, A50, H⟩ := H
  replace H : (if t526 = 0 then (if 0 ≤ t524 then (if t524 < (y521.length : Int) then (if y521.length < 1353245080339 then (some ((y521 ++ [(⟨(rd_T39 y521 t524).f0, (rd_T39 y521 t524).f1, (rd_T39 y521 t524).f2, (rd_T39 y521 t524).f3, (rd_T39 y521 t524).f4, (rd_T39 y521 t524).f5, (rd_T39 y521 t524).f6, (rd_T39 y521 t524).f7⟩ : S39)]), t527)) else (none)) else (none)) else (none)) else (if t526 = 1 then (if 0 ≤ t524 then (if t524 < (y521.length : Int) then (if 0 < (y521.length : Int) then (some ((y521.set (0 : Int).toNat (⟨(rd_T39 y521 t524).f0, (rd_T39 y521 t524).f1, (rd_T39 y521 t524).f2, (rd_T39 y521 t524).f3, (rd_T39 y521 t524).f4, (rd_T39 y521 t524).f5, (rd_T39 y521 t524).f6, (rd_T39 y521 t524).f7⟩ : S39)), t527)) else (none)) else (none)) else (none)) else (if t526 = 2 then ((spec_l1Rd_pick.f k s0_0 t527 2).bind fun bt534 => (spec_l5Spoil.l0 k y521 (wrap64 (12 + bt534.1)) 0 s0_0 bt534.2)) else (if 0 ≤ t524 then (if t524 < (y521.length : Int) then ((spec_l5SpoilPhase.f k s0_0 t527 ((rd_T39 y521 t524).f0) ((rd_T39 y521 t524).f1) ((rd_T39 y521 t524).f2) ((rd_T39 y521 t524).f3) ((rd_T39 y521 t524).f4) ((rd_T39 y521 t524).f5) ((rd_T39 y521 t524).f6) ((rd_T39 y521 t524).f7)).bind fun bt553 => (some ((y521.set (t524 : Int).toNat (⟨bt553.1, bt553.2.1, bt553.2.2.1, bt553.2.2.2.1, bt553.2.2.2.2.1, bt553.2.2.2.2.2.1, bt553.2.2.2.2.2.2.1, bt553.2.2.2.2.2.2.2.1⟩ : S39)), bt553.2.2.2.2.2.2.2.2))) else (none)) else (none))))) = some (r1, r2) := H
  have A5 := Aside0.mk A50
  clear A50
  by_cases c6 : t526 = 0
  ·rw [if_pos c6] at H
   have c6b0 : (t526 == 0) = true := beq_iff_eq.mpr c6
   have c6b1 : (t526 != 0) = false := bne_eq_false_iff_eq.mpr c6
   clear c6
   by_cases c7 : 0 ≤ t524
   ·rw [if_pos c7] at H
    have c7b0 : decide (0 ≤ t524) = true := decide_eq_true c7
    clear c7
    by_cases c8 : t524 < (y521.length : Int)
    ·rw [if_pos c8] at H
     have c8b0 : decide (t524 < (y521.length : Int)) = true := decide_eq_true c8
     clear c8
     by_cases c9 : y521.length < 1353245080339
     ·rw [if_pos c9] at H
      have LMc9 := Aside0.mk c9
      clear c9
      obtain ⟨y529, hy529⟩ : ∃ y_ : List (S39), y_ = (y521 ++ [(⟨(rd_T39 y521 t524).f0, (rd_T39 y521 t524).f1, (rd_T39 y521 t524).f2, (rd_T39 y521 t524).f3, (rd_T39 y521 t524).f4, (rd_T39 y521 t524).f5, (rd_T39 y521 t524).f6, (rd_T39 y521 t524).f7⟩ : S39)]) := ⟨_, rfl⟩
      replace H : (some (y529, t527)) = some (r1, r2) := by first | (rw [hy529]; with_reducible exact H) | (have H2_ := (Option.bind_some _ _).symm.trans H; rw [hy529]; with_reducible exact H2_) | (have H2_ := (Option.bind_some _ _).symm.trans H; with_reducible exact H2_) | with_reducible exact H | (rw [hy529]; exact H) | exact H
      have Ny529 := Aside0.mk hy529
      clear hy529
      simp only [Option.some.injEq, Prod.mk.injEq] at H
      obtain ⟨rfl, rfl⟩ := H
      go_enter Try.func94, Try.ntmps94
      go_wp2_with (first | ((with_reducible refine gate_dst (N := 9) rfl ?_); refine Kd.R_lit k39 _ 39 ?hg (N := 9) ?hd (xs := ([] : List (S39))) (inner := []) (ok := fun _ => True) (okp := fun _ => True) ?hr ?hp (fun _ hk => hk) trivial (Below.refl _ _) (Nat.le_refl _) (by simp) ?_; (case hd => rfl); (case hg => rfl); (case hr => first | (go_simp; done) | (go_simp; rfl)); (case hp => exact (Reps.none _ _)); intro v519 w10 ho11 hb hg_ hnew_; clear hg_ hnew_; (first | rw [← Ny518.out] at ho11 | (simp only [Int.reduceToNat] at ho11; rw [← Ny518.out] at ho11)); have n0_ := Aside0.mk (Kd.R_lower ho11 (keep_size (w := w) (g := g) (row := none) (kb HK.out))); have n1_ := Aside0.mk (IsS107.below (ib HI0.out) hb); have n2_ := kt HK (KeepBut.of_below hb g none); have n3_ := bsi HB hb; clear HI0; clear HK; clear HB; have HO520 := n0_; have HI0 := n1_; have HK := n2_; have HB := n3_; clear n0_ n1_ n2_ n3_; clear hb ho11) | ((with_reducible refine gate_builtin (b := .append) (xs := #[.tmp 9, .tmp 10]) rfl ?_); at_builtin; refine Kd.R_append_rows k39 w.heap.size rfl (.tmp 9) (.tmp 10) 26 39 (.agg #[(.string ⟨#[]⟩), (.int .i64 0), (.string ⟨#[]⟩), (.string ⟨#[]⟩), (.int .i64 0), (.int .i64 0), (.string ⟨#[]⟩), (.string ⟨#[]⟩)]) 104 rfl Try.underlying26 info39 rfl (by decide) (by omega) v519 y518 l1 _ _ _ (fun _ => True) (fun _ => False) rfl rfl ?aO ?aR (fun _ _ h => h) (fun _ h => h.elim) ?aF (Below.refl _ _) ?aS ?aL ?_; (case aR => exact Kd.C_foot_now HR1.out (kb HK.out)); (case aF => exact (fun _ _ => trivial)); (case aO => exact (rx HO520.out)); (case aS => exact (keep_size (w := w) (g := g) (row := none) (kb HK.out))); (case aL => have := LMc3.out; omega); intro v522 w12 ho hb hg hat; rw [← Ny521.out] at ho; have n0_ := Aside0.mk (IsS107.grown (ib HI0.out) hg (IsS107.own_ne HI0.out HO520.out (by decide))); have n1_ := Aside0.mk (below_weaken (bi HB.out) HL.out hb); have n2_ := Aside0.mk (KeepBut.trans (kb HK.out) (KeepBut.of_grown hg g) (Kd.R_base2 HO520.out)); have n3_ := Aside0.mk (ho); clear HI0; clear HB; clear HK; clear HO520; have HI0 := n0_; have HB := n1_; have HK := n2_; have HO523 := n3_; clear n0_ n1_ n2_ n3_; clear ho hb hg hat; obtain ⟨Ao13, co13, eo13⟩ := Kd.R_slice HO523.out; subst eo13) | ((with_reducible refine gate_callee (f := 64) rfl ?_); refine goesL_ (some 15) rfl rfl Try.func64 (by kernel_rfl) rfl #[.pointer (some ⟨g, 0, none⟩), .int .i64 (y521.length : Int)] rfl mxp ?_; (with_reducible refine (spec_l1Rd_pick.calls k g s0_0 s0_1 (y521.length : Int) t524 t525 w0 _ ?side1 ?side2 A4.out).mono ?_); (case side1 => exact ib HI0.out); (case side2 => exact bi HB.out); rintro e w14 ⟨rfl, hi, hb, hk⟩; refine ⟨_, rfl, ?_⟩; have n0_ := Aside0.mk (Kd.R_mono (Kd.R_keep (IsS107.apart (show IsS107 w0 _ g s0_0 s0_1 from ib HI0.out) (rx HO523.out) (by decide)) hk (fun _ h => h.2)) (fun _ h => h.1)); have n1_ := kt HK hk; have n2_ := Aside0.mk (hb); have n3_ := Aside0.mk (hi); clear HO523; clear HK; clear HB; clear HI0; have HO523 := n0_; have HK := n1_; have HB := n2_; have HI0 := n3_; clear n0_ n1_ n2_ n3_; (try clear hb); (try clear hb2); (try clear hk); (try clear hi)) | ((with_reducible refine gate_callee (f := 64) rfl ?_); refine goesL_ (some 17) rfl rfl Try.func64 (by kernel_rfl) rfl #[.pointer (some ⟨g, 0, none⟩), .int .i64 6] rfl mxp ?_; (with_reducible refine (spec_l1Rd_pick.calls k g s0_0 t525 6 t526 t527 w0 _ ?side1 ?side2 A5.out).mono ?_); (case side1 => exact ib HI0.out); (case side2 => exact bi HB.out); rintro e w15 ⟨rfl, hi, hb, hk⟩; refine ⟨_, rfl, ?_⟩; have n0_ := Aside0.mk (Kd.R_mono (Kd.R_keep (IsS107.apart (show IsS107 w0 _ g s0_0 t525 from ib HI0.out) (rx HO523.out) (by decide)) hk (fun _ h => h.2)) (fun _ h => h.1)); have n1_ := kt HK hk; have n2_ := Aside0.mk (hb); have n3_ := Aside0.mk (hi); clear HO523; clear HK; clear HB; clear HI0; have HO523 := n0_; have HK := n1_; have HB := n2_; have HI0 := n3_; clear n0_ n1_ n2_ n3_; (try clear hb); (try clear hb2); (try clear hk); (try clear hi); have p528 : 0 ≤ (t524 : Int) := oda; have q528 : t524 < (y521.length : Int) := oda; obtain ⟨ad528, e528, hx528_0, hx528_1, hx528_2, hx528_3, hx528_4, hx528_5, hx528_6, hx528_7⟩ := at_T39 (Kd.R_reads' HO523.out).2.2 t524 p528 q528; cases e528; replace p528 := eq_true p528; replace q528 := eq_true q528) | ((with_reducible refine gate_builtin (b := .append) (xs := #[.tmp 29, .tmp 34]) rfl ?_); at_builtin; refine Kd.R_append k39 w.heap.size rfl (.tmp 29) (.tmp 34) 26 39 (.agg #[(.string ⟨#[]⟩), (.int .i64 0), (.string ⟨#[]⟩), (.string ⟨#[]⟩), (.int .i64 0), (.int .i64 0), (.string ⟨#[]⟩), (.string ⟨#[]⟩)]) 104 rfl Try.underlying26 info39 rfl (by decide) (by omega) (.slice (some ad528) y521.length co13) y521 (⟨(rd_T39 y521 t524).f0, (rd_T39 y521 t524).f1, (rd_T39 y521 t524).f2, (rd_T39 y521 t524).f3, (rd_T39 y521 t524).f4, (rd_T39 y521 t524).f5, (rd_T39 y521 t524).f6, (rd_T39 y521 t524).f7⟩ : S39) [.string ((rd_T39 y521 t524).f0), .int .i64 ((rd_T39 y521 t524).f1), .string ((rd_T39 y521 t524).f2), .string ((rd_T39 y521 t524).f3), .int .i64 ((rd_T39 y521 t524).f4), .int .i64 ((rd_T39 y521 t524).f5), .string ((rd_T39 y521 t524).f6), .string ((rd_T39 y521 t524).f7)] (fun _ => True) (fun _ => False) rfl rfl ?aP (fun _ hk => hk.elim) ?aF ?aO (Below.refl _ _) ?aS ?aL ?_; (case aP => exact k39_mkM _ _ _ (⟨(rd_T39 y521 t524).f0, (rd_T39 y521 t524).f1, (rd_T39 y521 t524).f2, (rd_T39 y521 t524).f3, (rd_T39 y521 t524).f4, (rd_T39 y521 t524).f5, (rd_T39 y521 t524).f6, (rd_T39 y521 t524).f7⟩ : S39)); (case aF => exact (fun _ _ => trivial)); (case aO => exact (rx HO523.out)); (case aS => exact (keep_size (w := w) (g := g) (row := none) (kb HK.out))); (case aL => have := LMc9.out; omega); intro v530 w16 ho hb hg hat; rw [← Ny529.out] at ho; have n0_ := Aside0.mk (IsS107.grown (ib HI0.out) hg (IsS107.own_ne HI0.out HO523.out (by decide))); have n1_ := Aside0.mk (below_weaken (bi HB.out) HL.out hb); have n2_ := Aside0.mk (KeepBut.trans (kb HK.out) (KeepBut.of_grown hg g) (Kd.R_base2 HO523.out)); have n3_ := Aside0.mk (ho); clear HI0; clear HB; clear HK; clear HO523; have HI0 := n0_; have HB := n1_; have HK := n2_; have HO531 := n3_; clear n0_ n1_ n2_ n3_; clear ho hb hg hat))
      go_ret
      exact ⟨_, exq, by refine rx ?_; exact HO531.out, ib HI0.out, bi HB.out, kb HK.out⟩
     ·rw [if_neg c9] at H
      exact absurd H (by simp)
    ·rw [if_neg c8] at H
     exact absurd H (by simp)
   ·rw [if_neg c7] at H
    exact absurd H (by simp)
  ·rw [if_neg c6] at H
   have c6b0 : (t526 == 0) = false := beq_eq_false_iff_ne.mpr c6
   have c6b1 : (t526 != 0) = true := bne_iff_ne.mpr c6
   by_cases c17 : t526 = 1
   ·rw [if_pos c17] at H
    have c17b0 : (t526 == 1) = true := beq_iff_eq.mpr c17
    have c17b1 : (t526 != 1) = false := bne_eq_false_iff_eq.mpr c17
    clear c17
    by_cases c18 : 0 ≤ t524
    ·rw [if_pos c18] at H
     have c18b0 : decide (0 ≤ t524) = true := decide_eq_true c18
     clear c18
     by_cases c19 : t524 < (y521.length : Int)
     ·rw [if_pos c19] at H
      have c19b0 : decide (t524 < (y521.length : Int)) = true := decide_eq_true c19
      clear c19
      by_cases c20 : 0 < (y521.length : Int)
      ·rw [if_pos c20] at H
       have c20b0 : decide (0 < (y521.length : Int)) = true := decide_eq_true c20
       have c20b1 : decide (0 < y521.length) = true := decide_eq_true (by omega)
       clear c20
       obtain ⟨y533, hy533⟩ : ∃ y_ : List (S39), y_ = (y521.set (0 : Int).toNat (⟨(rd_T39 y521 t524).f0, (rd_T39 y521 t524).f1, (rd_T39 y521 t524).f2, (rd_T39 y521 t524).f3, (rd_T39 y521 t524).f4, (rd_T39 y521 t524).f5, (rd_T39 y521 t524).f6, (rd_T39 y521 t524).f7⟩ : S39)) := ⟨_, rfl⟩
       replace H : (some (y533, t527)) = some (r1, r2) := by first | (rw [hy533]; with_reducible exact H) | (have H2_ := (Option.bind_some _ _).symm.trans H; rw [hy533]; with_reducible exact H2_) | (have H2_ := (Option.bind_some _ _).symm.trans H; with_reducible exact H2_) | with_reducible exact H | (rw [hy533]; exact H) | exact H
       have Ny533 := Aside0.mk hy533
       clear hy533
       simp only [Option.some.injEq, Prod.mk.injEq] at H
       obtain ⟨rfl, rfl⟩ := H
       go_enter Try.func94, Try.ntmps94
       go_wp2_with (first | ((with_reducible refine gate_dst (N := 9) rfl ?_); refine Kd.R_lit k39 _ 39 ?hg (N := 9) ?hd (xs := ([] : List (S39))) (inner := []) (ok := fun _ => True) (okp := fun _ => True) ?hr ?hp (fun _ hk => hk) trivial (Below.refl _ _) (Nat.le_refl _) (by simp) ?_; (case hd => rfl); (case hg => rfl); (case hr => first | (go_simp; done) | (go_simp; rfl)); (case hp => exact (Reps.none _ _)); intro v519 w22 ho23 hb hg_ hnew_; clear hg_ hnew_; (first | rw [← Ny518.out] at ho23 | (simp only [Int.reduceToNat] at ho23; rw [← Ny518.out] at ho23)); have n0_ := Aside0.mk (Kd.R_lower ho23 (keep_size (w := w) (g := g) (row := none) (kb HK.out))); have n1_ := Aside0.mk (IsS107.below (ib HI0.out) hb); have n2_ := kt HK (KeepBut.of_below hb g none); have n3_ := bsi HB hb; clear HI0; clear HK; clear HB; have HO520 := n0_; have HI0 := n1_; have HK := n2_; have HB := n3_; clear n0_ n1_ n2_ n3_; clear hb ho23) | ((with_reducible refine gate_builtin (b := .append) (xs := #[.tmp 9, .tmp 10]) rfl ?_); at_builtin; refine Kd.R_append_rows k39 w.heap.size rfl (.tmp 9) (.tmp 10) 26 39 (.agg #[(.string ⟨#[]⟩), (.int .i64 0), (.string ⟨#[]⟩), (.string ⟨#[]⟩), (.int .i64 0), (.int .i64 0), (.string ⟨#[]⟩), (.string ⟨#[]⟩)]) 104 rfl Try.underlying26 info39 rfl (by decide) (by omega) v519 y518 l1 _ _ _ (fun _ => True) (fun _ => False) rfl rfl ?aO ?aR (fun _ _ h => h) (fun _ h => h.elim) ?aF (Below.refl _ _) ?aS ?aL ?_; (case aR => exact Kd.C_foot_now HR1.out (kb HK.out)); (case aF => exact (fun _ _ => trivial)); (case aO => exact (rx HO520.out)); (case aS => exact (keep_size (w := w) (g := g) (row := none) (kb HK.out))); (case aL => have := LMc3.out; omega); intro v522 w24 ho hb hg hat; rw [← Ny521.out] at ho; have n0_ := Aside0.mk (IsS107.grown (ib HI0.out) hg (IsS107.own_ne HI0.out HO520.out (by decide))); have n1_ := Aside0.mk (below_weaken (bi HB.out) HL.out hb); have n2_ := Aside0.mk (KeepBut.trans (kb HK.out) (KeepBut.of_grown hg g) (Kd.R_base2 HO520.out)); have n3_ := Aside0.mk (ho); clear HI0; clear HB; clear HK; clear HO520; have HI0 := n0_; have HB := n1_; have HK := n2_; have HO523 := n3_; clear n0_ n1_ n2_ n3_; clear ho hb hg hat; obtain ⟨Ao25, co25, eo25⟩ := Kd.R_slice HO523.out; subst eo25) | ((with_reducible refine gate_callee (f := 64) rfl ?_); refine goesL_ (some 15) rfl rfl Try.func64 (by kernel_rfl) rfl #[.pointer (some ⟨g, 0, none⟩), .int .i64 (y521.length : Int)] rfl mxp ?_; (with_reducible refine (spec_l1Rd_pick.calls k g s0_0 s0_1 (y521.length : Int) t524 t525 w0 _ ?side1 ?side2 A4.out).mono ?_); (case side1 => exact ib HI0.out); (case side2 => exact bi HB.out); rintro e w26 ⟨rfl, hi, hb, hk⟩; refine ⟨_, rfl, ?_⟩; have n0_ := Aside0.mk (Kd.R_mono (Kd.R_keep (IsS107.apart (show IsS107 w0 _ g s0_0 s0_1 from ib HI0.out) (rx HO523.out) (by decide)) hk (fun _ h => h.2)) (fun _ h => h.1)); have n1_ := kt HK hk; have n2_ := Aside0.mk (hb); have n3_ := Aside0.mk (hi); clear HO523; clear HK; clear HB; clear HI0; have HO523 := n0_; have HK := n1_; have HB := n2_; have HI0 := n3_; clear n0_ n1_ n2_ n3_; (try clear hb); (try clear hb2); (try clear hk); (try clear hi)) | ((with_reducible refine gate_callee (f := 64) rfl ?_); refine goesL_ (some 17) rfl rfl Try.func64 (by kernel_rfl) rfl #[.pointer (some ⟨g, 0, none⟩), .int .i64 6] rfl mxp ?_; (with_reducible refine (spec_l1Rd_pick.calls k g s0_0 t525 6 t526 t527 w0 _ ?side1 ?side2 A5.out).mono ?_); (case side1 => exact ib HI0.out); (case side2 => exact bi HB.out); rintro e w27 ⟨rfl, hi, hb, hk⟩; refine ⟨_, rfl, ?_⟩; have n0_ := Aside0.mk (Kd.R_mono (Kd.R_keep (IsS107.apart (show IsS107 w0 _ g s0_0 t525 from ib HI0.out) (rx HO523.out) (by decide)) hk (fun _ h => h.2)) (fun _ h => h.1)); have n1_ := kt HK hk; have n2_ := Aside0.mk (hb); have n3_ := Aside0.mk (hi); clear HO523; clear HK; clear HB; clear HI0; have HO523 := n0_; have HK := n1_; have HB := n2_; have HI0 := n3_; clear n0_ n1_ n2_ n3_; (try clear hb); (try clear hb2); (try clear hk); (try clear hi); have p532 : 0 ≤ (t524 : Int) := oda; have q532 : t524 < (y521.length : Int) := oda; obtain ⟨ad532, e532, hx532_0, hx532_1, hx532_2, hx532_3, hx532_4, hx532_5, hx532_6, hx532_7⟩ := at_T39 (Kd.R_reads' HO523.out).2.2 t524 p532 q532; cases e532; replace p532 := eq_true p532; replace q532 := eq_true q532; have p21 : 0 ≤ (0 : Int) := (by omega); have q21 : (0 : Int) < ((y521.length : Int) : Int) := oda; have qi21 : (0 < y521.length) = True := eq_true (by omega); obtain ⟨go21, co21, eo21, gb21, gl21, cl21, HG21⟩ := Kd.R_form HO523.out (by omega); (first | cases eo21 | (injection eo21 with ea_ en_ ec_; (first | subst ea_ | (injection ea_ with ea_; subst ea_)); subst ec_; clear en_)); have GB21 := Aside0.mk gb21; have GG21 := Aside0.mk HG21; clear gb21 gl21 HG21; (first | simp only [add_plain] at hx532_0 | skip); (first | simp only [add_plain] at hx532_1 | skip); (first | simp only [add_plain] at hx532_2 | skip); (first | simp only [add_plain] at hx532_3 | skip); (first | simp only [add_plain] at hx532_4 | skip); (first | simp only [add_plain] at hx532_5 | skip); (first | simp only [add_plain] at hx532_6 | skip); (first | simp only [add_plain] at hx532_7 | skip); obtain ⟨ce21, hcl21, hM21, hcc21, hfr21⟩ := Kd.R_elem HO523.out z39 (0 : Int) p21 q21; obtain rfl := k39_openM hM21; have hx21_0 : w27.cell? ⟨go21, (0 : Int).toNat * 8, none⟩ = some (.string ((rd_T39 y521 0).f0)) := hcc21 0 _ rfl; have hx21_1 : w27.cell? ⟨go21, (0 : Int).toNat * 8 + 1, none⟩ = some (.int .i64 ((rd_T39 y521 0).f1)) := hcc21 1 _ rfl; have hx21_2 : w27.cell? ⟨go21, (0 : Int).toNat * 8 + 2, none⟩ = some (.string ((rd_T39 y521 0).f2)) := hcc21 2 _ rfl; have hx21_3 : w27.cell? ⟨go21, (0 : Int).toNat * 8 + 3, none⟩ = some (.string ((rd_T39 y521 0).f3)) := hcc21 3 _ rfl; have hx21_4 : w27.cell? ⟨go21, (0 : Int).toNat * 8 + 4, none⟩ = some (.int .i64 ((rd_T39 y521 0).f4)) := hcc21 4 _ rfl; have hx21_5 : w27.cell? ⟨go21, (0 : Int).toNat * 8 + 5, none⟩ = some (.int .i64 ((rd_T39 y521 0).f5)) := hcc21 5 _ rfl; have hx21_6 : w27.cell? ⟨go21, (0 : Int).toNat * 8 + 6, none⟩ = some (.string ((rd_T39 y521 0).f6)) := hcc21 6 _ rfl; have hx21_7 : w27.cell? ⟨go21, (0 : Int).toNat * 8 + 7, none⟩ = some (.string ((rd_T39 y521 0).f7)) := hcc21 7 _ rfl; have hf21_0 : w27.frozen? ⟨go21, (0 : Int).toNat * 8, none⟩ = false := hfr21 0; have hf21_1 : w27.frozen? ⟨go21, (0 : Int).toNat * 8 + 1, none⟩ = false := hfr21 1; have hf21_2 : w27.frozen? ⟨go21, (0 : Int).toNat * 8 + 2, none⟩ = false := hfr21 2; have hf21_3 : w27.frozen? ⟨go21, (0 : Int).toNat * 8 + 3, none⟩ = false := hfr21 3; have hf21_4 : w27.frozen? ⟨go21, (0 : Int).toNat * 8 + 4, none⟩ = false := hfr21 4; have hf21_5 : w27.frozen? ⟨go21, (0 : Int).toNat * 8 + 5, none⟩ = false := hfr21 5; have hf21_6 : w27.frozen? ⟨go21, (0 : Int).toNat * 8 + 6, none⟩ = false := hfr21 6; have hf21_7 : w27.frozen? ⟨go21, (0 : Int).toNat * 8 + 7, none⟩ = false := hfr21 7; clear hcl21 hcc21 hfr21 hM21; (try rw [show ((0 : Int)).toNat = 0 from rfl] at hx21_0); (try simp only [Nat.reduceMul, Nat.zero_mul, Nat.zero_add, Nat.reduceAdd] at hx21_0); (try rw [show ((0 : Int)).toNat = 0 from rfl] at hf21_0); (try simp only [Nat.reduceMul, Nat.zero_mul, Nat.zero_add, Nat.reduceAdd] at hf21_0); (try rw [show ((0 : Int)).toNat = 0 from rfl] at hx21_1); (try simp only [Nat.reduceMul, Nat.zero_mul, Nat.zero_add, Nat.reduceAdd] at hx21_1); (try rw [show ((0 : Int)).toNat = 0 from rfl] at hf21_1); (try simp only [Nat.reduceMul, Nat.zero_mul, Nat.zero_add, Nat.reduceAdd] at hf21_1); (try rw [show ((0 : Int)).toNat = 0 from rfl] at hx21_2); (try simp only [Nat.reduceMul, Nat.zero_mul, Nat.zero_add, Nat.reduceAdd] at hx21_2); (try rw [show ((0 : Int)).toNat = 0 from rfl] at hf21_2); (try simp only [Nat.reduceMul, Nat.zero_mul, Nat.zero_add, Nat.reduceAdd] at hf21_2); (try rw [show ((0 : Int)).toNat = 0 from rfl] at hx21_3); (try simp only [Nat.reduceMul, Nat.zero_mul, Nat.zero_add, Nat.reduceAdd] at hx21_3); (try rw [show ((0 : Int)).toNat = 0 from rfl] at hf21_3); (try simp only [Nat.reduceMul, Nat.zero_mul, Nat.zero_add, Nat.reduceAdd] at hf21_3); (try rw [show ((0 : Int)).toNat = 0 from rfl] at hx21_4); (try simp only [Nat.reduceMul, Nat.zero_mul, Nat.zero_add, Nat.reduceAdd] at hx21_4); (try rw [show ((0 : Int)).toNat = 0 from rfl] at hf21_4); (try simp only [Nat.reduceMul, Nat.zero_mul, Nat.zero_add, Nat.reduceAdd] at hf21_4); (try rw [show ((0 : Int)).toNat = 0 from rfl] at hx21_5); (try simp only [Nat.reduceMul, Nat.zero_mul, Nat.zero_add, Nat.reduceAdd] at hx21_5); (try rw [show ((0 : Int)).toNat = 0 from rfl] at hf21_5); (try simp only [Nat.reduceMul, Nat.zero_mul, Nat.zero_add, Nat.reduceAdd] at hf21_5); (try rw [show ((0 : Int)).toNat = 0 from rfl] at hx21_6); (try simp only [Nat.reduceMul, Nat.zero_mul, Nat.zero_add, Nat.reduceAdd] at hx21_6); (try rw [show ((0 : Int)).toNat = 0 from rfl] at hf21_6); (try simp only [Nat.reduceMul, Nat.zero_mul, Nat.zero_add, Nat.reduceAdd] at hf21_6); (try rw [show ((0 : Int)).toNat = 0 from rfl] at hx21_7); (try simp only [Nat.reduceMul, Nat.zero_mul, Nat.zero_add, Nat.reduceAdd] at hx21_7); (try rw [show ((0 : Int)).toNat = 0 from rfl] at hf21_7); (try simp only [Nat.reduceMul, Nat.zero_mul, Nat.zero_add, Nat.reduceAdd] at hf21_7); replace p21 := eq_true p21; replace q21 := eq_true q21; have HX28 := Aside0.mk (show Kd.R k39 39 w27 w.heap.size (fun _ => True) (.slice (some ⟨go21, 0, none⟩) y521.length co25) y521 from (rx HO523.out)); obtain ⟨ce28, hcl28, hM28, hcc28, hfr28⟩ := Kd.R_elem HX28.out z39 (0 : Int) (by omega) (by have h_ : (0 : Int) < ((y521.length : Int) : Int) := oda; first | exact h_ | (have e_ := (Kd.R_reads' HO523.out).1; omega) | simpa using h_); obtain rfl := k39_openM hM28; have HP28 := Kd.R_seg HX28.out (0 : Int) (by omega) (by have h_ : (0 : Int) < ((y521.length : Int) : Int) := oda; first | exact h_ | (have e_ := (Kd.R_reads' HO523.out).1; omega) | simpa using h_) (seg := [.string ((rd_T39 y521 t524).f0), .int .i64 ((rd_T39 y521 t524).f1), .string ((rd_T39 y521 t524).f2), .string ((rd_T39 y521 t524).f3), .int .i64 ((rd_T39 y521 t524).f4), .int .i64 ((rd_T39 y521 t524).f5), .string ((rd_T39 y521 t524).f6), .string ((rd_T39 y521 t524).f7)]) (j := 0) hcl28 hcc28 (show 8 ≤ 8 from by decide) (x' := (⟨(rd_T39 y521 t524).f0, (rd_T39 y521 t524).f1, (rd_T39 y521 t524).f2, (rd_T39 y521 t524).f3, (rd_T39 y521 t524).f4, (rd_T39 y521 t524).f5, (rd_T39 y521 t524).f6, (rd_T39 y521 t524).f7⟩ : S39)) (k39_mkM _ _ _ (⟨(rd_T39 y521 t524).f0, (rd_T39 y521 t524).f1, (rd_T39 y521 t524).f2, (rd_T39 y521 t524).f3, (rd_T39 y521 t524).f4, (rd_T39 y521 t524).f5, (rd_T39 y521 t524).f6, (rd_T39 y521 t524).f7⟩ : S39) ) (fun _ hk => hk); have hx28_0 := hcc28 0 _ rfl; (try simp only [show (k39).sz = 8 from rfl, Nat.mul_one, Nat.add_zero] at hx28_0); (try rw [show ((0 : Int)).toNat = 0 from rfl] at hx28_0); (try simp only [Nat.reduceMul, Nat.zero_mul, Nat.zero_add, Nat.reduceAdd] at hx28_0); have hf28_0 := hfr28 0; (try simp only [show (k39).sz = 8 from rfl, Nat.mul_one, Nat.add_zero] at hf28_0); (try rw [show ((0 : Int)).toNat = 0 from rfl] at hf28_0); (try simp only [Nat.reduceMul, Nat.zero_mul, Nat.zero_add, Nat.reduceAdd] at hf28_0); have hx28_1 := hcc28 1 _ rfl; (try simp only [show (k39).sz = 8 from rfl, Nat.mul_one, Nat.add_zero] at hx28_1); (try rw [show ((0 : Int)).toNat = 0 from rfl] at hx28_1); (try simp only [Nat.reduceMul, Nat.zero_mul, Nat.zero_add, Nat.reduceAdd] at hx28_1); have hf28_1 := hfr28 1; (try simp only [show (k39).sz = 8 from rfl, Nat.mul_one, Nat.add_zero] at hf28_1); (try rw [show ((0 : Int)).toNat = 0 from rfl] at hf28_1); (try simp only [Nat.reduceMul, Nat.zero_mul, Nat.zero_add, Nat.reduceAdd] at hf28_1); have hx28_2 := hcc28 2 _ rfl; (try simp only [show (k39).sz = 8 from rfl, Nat.mul_one, Nat.add_zero] at hx28_2); (try rw [show ((0 : Int)).toNat = 0 from rfl] at hx28_2); (try simp only [Nat.reduceMul, Nat.zero_mul, Nat.zero_add, Nat.reduceAdd] at hx28_2); have hf28_2 := hfr28 2; (try simp only [show (k39).sz = 8 from rfl, Nat.mul_one, Nat.add_zero] at hf28_2); (try rw [show ((0 : Int)).toNat = 0 from rfl] at hf28_2); (try simp only [Nat.reduceMul, Nat.zero_mul, Nat.zero_add, Nat.reduceAdd] at hf28_2); have hx28_3 := hcc28 3 _ rfl; (try simp only [show (k39).sz = 8 from rfl, Nat.mul_one, Nat.add_zero] at hx28_3); (try rw [show ((0 : Int)).toNat = 0 from rfl] at hx28_3); (try simp only [Nat.reduceMul, Nat.zero_mul, Nat.zero_add, Nat.reduceAdd] at hx28_3); have hf28_3 := hfr28 3; (try simp only [show (k39).sz = 8 from rfl, Nat.mul_one, Nat.add_zero] at hf28_3); (try rw [show ((0 : Int)).toNat = 0 from rfl] at hf28_3); (try simp only [Nat.reduceMul, Nat.zero_mul, Nat.zero_add, Nat.reduceAdd] at hf28_3); have hx28_4 := hcc28 4 _ rfl; (try simp only [show (k39).sz = 8 from rfl, Nat.mul_one, Nat.add_zero] at hx28_4); (try rw [show ((0 : Int)).toNat = 0 from rfl] at hx28_4); (try simp only [Nat.reduceMul, Nat.zero_mul, Nat.zero_add, Nat.reduceAdd] at hx28_4); have hf28_4 := hfr28 4; (try simp only [show (k39).sz = 8 from rfl, Nat.mul_one, Nat.add_zero] at hf28_4); (try rw [show ((0 : Int)).toNat = 0 from rfl] at hf28_4); (try simp only [Nat.reduceMul, Nat.zero_mul, Nat.zero_add, Nat.reduceAdd] at hf28_4); have hx28_5 := hcc28 5 _ rfl; (try simp only [show (k39).sz = 8 from rfl, Nat.mul_one, Nat.add_zero] at hx28_5); (try rw [show ((0 : Int)).toNat = 0 from rfl] at hx28_5); (try simp only [Nat.reduceMul, Nat.zero_mul, Nat.zero_add, Nat.reduceAdd] at hx28_5); have hf28_5 := hfr28 5; (try simp only [show (k39).sz = 8 from rfl, Nat.mul_one, Nat.add_zero] at hf28_5); (try rw [show ((0 : Int)).toNat = 0 from rfl] at hf28_5); (try simp only [Nat.reduceMul, Nat.zero_mul, Nat.zero_add, Nat.reduceAdd] at hf28_5); have hx28_6 := hcc28 6 _ rfl; (try simp only [show (k39).sz = 8 from rfl, Nat.mul_one, Nat.add_zero] at hx28_6); (try rw [show ((0 : Int)).toNat = 0 from rfl] at hx28_6); (try simp only [Nat.reduceMul, Nat.zero_mul, Nat.zero_add, Nat.reduceAdd] at hx28_6); have hf28_6 := hfr28 6; (try simp only [show (k39).sz = 8 from rfl, Nat.mul_one, Nat.add_zero] at hf28_6); (try rw [show ((0 : Int)).toNat = 0 from rfl] at hf28_6); (try simp only [Nat.reduceMul, Nat.zero_mul, Nat.zero_add, Nat.reduceAdd] at hf28_6); have hx28_7 := hcc28 7 _ rfl; (try simp only [show (k39).sz = 8 from rfl, Nat.mul_one, Nat.add_zero] at hx28_7); (try rw [show ((0 : Int)).toNat = 0 from rfl] at hx28_7); (try simp only [Nat.reduceMul, Nat.zero_mul, Nat.zero_add, Nat.reduceAdd] at hx28_7); have hf28_7 := hfr28 7; (try simp only [show (k39).sz = 8 from rfl, Nat.mul_one, Nat.add_zero] at hf28_7); (try rw [show ((0 : Int)).toNat = 0 from rfl] at hf28_7); (try simp only [Nat.reduceMul, Nat.zero_mul, Nat.zero_add, Nat.reduceAdd] at hf28_7); clear hcl28 hcc28 hfr28 hM28) | ((with_reducible refine gate_store (t := 39) (p := 43) rfl ?_); refine store_event (t := 39) (p := 43) (v := ?vo_w29) (w1 := ((((((((w27.setCell ⟨go21, 0, none⟩ (.string ((rd_T39 y521 t524).f0))).setCell ⟨go21, 1, none⟩ (.int .i64 ((rd_T39 y521 t524).f1))).setCell ⟨go21, 2, none⟩ (.string ((rd_T39 y521 t524).f2))).setCell ⟨go21, 3, none⟩ (.string ((rd_T39 y521 t524).f3))).setCell ⟨go21, 4, none⟩ (.int .i64 ((rd_T39 y521 t524).f4))).setCell ⟨go21, 5, none⟩ (.int .i64 ((rd_T39 y521 t524).f5))).setCell ⟨go21, 6, none⟩ (.string ((rd_T39 y521 t524).f6))).setCell ⟨go21, 7, none⟩ (.string ((rd_T39 y521 t524).f7)))) ?hg ?ho ?hn ?hr ?_; (case ho => rfl); (case hg => rfl); (case hn => rfl); (case hr => first | (go_simp; done) | (go_simp; rfl)); intro w29 hw; have hg : w27.grownBy w29 (some go21) := (by rw [hw]; exact HP28.2); have hp_ : Kd.R k39 39 w29 w.heap.size (fun _ => True) (.slice (some ⟨go21, 0, none⟩) y521.length co25) y533 := (by rw [hw, Ny533.out]; exact HP28.1); clear HP28; have n0_ := Aside0.mk (IsS107.grown (ib HI0.out) hg (IsS107.own_ne HI0.out HO523.out (by decide))); have n1_ := Aside0.mk (hp_); have n2_ := Aside0.mk ((by rw [hw]; exact below_set (below_set (below_set (below_set (below_set (below_set (below_set (below_set (HB.out) (Nat.le_trans HL.out GB21.out)) (Nat.le_trans HL.out GB21.out)) (Nat.le_trans HL.out GB21.out)) (Nat.le_trans HL.out GB21.out)) (Nat.le_trans HL.out GB21.out)) (Nat.le_trans HL.out GB21.out)) (Nat.le_trans HL.out GB21.out)) (Nat.le_trans HL.out GB21.out) : Below w0.heap.size w0 w29)); have n3_ := Aside0.mk (KeepBut.trans (kb HK.out) (KeepBut.of_grown hg g) (Kd.R_base2 HO523.out)); clear HI0; clear HO523; clear HB; clear HK; have HI0 := n0_; have HO523 := n1_; have HB := n2_; have HK := n3_; clear n0_ n1_ n2_ n3_; clear hg hw hp_))
       go_ret
       exact ⟨_, exq, by refine rx ?_; exact HO523.out, ib HI0.out, bi HB.out, kb HK.out⟩
      ·rw [if_neg c20] at H
       exact absurd H (by simp)
     ·rw [if_neg c19] at H
      exact absurd H (by simp)
    ·rw [if_neg c18] at H
     exact absurd H (by simp)
   ·rw [if_neg c17] at H
    have c17b0 : (t526 == 1) = false := beq_eq_false_iff_ne.mpr c17
    have c17b1 : (t526 != 1) = true := bne_iff_ne.mpr c17
    by_cases c30 : t526 = 2
    ·rw [if_pos c30] at H
     have c30b0 : (t526 == 2) = true := beq_iff_eq.mpr c30
     have c30b1 : (t526 != 2) = false := bne_eq_false_iff_eq.mpr c30
     clear c30
     replace H := Option.bind_eq_some_iff.mp H
     obtain ⟨⟨t534, t535⟩, A310, H⟩ := H
     replace H : (spec_l5Spoil.l0 k y521 (wrap64 (12 + t534)) 0 s0_0 t535) = some (r1, r2) := H
     have A31 := Aside0.mk A310
     clear A310
     have H' := Aside0.mk H
     clear H
     go_enter Try.func94, Try.ntmps94
     go_wp2_with (first | ((with_reducible refine gate_dst (N := 9) rfl ?_); refine Kd.R_lit k39 _ 39 ?hg (N := 9) ?hd (xs := ([] : List (S39))) (inner := []) (ok := fun _ => True) (okp := fun _ => True) ?hr ?hp (fun _ hk => hk) trivial (Below.refl _ _) (Nat.le_refl _) (by simp) ?_; (case hd => rfl); (case hg => rfl); (case hr => first | (go_simp; done) | (go_simp; rfl)); (case hp => exact (Reps.none _ _)); intro v519 w32 ho33 hb hg_ hnew_; clear hg_ hnew_; (first | rw [← Ny518.out] at ho33 | (simp only [Int.reduceToNat] at ho33; rw [← Ny518.out] at ho33)); have n0_ := Aside0.mk (Kd.R_lower ho33 (keep_size (w := w) (g := g) (row := none) (kb HK.out))); have n1_ := Aside0.mk (IsS107.below (ib HI0.out) hb); have n2_ := kt HK (KeepBut.of_below hb g none); have n3_ := bsi HB hb; clear HI0; clear HK; clear HB; have HO520 := n0_; have HI0 := n1_; have HK := n2_; have HB := n3_; clear n0_ n1_ n2_ n3_; clear hb ho33) | ((with_reducible refine gate_builtin (b := .append) (xs := #[.tmp 9, .tmp 10]) rfl ?_); at_builtin; refine Kd.R_append_rows k39 w.heap.size rfl (.tmp 9) (.tmp 10) 26 39 (.agg #[(.string ⟨#[]⟩), (.int .i64 0), (.string ⟨#[]⟩), (.string ⟨#[]⟩), (.int .i64 0), (.int .i64 0), (.string ⟨#[]⟩), (.string ⟨#[]⟩)]) 104 rfl Try.underlying26 info39 rfl (by decide) (by omega) v519 y518 l1 _ _ _ (fun _ => True) (fun _ => False) rfl rfl ?aO ?aR (fun _ _ h => h) (fun _ h => h.elim) ?aF (Below.refl _ _) ?aS ?aL ?_; (case aR => exact Kd.C_foot_now HR1.out (kb HK.out)); (case aF => exact (fun _ _ => trivial)); (case aO => exact (rx HO520.out)); (case aS => exact (keep_size (w := w) (g := g) (row := none) (kb HK.out))); (case aL => have := LMc3.out; omega); intro v522 w34 ho hb hg hat; rw [← Ny521.out] at ho; have n0_ := Aside0.mk (IsS107.grown (ib HI0.out) hg (IsS107.own_ne HI0.out HO520.out (by decide))); have n1_ := Aside0.mk (below_weaken (bi HB.out) HL.out hb); have n2_ := Aside0.mk (KeepBut.trans (kb HK.out) (KeepBut.of_grown hg g) (Kd.R_base2 HO520.out)); have n3_ := Aside0.mk (ho); clear HI0; clear HB; clear HK; clear HO520; have HI0 := n0_; have HB := n1_; have HK := n2_; have HO523 := n3_; clear n0_ n1_ n2_ n3_; clear ho hb hg hat; obtain ⟨Ao35, co35, eo35⟩ := Kd.R_slice HO523.out; subst eo35) | ((with_reducible refine gate_callee (f := 64) rfl ?_); refine goesL_ (some 15) rfl rfl Try.func64 (by kernel_rfl) rfl #[.pointer (some ⟨g, 0, none⟩), .int .i64 (y521.length : Int)] rfl mxp ?_; (with_reducible refine (spec_l1Rd_pick.calls k g s0_0 s0_1 (y521.length : Int) t524 t525 w0 _ ?side1 ?side2 A4.out).mono ?_); (case side1 => exact ib HI0.out); (case side2 => exact bi HB.out); rintro e w36 ⟨rfl, hi, hb, hk⟩; refine ⟨_, rfl, ?_⟩; have n0_ := Aside0.mk (Kd.R_mono (Kd.R_keep (IsS107.apart (show IsS107 w0 _ g s0_0 s0_1 from ib HI0.out) (rx HO523.out) (by decide)) hk (fun _ h => h.2)) (fun _ h => h.1)); have n1_ := kt HK hk; have n2_ := Aside0.mk (hb); have n3_ := Aside0.mk (hi); clear HO523; clear HK; clear HB; clear HI0; have HO523 := n0_; have HK := n1_; have HB := n2_; have HI0 := n3_; clear n0_ n1_ n2_ n3_; (try clear hb); (try clear hb2); (try clear hk); (try clear hi)) | ((with_reducible refine gate_callee (f := 64) rfl ?_); refine goesL_ (some 17) rfl rfl Try.func64 (by kernel_rfl) rfl #[.pointer (some ⟨g, 0, none⟩), .int .i64 6] rfl mxp ?_; (with_reducible refine (spec_l1Rd_pick.calls k g s0_0 t525 6 t526 t527 w0 _ ?side1 ?side2 A5.out).mono ?_); (case side1 => exact ib HI0.out); (case side2 => exact bi HB.out); rintro e w37 ⟨rfl, hi, hb, hk⟩; refine ⟨_, rfl, ?_⟩; have n0_ := Aside0.mk (Kd.R_mono (Kd.R_keep (IsS107.apart (show IsS107 w0 _ g s0_0 t525 from ib HI0.out) (rx HO523.out) (by decide)) hk (fun _ h => h.2)) (fun _ h => h.1)); have n1_ := kt HK hk; have n2_ := Aside0.mk (hb); have n3_ := Aside0.mk (hi); clear HO523; clear HK; clear HB; clear HI0; have HO523 := n0_; have HK := n1_; have HB := n2_; have HI0 := n3_; clear n0_ n1_ n2_ n3_; (try clear hb); (try clear hb2); (try clear hk); (try clear hi)) | ((with_reducible refine gate_callee (f := 64) rfl ?_); refine goesL_ (some 47) rfl rfl Try.func64 (by kernel_rfl) rfl #[.pointer (some ⟨g, 0, none⟩), .int .i64 2] rfl mxp ?_; (with_reducible refine (spec_l1Rd_pick.calls k g s0_0 t527 2 t534 t535 w0 _ ?side1 ?side2 A31.out).mono ?_); (case side1 => exact ib HI0.out); (case side2 => exact bi HB.out); rintro e w38 ⟨rfl, hi, hb, hk⟩; refine ⟨_, rfl, ?_⟩; have n0_ := Aside0.mk (Kd.R_mono (Kd.R_keep (IsS107.apart (show IsS107 w0 _ g s0_0 t527 from ib HI0.out) (rx HO523.out) (by decide)) hk (fun _ h => h.2)) (fun _ h => h.1)); have n1_ := kt HK hk; have n2_ := Aside0.mk (hb); have n3_ := Aside0.mk (hi); clear HO523; clear HK; clear HB; clear HI0; have HO523 := n0_; have HK := n1_; have HB := n2_; have HI0 := n3_; clear n0_ n1_ n2_ n3_; (try clear hb); (try clear hb2); (try clear hk); (try clear hi)))
     go_loopg [5, 8] k (fun kq v5 v8 w' => ∃ (x5_1 : List (S39)) (x8_1 : Int) (x1001_1 : Int), v8 = .int .i64 x8_1 ∧ Aside0 (spec_l5Spoil.l0 kq x5_1 (wrap64 (12 + t534)) x8_1 s0_0 x1001_1 = some (r1, r2)) ∧ Aside0 (kq ≤ k) ∧ Aside0 (Kd.R k39 39 w' w.heap.size (fun _ => True) v5 x5_1) ∧ Aside0 (IsS107 w0 w' g s0_0 x1001_1) ∧ Aside0 (KeepBut w w' g none) ∧ Aside0 (Below w0.heap.size w0 w'))
     case atStart => exact ⟨(y521), (0), (t535), (by first | rfl | (simp; done) | (simp [*]; done)), H', ⟨Nat.le_refl _⟩, ⟨by refine rx ?_; exact HO523.out⟩, ⟨ib HI0.out⟩, ⟨kb HK.out⟩, (hbi HB)⟩
     case round =>
      clear H'
      try clear c1
      try clear c2
      try clear p2
      try clear q2
      try clear hx2
      try clear qi2
      try clear hf2
      try clear c3
      try clear p5
      try clear q5
      try clear hx5
      try clear c6
      try clear c6b0
      try clear c6b1
      try clear p6
      try clear c7
      try clear c7b0
      try clear c8
      try clear c8b0
      try clear c9
      try clear c17
      try clear c17b0
      try clear c17b1
      try clear c18
      try clear c18b0
      try clear c19
      try clear c19b0
      try clear c20
      try clear c20b0
      try clear c20b1
      try clear c21
      try clear p21
      try clear q21
      try clear hx21
      try clear qi21
      try clear hf21
      try clear c28
      try clear hx28
      try clear hf28
      try clear c30
      try clear c30b0
      try clear c30b1
      try clear hx21_0
      try clear hx21_1
      try clear hx21_2
      try clear hx21_3
      try clear hx21_4
      try clear hx21_5
      try clear hx21_6
      try clear hx21_7
      try clear hx28_0
      try clear hx28_1
      try clear hx28_2
      try clear hx28_3
      try clear hx28_4
      try clear hx28_5
      try clear hx28_6
      try clear hx28_7
      try clear hx528_0
      try clear hx528_1
      try clear hx528_2
      try clear hx528_3
      try clear hx528_4
      try clear hx528_5
      try clear hx528_6
      try clear hx528_7
      try clear hx532_0
      try clear hx532_1
      try clear hx532_2
      try clear hx532_3
      try clear hx532_4
      try clear hx532_5
      try clear hx532_6
      try clear hx532_7
      try clear p21
      try clear p528
      try clear p532
      try clear q21
      try clear q528
      try clear q532
      obtain ⟨x5_1, x8_1, x1001_1, rfl, HA, HK1, HO_5, HI0, HK, HB⟩ := hrel
      cases gk with
      | zero => exact absurd HA.out (by simp [spec_l5Spoil.l0])
      | succ k1 =>
       have H := HA.out
       clear HA
       simp only [spec_l5Spoil.l0] at H
       by_cases c39 : (x5_1.length : Int) < (wrap64 (12 + t534))
       ·rw [if_pos c39] at H
        have c39b0 : decide ((x5_1.length : Int) < (wrap64 (12 + t534))) = true := decide_eq_true c39
        clear c39
        replace H := Option.bind_eq_some_iff.mp H
        obtain ⟨t536, A400, H⟩ := H
        replace H : (if 1 + t536.size ≤ 9223372036854775807 then ((spec_l5Phase.f k1 s0_0 x1001_1 ((⟨#[122]⟩ : ByteArray) ++ t536) (([] : List ByteArray))).bind fun bt540 => (if x5_1.length < 1353245080339 then (spec_l5Spoil.l0 k1 (x5_1 ++ [(⟨bt540.1, bt540.2.1, bt540.2.2.1, bt540.2.2.2.1, bt540.2.2.2.2.1, bt540.2.2.2.2.2.1, bt540.2.2.2.2.2.2.1, bt540.2.2.2.2.2.2.2.1⟩ : S39)]) (wrap64 (12 + t534)) (wrap64 (x8_1 + 1)) s0_0 bt540.2.2.2.2.2.2.2.2) else (none))) else (none)) = some (r1, r2) := H
        have A40 := Aside0.mk A400
        clear A400
        by_cases c41 : 1 + t536.size ≤ 9223372036854775807
        ·rw [if_pos c41] at H
         have c41b0 := eq_true c41
         have c41b1 : decide (1 + t536.size ≤ 9223372036854775807) = true := decide_eq_true c41
         try have c41b2 : (9223372036854775807 < 1 + t536.size) = False := eq_false (Nat.not_lt.2 c41)
         obtain ⟨y537, hy537⟩ : ∃ y_ : List ByteArray, y_ = (([] : List ByteArray)) := ⟨_, rfl⟩
         replace H : ((spec_l5Phase.f k1 s0_0 x1001_1 ((⟨#[122]⟩ : ByteArray) ++ t536) y537).bind fun bt540 => (if x5_1.length < 1353245080339 then (spec_l5Spoil.l0 k1 (x5_1 ++ [(⟨bt540.1, bt540.2.1, bt540.2.2.1, bt540.2.2.2.1, bt540.2.2.2.2.1, bt540.2.2.2.2.2.1, bt540.2.2.2.2.2.2.1, bt540.2.2.2.2.2.2.2.1⟩ : S39)]) (wrap64 (12 + t534)) (wrap64 (x8_1 + 1)) s0_0 bt540.2.2.2.2.2.2.2.2) else (none))) = some (r1, r2) := by first | (rw [hy537]; with_reducible exact H) | (have H2_ := (Option.bind_some _ _).symm.trans H; rw [hy537]; with_reducible exact H2_) | (have H2_ := (Option.bind_some _ _).symm.trans H; with_reducible exact H2_) | with_reducible exact H | (rw [hy537]; exact H) | exact H
         have Ny537 := Aside0.mk hy537
         clear hy537
         replace H := Option.bind_eq_some_iff.mp H
         obtain ⟨⟨t540, t541, t542, t543, t544, t545, t546, t547, t548⟩, A420, H⟩ := H
         replace H : (if x5_1.length < 1353245080339 then (spec_l5Spoil.l0 k1 (x5_1 ++ [(⟨t540, t541, t542, t543, t544, t545, t546, t547⟩ : S39)]) (wrap64 (12 + t534)) (wrap64 (x8_1 + 1)) s0_0 t548) else (none)) = some (r1, r2) := H
         have A42 := Aside0.mk A420
         clear A420
         by_cases c43 : x5_1.length < 1353245080339
         ·rw [if_pos c43] at H
          have LMc43 := Aside0.mk c43
          clear c43
          obtain ⟨y549, hy549⟩ : ∃ y_ : List (S39), y_ = (x5_1 ++ [(⟨t540, t541, t542, t543, t544, t545, t546, t547⟩ : S39)]) := ⟨_, rfl⟩
          replace H : (spec_l5Spoil.l0 k1 y549 (wrap64 (12 + t534)) (wrap64 (x8_1 + 1)) s0_0 t548) = some (r1, r2) := by first | (rw [hy549]; with_reducible exact H) | (have H2_ := (Option.bind_some _ _).symm.trans H; rw [hy549]; with_reducible exact H2_) | (have H2_ := (Option.bind_some _ _).symm.trans H; with_reducible exact H2_) | with_reducible exact H | (rw [hy549]; exact H) | exact H
          have Ny549 := Aside0.mk hy549
          clear hy549
          have H' := Aside0.mk H
          clear H
          obtain ⟨Ao44, co44, eo44⟩ := Kd.R_slice HO_5.out
          subst eo44
          go_wp2_with (first | ((with_reducible refine gate_callee (f := 102) rfl ?_); refine goesL_ (some 58) rfl rfl Try.func102 (by kernel_rfl) rfl #[.int .i64 x8_1] rfl mxp ?_; (with_reducible refine (spec_l3Dec.calls k1 x8_1 t536 _ A40.out).mono ?_); rintro e w45 ⟨rfl, hb⟩; refine ⟨_, rfl, ?_⟩; have n0_ := Aside0.mk (Kd.R_below (rx HO_5.out) hb); have n1_ := Aside0.mk (IsS107.below (ib HI0.out) hb); have n2_ := kt HK (KeepBut.of_below hb g none); have n3_ := bsi HB hb; clear HO_5; clear HI0; clear HK; clear HB; have HO_5 := n0_; have HI0 := n1_; have HK := n2_; have HB := n3_; clear n0_ n1_ n2_ n3_; (try clear hb); (try clear hb2); (try clear hk); (try clear hi)) | ((with_reducible refine gate_dst (N := 60) rfl ?_); refine Kd.R_lit Kd.string _ 9 ?hg (N := 60) ?hd (xs := ([] : List ByteArray)) (inner := []) (ok := fun _ => True) (okp := fun _ => True) ?hr ?hp (fun _ hk => hk) trivial (Below.refl _ _) (Nat.le_refl _) (by simp) ?_; (case hd => rfl); (case hg => rfl); (case hr => first | (go_simp; done) | (go_simp; rfl)); (case hp => exact (Reps.none _ _)); intro v538 w46 ho47 hb hg_ hnew_; clear hg_ hnew_; (first | rw [← Ny537.out] at ho47 | (simp only [Int.reduceToNat] at ho47; rw [← Ny537.out] at ho47)); have n0_ := Aside0.mk (Kd.R_below (rx HO_5.out) hb); have n1_ := Aside0.mk (Kd.R_lower ho47 (keep_size (w := w) (g := g) (row := none) (kb HK.out))); have n2_ := Aside0.mk (IsS107.below (ib HI0.out) hb); have n3_ := kt HK (KeepBut.of_below hb g none); have n4_ := bsi HB hb; clear HO_5; clear HI0; clear HK; clear HB; have HO_5 := n0_; have HO539 := n1_; have HI0 := n2_; have HK := n3_; have HB := n4_; clear n0_ n1_ n2_ n3_ n4_; clear hb ho47; obtain ⟨Ao48, co48, eo48⟩ := Kd.R_slice HO539.out; subst eo48) | ((with_reducible refine gate_callee (f := 79) rfl ?_); refine goesL_ (some 61) rfl rfl Try.func79 (by kernel_rfl) rfl #[.pointer (some ⟨g, 0, none⟩), .string ((⟨#[122]⟩ : ByteArray) ++ t536), .slice Ao48 y537.length co48] rfl mxp ?_; (with_reducible refine (spec_l5Phase.calls k1 g s0_0 x1001_1 ((⟨#[122]⟩ : ByteArray) ++ t536) _ _ y537 t540 t541 t542 t543 t544 t545 t546 t547 t548 w0 _ ?side1 ?side2 ?side3 ?side4 ?side5 A42.out).mono ?_); (case side1 => exact ib HI0.out); (case side2 => exact bi HB.out); (case side3 => exact cx (Kd.R_reads' HO539.out).2.2); (case side4 => exact (Kd.R_reads' HO539.out).2.1); (case side5 => exact far_slice (IsS107.own_ne HI0.out HO539.out (by decide))); rintro e w49 ⟨rfl, hi, hb, hk⟩; refine ⟨_, rfl, ?_⟩; have n0_ := Aside0.mk (Kd.R_mono (Kd.R_keep (IsS107.apart (show IsS107 w0 _ g s0_0 x1001_1 from ib HI0.out) (rx HO_5.out) (by decide)) hk (fun _ h => h.2)) (fun _ h => h.1)); have n1_ := Aside0.mk (Kd.R_mono (Kd.R_keep (IsS107.apart (show IsS107 w0 _ g s0_0 x1001_1 from ib HI0.out) (rx HO539.out) (by decide)) hk (fun _ h => h.2)) (fun _ h => h.1)); have n2_ := kt HK hk; have n3_ := Aside0.mk (hb); have n4_ := Aside0.mk (hi); clear HO_5; clear HO539; clear HK; clear HB; clear HI0; have HO_5 := n0_; have HO539 := n1_; have HK := n2_; have HB := n3_; have HI0 := n4_; clear n0_ n1_ n2_ n3_ n4_; (try clear hb); (try clear hb2); (try clear hk); (try clear hi)) | ((with_reducible refine gate_builtin (b := .append) (xs := #[.tmp 55, .tmp 62]) rfl ?_); at_builtin; refine Kd.R_append k39 w.heap.size rfl (.tmp 55) (.tmp 62) 26 39 (.agg #[(.string ⟨#[]⟩), (.int .i64 0), (.string ⟨#[]⟩), (.string ⟨#[]⟩), (.int .i64 0), (.int .i64 0), (.string ⟨#[]⟩), (.string ⟨#[]⟩)]) 104 rfl Try.underlying26 info39 rfl (by decide) (by omega) (.slice Ao44 x5_1.length co44) x5_1 (⟨t540, t541, t542, t543, t544, t545, t546, t547⟩ : S39) [.string t540, .int .i64 t541, .string t542, .string t543, .int .i64 t544, .int .i64 t545, .string t546, .string t547] (fun _ => True) (fun _ => False) rfl rfl ?aP (fun _ hk => hk.elim) ?aF ?aO (Below.refl _ _) ?aS ?aL ?_; (case aP => exact k39_mkM _ _ _ (⟨t540, t541, t542, t543, t544, t545, t546, t547⟩ : S39)); (case aF => exact (fun _ _ => trivial)); (case aO => exact (rx HO_5.out)); (case aS => exact (keep_size (w := w) (g := g) (row := none) (kb HK.out))); (case aL => have := LMc43.out; omega); intro v550 w50 ho hb hg hat; rw [← Ny549.out] at ho; have n0_ := Aside0.mk (IsS107.grown (ib HI0.out) hg (IsS107.own_ne HI0.out HO_5.out (by decide))); have n1_ := Aside0.mk (Kd.R_over' (rx HO539.out) (Kd.R_typed (rx HO_5.out)) (by decide) hg); have n2_ := Aside0.mk (below_weaken (bi HB.out) HL.out hb); have n3_ := Aside0.mk (KeepBut.trans (kb HK.out) (KeepBut.of_grown hg g) (Kd.R_base2 HO_5.out)); have n4_ := Aside0.mk (ho); clear HI0; clear HO539; clear HB; clear HK; clear HO_5; have HI0 := n0_; have HO539 := n1_; have HB := n2_; have HK := n3_; have HO551 := n4_; clear n0_ n1_ n2_ n3_ n4_; clear ho hb hg hat))
          go_roundg k1
          case measure => have := HK1.out; omega
          case rel => exact ⟨(y549), (wrap64 (x8_1 + 1)), (t548), (by first | rfl | (simp; done) | (simp [*]; done)), H', ⟨by have := HK1.out; omega⟩, ⟨by refine rx ?_; exact HO551.out⟩, ⟨ib HI0.out⟩, ⟨kb HK.out⟩, (hbi HB)⟩
         ·rw [if_neg c43] at H
          exact absurd H (by simp)
        ·rw [if_neg c41] at H
         exact absurd H (by simp)
       ·rw [if_neg c39] at H
        have c39b0 : decide ((x5_1.length : Int) < (wrap64 (12 + t534))) = false := decide_eq_false c39
        clear c39
        simp only [Option.some.injEq, Prod.mk.injEq] at H
        obtain ⟨rfl, rfl⟩ := H
        obtain ⟨Ao51, co51, eo51⟩ := Kd.R_slice HO_5.out
        subst eo51
        go_wp2
        go_ret
        exact ⟨_, exq, by refine rx ?_; exact HO_5.out, ib HI0.out, bi HB.out, kb HK.out⟩
    ·rw [if_neg c30] at H
     have c30b0 : (t526 == 2) = false := beq_eq_false_iff_ne.mpr c30
     have c30b1 : (t526 != 2) = true := bne_iff_ne.mpr c30
     by_cases c52 : 0 ≤ t524
     ·rw [if_pos c52] at H
      have c52b0 : decide (0 ≤ t524) = true := decide_eq_true c52
      clear c52
      by_cases c53 : t524 < (y521.length : Int)
      ·rw [if_pos c53] at H
       have c53b0 : decide (t524 < (y521.length : Int)) = true := decide_eq_true c53
       clear c53
       replace H := Option.bind_eq_some_iff.mp H
       obtain ⟨⟨t553, t554, t555, t556, t557, t558, t559, t560, t561⟩, A540, H⟩ := H
       replace H : (some ((y521.set (t524 : Int).toNat (⟨t553, t554, t555, t556, t557, t558, t559, t560⟩ : S39)), t561)) = some (r1, r2) := H
       have A54 := Aside0.mk A540
       clear A540
       obtain ⟨y562, hy562⟩ : ∃ y_ : List (S39), y_ = (y521.set (t524 : Int).toNat (⟨t553, t554, t555, t556, t557, t558, t559, t560⟩ : S39)) := ⟨_, rfl⟩
       replace H : (some (y562, t561)) = some (r1, r2) := by first | (rw [hy562]; with_reducible exact H) | (have H2_ := (Option.bind_some _ _).symm.trans H; rw [hy562]; with_reducible exact H2_) | (have H2_ := (Option.bind_some _ _).symm.trans H; with_reducible exact H2_) | with_reducible exact H | (rw [hy562]; exact H) | exact H
       have Ny562 := Aside0.mk hy562
       clear hy562
       simp only [Option.some.injEq, Prod.mk.injEq] at H
       obtain ⟨rfl, rfl⟩ := H
       go_enter Try.func94, Try.ntmps94
       go_wp2_with (first | ((with_reducible refine gate_dst (N := 9) rfl ?_); refine Kd.R_lit k39 _ 39 ?hg (N := 9) ?hd (xs := ([] : List (S39))) (inner := []) (ok := fun _ => True) (okp := fun _ => True) ?hr ?hp (fun _ hk => hk) trivial (Below.refl _ _) (Nat.le_refl _) (by simp) ?_; (case hd => rfl); (case hg => rfl); (case hr => first | (go_simp; done) | (go_simp; rfl)); (case hp => exact (Reps.none _ _)); intro v519 w56 ho57 hb hg_ hnew_; clear hg_ hnew_; (first | rw [← Ny518.out] at ho57 | (simp only [Int.reduceToNat] at ho57; rw [← Ny518.out] at ho57)); have n0_ := Aside0.mk (Kd.R_lower ho57 (keep_size (w := w) (g := g) (row := none) (kb HK.out))); have n1_ := Aside0.mk (IsS107.below (ib HI0.out) hb); have n2_ := kt HK (KeepBut.of_below hb g none); have n3_ := bsi HB hb; clear HI0; clear HK; clear HB; have HO520 := n0_; have HI0 := n1_; have HK := n2_; have HB := n3_; clear n0_ n1_ n2_ n3_; clear hb ho57) | ((with_reducible refine gate_builtin (b := .append) (xs := #[.tmp 9, .tmp 10]) rfl ?_); at_builtin; refine Kd.R_append_rows k39 w.heap.size rfl (.tmp 9) (.tmp 10) 26 39 (.agg #[(.string ⟨#[]⟩), (.int .i64 0), (.string ⟨#[]⟩), (.string ⟨#[]⟩), (.int .i64 0), (.int .i64 0), (.string ⟨#[]⟩), (.string ⟨#[]⟩)]) 104 rfl Try.underlying26 info39 rfl (by decide) (by omega) v519 y518 l1 _ _ _ (fun _ => True) (fun _ => False) rfl rfl ?aO ?aR (fun _ _ h => h) (fun _ h => h.elim) ?aF (Below.refl _ _) ?aS ?aL ?_; (case aR => exact Kd.C_foot_now HR1.out (kb HK.out)); (case aF => exact (fun _ _ => trivial)); (case aO => exact (rx HO520.out)); (case aS => exact (keep_size (w := w) (g := g) (row := none) (kb HK.out))); (case aL => have := LMc3.out; omega); intro v522 w58 ho hb hg hat; rw [← Ny521.out] at ho; have n0_ := Aside0.mk (IsS107.grown (ib HI0.out) hg (IsS107.own_ne HI0.out HO520.out (by decide))); have n1_ := Aside0.mk (below_weaken (bi HB.out) HL.out hb); have n2_ := Aside0.mk (KeepBut.trans (kb HK.out) (KeepBut.of_grown hg g) (Kd.R_base2 HO520.out)); have n3_ := Aside0.mk (ho); clear HI0; clear HB; clear HK; clear HO520; have HI0 := n0_; have HB := n1_; have HK := n2_; have HO523 := n3_; clear n0_ n1_ n2_ n3_; clear ho hb hg hat; obtain ⟨Ao59, co59, eo59⟩ := Kd.R_slice HO523.out; subst eo59) | ((with_reducible refine gate_callee (f := 64) rfl ?_); refine goesL_ (some 15) rfl rfl Try.func64 (by kernel_rfl) rfl #[.pointer (some ⟨g, 0, none⟩), .int .i64 (y521.length : Int)] rfl mxp ?_; (with_reducible refine (spec_l1Rd_pick.calls k g s0_0 s0_1 (y521.length : Int) t524 t525 w0 _ ?side1 ?side2 A4.out).mono ?_); (case side1 => exact ib HI0.out); (case side2 => exact bi HB.out); rintro e w60 ⟨rfl, hi, hb, hk⟩; refine ⟨_, rfl, ?_⟩; have n0_ := Aside0.mk (Kd.R_mono (Kd.R_keep (IsS107.apart (show IsS107 w0 _ g s0_0 s0_1 from ib HI0.out) (rx HO523.out) (by decide)) hk (fun _ h => h.2)) (fun _ h => h.1)); have n1_ := kt HK hk; have n2_ := Aside0.mk (hb); have n3_ := Aside0.mk (hi); clear HO523; clear HK; clear HB; clear HI0; have HO523 := n0_; have HK := n1_; have HB := n2_; have HI0 := n3_; clear n0_ n1_ n2_ n3_; (try clear hb); (try clear hb2); (try clear hk); (try clear hi)) | ((with_reducible refine gate_callee (f := 64) rfl ?_); refine goesL_ (some 17) rfl rfl Try.func64 (by kernel_rfl) rfl #[.pointer (some ⟨g, 0, none⟩), .int .i64 6] rfl mxp ?_; (with_reducible refine (spec_l1Rd_pick.calls k g s0_0 t525 6 t526 t527 w0 _ ?side1 ?side2 A5.out).mono ?_); (case side1 => exact ib HI0.out); (case side2 => exact bi HB.out); rintro e w61 ⟨rfl, hi, hb, hk⟩; refine ⟨_, rfl, ?_⟩; have n0_ := Aside0.mk (Kd.R_mono (Kd.R_keep (IsS107.apart (show IsS107 w0 _ g s0_0 t525 from ib HI0.out) (rx HO523.out) (by decide)) hk (fun _ h => h.2)) (fun _ h => h.1)); have n1_ := kt HK hk; have n2_ := Aside0.mk (hb); have n3_ := Aside0.mk (hi); clear HO523; clear HK; clear HB; clear HI0; have HO523 := n0_; have HK := n1_; have HB := n2_; have HI0 := n3_; clear n0_ n1_ n2_ n3_; (try clear hb); (try clear hb2); (try clear hk); (try clear hi); have p552 : 0 ≤ (t524 : Int) := oda; have q552 : t524 < (y521.length : Int) := oda; obtain ⟨ad552, e552, hx552_0, hx552_1, hx552_2, hx552_3, hx552_4, hx552_5, hx552_6, hx552_7⟩ := at_T39 (Kd.R_reads' HO523.out).2.2 t524 p552 q552; cases e552; replace p552 := eq_true p552; replace q552 := eq_true q552) | ((with_reducible refine gate_callee (f := 82) rfl ?_); refine goesL_ (some 25) rfl rfl Try.func82 (by kernel_rfl) rfl #[.pointer (some ⟨g, 0, none⟩), .agg #[.string ((rd_T39 y521 t524).f0), .int .i64 ((rd_T39 y521 t524).f1), .string ((rd_T39 y521 t524).f2), .string ((rd_T39 y521 t524).f3), .int .i64 ((rd_T39 y521 t524).f4), .int .i64 ((rd_T39 y521 t524).f5), .string ((rd_T39 y521 t524).f6), .string ((rd_T39 y521 t524).f7)]] rfl mxp ?_; (with_reducible refine (spec_l5SpoilPhase.calls k g s0_0 t527 ((rd_T39 y521 t524).f0) ((rd_T39 y521 t524).f1) ((rd_T39 y521 t524).f2) ((rd_T39 y521 t524).f3) ((rd_T39 y521 t524).f4) ((rd_T39 y521 t524).f5) ((rd_T39 y521 t524).f6) ((rd_T39 y521 t524).f7) t553 t554 t555 t556 t557 t558 t559 t560 t561 w0 _ ?side1 ?side2 A54.out).mono ?_); (case side1 => exact ib HI0.out); (case side2 => exact bi HB.out); rintro e w62 ⟨rfl, hi, hb, hk⟩; refine ⟨_, rfl, ?_⟩; have n0_ := Aside0.mk (Kd.R_mono (Kd.R_keep (IsS107.apart (show IsS107 w0 _ g s0_0 t527 from ib HI0.out) (rx HO523.out) (by decide)) hk (fun _ h => h.2)) (fun _ h => h.1)); have n1_ := kt HK hk; have n2_ := Aside0.mk (hb); have n3_ := Aside0.mk (hi); clear HO523; clear HK; clear HB; clear HI0; have HO523 := n0_; have HK := n1_; have HB := n2_; have HI0 := n3_; clear n0_ n1_ n2_ n3_; (try clear hb); (try clear hb2); (try clear hk); (try clear hi); have p55 : 0 ≤ (t524 : Int) := oda; have q55 : (t524 : Int) < ((y521.length : Int) : Int) := oda; obtain ⟨go55, co55, eo55, gb55, gl55, cl55, HG55⟩ := Kd.R_form HO523.out (by omega); (first | cases eo55 | (injection eo55 with ea_ en_ ec_; (first | subst ea_ | (injection ea_ with ea_; subst ea_)); subst ec_; clear en_)); have GB55 := Aside0.mk gb55; have GG55 := Aside0.mk HG55; clear gb55 gl55 HG55; (first | simp only [add_plain] at hx552_0 | skip); (first | simp only [add_plain] at hx552_1 | skip); (first | simp only [add_plain] at hx552_2 | skip); (first | simp only [add_plain] at hx552_3 | skip); (first | simp only [add_plain] at hx552_4 | skip); (first | simp only [add_plain] at hx552_5 | skip); (first | simp only [add_plain] at hx552_6 | skip); (first | simp only [add_plain] at hx552_7 | skip); obtain ⟨ce55, hcl55, hM55, hcc55, hfr55⟩ := Kd.R_elem HO523.out z39 (t524 : Int) p55 q55; obtain rfl := k39_openM hM55; have hx55_0 : w62.cell? ⟨go55, (t524 : Int).toNat * 8, none⟩ = some (.string ((rd_T39 y521 t524).f0)) := hcc55 0 _ rfl; have hx55_1 : w62.cell? ⟨go55, (t524 : Int).toNat * 8 + 1, none⟩ = some (.int .i64 ((rd_T39 y521 t524).f1)) := hcc55 1 _ rfl; have hx55_2 : w62.cell? ⟨go55, (t524 : Int).toNat * 8 + 2, none⟩ = some (.string ((rd_T39 y521 t524).f2)) := hcc55 2 _ rfl; have hx55_3 : w62.cell? ⟨go55, (t524 : Int).toNat * 8 + 3, none⟩ = some (.string ((rd_T39 y521 t524).f3)) := hcc55 3 _ rfl; have hx55_4 : w62.cell? ⟨go55, (t524 : Int).toNat * 8 + 4, none⟩ = some (.int .i64 ((rd_T39 y521 t524).f4)) := hcc55 4 _ rfl; have hx55_5 : w62.cell? ⟨go55, (t524 : Int).toNat * 8 + 5, none⟩ = some (.int .i64 ((rd_T39 y521 t524).f5)) := hcc55 5 _ rfl; have hx55_6 : w62.cell? ⟨go55, (t524 : Int).toNat * 8 + 6, none⟩ = some (.string ((rd_T39 y521 t524).f6)) := hcc55 6 _ rfl; have hx55_7 : w62.cell? ⟨go55, (t524 : Int).toNat * 8 + 7, none⟩ = some (.string ((rd_T39 y521 t524).f7)) := hcc55 7 _ rfl; have hf55_0 : w62.frozen? ⟨go55, (t524 : Int).toNat * 8, none⟩ = false := hfr55 0; have hf55_1 : w62.frozen? ⟨go55, (t524 : Int).toNat * 8 + 1, none⟩ = false := hfr55 1; have hf55_2 : w62.frozen? ⟨go55, (t524 : Int).toNat * 8 + 2, none⟩ = false := hfr55 2; have hf55_3 : w62.frozen? ⟨go55, (t524 : Int).toNat * 8 + 3, none⟩ = false := hfr55 3; have hf55_4 : w62.frozen? ⟨go55, (t524 : Int).toNat * 8 + 4, none⟩ = false := hfr55 4; have hf55_5 : w62.frozen? ⟨go55, (t524 : Int).toNat * 8 + 5, none⟩ = false := hfr55 5; have hf55_6 : w62.frozen? ⟨go55, (t524 : Int).toNat * 8 + 6, none⟩ = false := hfr55 6; have hf55_7 : w62.frozen? ⟨go55, (t524 : Int).toNat * 8 + 7, none⟩ = false := hfr55 7; clear hcl55 hcc55 hfr55 hM55; replace p55 := eq_true p55; replace q55 := eq_true q55; have HX63 := Aside0.mk (show Kd.R k39 39 w62 w.heap.size (fun _ => True) (.slice (some ⟨go55, 0, none⟩) y521.length co59) y521 from (rx HO523.out)); obtain ⟨ce63, hcl63, hM63, hcc63, hfr63⟩ := Kd.R_elem HX63.out z39 (t524 : Int) (oda) (by have h_ : (t524 : Int) < ((y521.length : Int) : Int) := oda; first | exact h_ | (have e_ := (Kd.R_reads' HO523.out).1; omega) | simpa using h_); obtain rfl := k39_openM hM63; have HP63 := Kd.R_seg HX63.out (t524 : Int) (oda) (by have h_ : (t524 : Int) < ((y521.length : Int) : Int) := oda; first | exact h_ | (have e_ := (Kd.R_reads' HO523.out).1; omega) | simpa using h_) (seg := [.string t553, .int .i64 t554, .string t555, .string t556, .int .i64 t557, .int .i64 t558, .string t559, .string t560]) (j := 0) hcl63 hcc63 (show 8 ≤ 8 from by decide) (x' := (⟨t553, t554, t555, t556, t557, t558, t559, t560⟩ : S39)) (k39_mkM _ _ _ (⟨t553, t554, t555, t556, t557, t558, t559, t560⟩ : S39) ) (fun _ hk => hk); have hx63_0 := hcc63 0 _ rfl; (try simp only [show (k39).sz = 8 from rfl, Nat.mul_one, Nat.add_zero] at hx63_0); have hf63_0 := hfr63 0; (try simp only [show (k39).sz = 8 from rfl, Nat.mul_one, Nat.add_zero] at hf63_0); have hx63_1 := hcc63 1 _ rfl; (try simp only [show (k39).sz = 8 from rfl, Nat.mul_one, Nat.add_zero] at hx63_1); have hf63_1 := hfr63 1; (try simp only [show (k39).sz = 8 from rfl, Nat.mul_one, Nat.add_zero] at hf63_1); have hx63_2 := hcc63 2 _ rfl; (try simp only [show (k39).sz = 8 from rfl, Nat.mul_one, Nat.add_zero] at hx63_2); have hf63_2 := hfr63 2; (try simp only [show (k39).sz = 8 from rfl, Nat.mul_one, Nat.add_zero] at hf63_2); have hx63_3 := hcc63 3 _ rfl; (try simp only [show (k39).sz = 8 from rfl, Nat.mul_one, Nat.add_zero] at hx63_3); have hf63_3 := hfr63 3; (try simp only [show (k39).sz = 8 from rfl, Nat.mul_one, Nat.add_zero] at hf63_3); have hx63_4 := hcc63 4 _ rfl; (try simp only [show (k39).sz = 8 from rfl, Nat.mul_one, Nat.add_zero] at hx63_4); have hf63_4 := hfr63 4; (try simp only [show (k39).sz = 8 from rfl, Nat.mul_one, Nat.add_zero] at hf63_4); have hx63_5 := hcc63 5 _ rfl; (try simp only [show (k39).sz = 8 from rfl, Nat.mul_one, Nat.add_zero] at hx63_5); have hf63_5 := hfr63 5; (try simp only [show (k39).sz = 8 from rfl, Nat.mul_one, Nat.add_zero] at hf63_5); have hx63_6 := hcc63 6 _ rfl; (try simp only [show (k39).sz = 8 from rfl, Nat.mul_one, Nat.add_zero] at hx63_6); have hf63_6 := hfr63 6; (try simp only [show (k39).sz = 8 from rfl, Nat.mul_one, Nat.add_zero] at hf63_6); have hx63_7 := hcc63 7 _ rfl; (try simp only [show (k39).sz = 8 from rfl, Nat.mul_one, Nat.add_zero] at hx63_7); have hf63_7 := hfr63 7; (try simp only [show (k39).sz = 8 from rfl, Nat.mul_one, Nat.add_zero] at hf63_7); clear hcl63 hcc63 hfr63 hM63) | ((with_reducible refine gate_store (t := 39) (p := 26) rfl ?_); refine store_event (t := 39) (p := 26) (v := ?vo_w64) (w1 := ((((((((w62.setCell ⟨go55, (t524 : Int).toNat * 8, none⟩ (.string t553)).setCell ⟨go55, (t524 : Int).toNat * 8 + 1, none⟩ (.int .i64 t554)).setCell ⟨go55, (t524 : Int).toNat * 8 + 2, none⟩ (.string t555)).setCell ⟨go55, (t524 : Int).toNat * 8 + 3, none⟩ (.string t556)).setCell ⟨go55, (t524 : Int).toNat * 8 + 4, none⟩ (.int .i64 t557)).setCell ⟨go55, (t524 : Int).toNat * 8 + 5, none⟩ (.int .i64 t558)).setCell ⟨go55, (t524 : Int).toNat * 8 + 6, none⟩ (.string t559)).setCell ⟨go55, (t524 : Int).toNat * 8 + 7, none⟩ (.string t560))) ?hg ?ho ?hn ?hr ?_; (case ho => rfl); (case hg => rfl); (case hn => rfl); (case hr => first | (go_simp; done) | (go_simp; rfl)); intro w64 hw; have hg : w62.grownBy w64 (some go55) := (by rw [hw]; exact HP63.2); have hp_ : Kd.R k39 39 w64 w.heap.size (fun _ => True) (.slice (some ⟨go55, 0, none⟩) y521.length co59) y562 := (by rw [hw, Ny562.out]; exact HP63.1); clear HP63; have n0_ := Aside0.mk (IsS107.grown (ib HI0.out) hg (IsS107.own_ne HI0.out HO523.out (by decide))); have n1_ := Aside0.mk (hp_); have n2_ := Aside0.mk ((by rw [hw]; exact below_set (below_set (below_set (below_set (below_set (below_set (below_set (below_set (HB.out) (Nat.le_trans HL.out GB55.out)) (Nat.le_trans HL.out GB55.out)) (Nat.le_trans HL.out GB55.out)) (Nat.le_trans HL.out GB55.out)) (Nat.le_trans HL.out GB55.out)) (Nat.le_trans HL.out GB55.out)) (Nat.le_trans HL.out GB55.out)) (Nat.le_trans HL.out GB55.out) : Below w0.heap.size w0 w64)); have n3_ := Aside0.mk (KeepBut.trans (kb HK.out) (KeepBut.of_grown hg g) (Kd.R_base2 HO523.out)); clear HI0; clear HO523; clear HB; clear HK; have HI0 := n0_; have HO523 := n1_; have HB := n2_; have HK := n3_; clear n0_ n1_ n2_ n3_; clear hg hw hp_))
       go_ret
       exact ⟨_, exq, by refine rx ?_; exact HO523.out, ib HI0.out, bi HB.out, kb HK.out⟩
      ·rw [if_neg c53] at H
       exact absurd H (by simp)
     ·rw [if_neg c52] at H
      exact absurd H (by simp)
 ·rw [if_neg c3] at H
  exact absurd H (by simp)


/-! ### spec_l5Any: function 63 -/
def spec_l5Any.f (k : Nat) (s0_0 : List Int) (s0_1 : Int) : Option ((List (S39)) × Int) := (spec_l5Recipe.f k s0_0 s0_1).bind fun bt563 => ((spec_l1Rd_pick.f k s0_0 bt563.2 24).bind fun bt567 => (if bt567.1 = 0 then ((spec_l5Spoil.f k s0_0 bt567.2 bt563.1).bind fun bt569 => (some (bt569.1, bt569.2))) else (if bt567.1 = 1 then (some ((([] : List (S39))), bt567.2)) else (some (bt563.1, bt567.2)))))
theorem spec_l5Any.mono : ∀ a0 a1 k, LeO (spec_l5Any.f k a0 a1) (spec_l5Any.f (k + 1) a0 a1) := by
 intro a0 a1 k
 unfold spec_l5Any.f
 repeat' first
   | (with_reducible exact spec_l1Rd_pick.mono _ _ _ _)
   | (with_reducible exact spec_l5Recipe.mono _ _ _)
   | (with_reducible exact spec_l5Spoil.mono _ _ _ _)
   | (with_reducible exact LeO.refl _)
   | (with_reducible exact LeO.none _)
   | (with_reducible refine LeO.ite ?_ ?_)
   | (with_reducible refine LeO.bind ?_ (fun _ => ?_))
   | exact spec_l1Rd_pick.mono _ _ _ _
   | exact spec_l5Recipe.mono _ _ _
   | exact spec_l5Spoil.mono _ _ _ _
   | exact LeO.none _
   | refine LeO.ite ?_ ?_
   | refine LeO.bind ?_ (fun _ => ?_)
set_option maxHeartbeats 8000000 in
set_option maxRecDepth 100000 in
theorem spec_l5Any.calls (k : Nat) (g : Nat) (s0_0 : List Int) (s0_1 : Int) (r1 : List (S39)) (r2 : Int) (w0 w : World) (hI : IsS107 w0 w g s0_0 s0_1) (hB : Below w0.heap.size w0 w) (h : spec_l5Any.f k s0_0 s0_1 = some (r1, r2)) :
  Calls Try.prog 63 #[.pointer (some ⟨g, 0, none⟩)] w fun e w' => ∃ v0_ : Value, e = .returned (v0_) ∧ Kd.R k39 39 w' w.heap.size (fun _ => True) v0_ r1 ∧ IsS107 w0 w' g s0_0 r2 ∧ Below w0.heap.size w0 w' ∧ KeepBut w w' g none := by
 have HI0 := Aside0.mk hI
 have HK := Aside0.mk (KeepBut.refl w g none)
 have HL := Aside0.mk hB.size
 clear hI
 have HW0 := Aside0.mk hB.size
 have HB := Aside0.mk hB
 clear hB
 have H : ((spec_l5Recipe.f k s0_0 s0_1).bind fun bt563 => ((spec_l1Rd_pick.f k s0_0 bt563.2 24).bind fun bt567 => (if bt567.1 = 0 then ((spec_l5Spoil.f k s0_0 bt567.2 bt563.1).bind fun bt569 => (some (bt569.1, bt569.2))) else (if bt567.1 = 1 then (some ((([] : List (S39))), bt567.2)) else (some (bt563.1, bt567.2)))))) = some (r1, r2) := h
 clear h
 replace H := Option.bind_eq_some_iff.mp H
 obtain ⟨⟨t563, t566⟩, A20, H⟩ := H
 replace H : ((spec_l1Rd_pick.f k s0_0 t566 24).bind fun bt567 => (if bt567.1 = 0 then ((spec_l5Spoil.f k s0_0 bt567.2 t563).bind fun bt569 => (some (bt569.1, bt569.2))) else (if bt567.1 = 1 then (some ((([] : List (S39))), bt567.2)) else (some (t563, bt567.2))))) = some (r1, r2) := H
 have A2 := Aside0.mk A20
 clear A20
 replace H := Option.bind_eq_some_iff.mp H
 obtain ⟨⟨t567, t568⟩, A30, H⟩ := H
 replace H : (if t567 = 0 then ((spec_l5Spoil.f k s0_0 t568 t563).bind fun bt569 => (some (bt569.1, bt569.2))) else (if t567 = 1 then (some ((([] : List (S39))), t568)) else (some (t563, t568)))) = some (r1, r2) := H
 have A3 := Aside0.mk A30
 clear A30
 by_cases c4 : t567 = 0
 ·rw [if_pos c4] at H
  have c4b0 : (t567 == 0) = true := beq_iff_eq.mpr c4
  have c4b1 : (t567 != 0) = false := bne_eq_false_iff_eq.mpr c4
  clear c4
  replace H := Option.bind_eq_some_iff.mp H
  obtain ⟨⟨t569, t572⟩, A50, H⟩ := H
  replace H : (some (t569, t572)) = some (r1, r2) := H
  have A5 := Aside0.mk A50
  clear A50
  simp only [Option.some.injEq, Prod.mk.injEq] at H
  obtain ⟨rfl, rfl⟩ := H
  go_enter Try.func63, Try.ntmps63
  go_wp2_with (first | ((with_reducible refine gate_callee (f := 93) rfl ?_); refine goesL_ (some 5) rfl rfl Try.func93 (by kernel_rfl) rfl #[.pointer (some ⟨g, 0, none⟩)] rfl mxp ?_; (with_reducible refine (spec_l5Recipe.calls k g s0_0 s0_1 t563 t566 w0 _ ?side1 ?side2 A2.out).mono ?_); (case side1 => exact ib HI0.out); (case side2 => exact bi HB.out); rintro e w6 ⟨v564, rfl, ho0, hi, hb, hk⟩; refine ⟨_, rfl, ?_⟩; have n0_ := Aside0.mk (Kd.R_lower ho0 (keep_size (w := w) (g := g) (row := none) (kb HK.out))); have n1_ := kt HK hk; have n2_ := Aside0.mk (hb); have n3_ := Aside0.mk (hi); clear HK; clear HB; clear HI0; have HO565 := n0_; have HK := n1_; have HB := n2_; have HI0 := n3_; clear n0_ n1_ n2_ n3_; (try clear hb); (try clear hb2); (try clear hk); (try clear hi); (try clear ho0)) | ((with_reducible refine gate_callee (f := 64) rfl ?_); refine goesL_ (some 7) rfl rfl Try.func64 (by kernel_rfl) rfl #[.pointer (some ⟨g, 0, none⟩), .int .i64 24] rfl mxp ?_; (with_reducible refine (spec_l1Rd_pick.calls k g s0_0 t566 24 t567 t568 w0 _ ?side1 ?side2 A3.out).mono ?_); (case side1 => exact ib HI0.out); (case side2 => exact bi HB.out); rintro e w7 ⟨rfl, hi, hb, hk⟩; refine ⟨_, rfl, ?_⟩; have n0_ := Aside0.mk (Kd.R_mono (Kd.R_keep (IsS107.apart (show IsS107 w0 _ g s0_0 t566 from ib HI0.out) (rx HO565.out) (by decide)) hk (fun _ h => h.2)) (fun _ h => h.1)); have n1_ := kt HK hk; have n2_ := Aside0.mk (hb); have n3_ := Aside0.mk (hi); clear HO565; clear HK; clear HB; clear HI0; have HO565 := n0_; have HK := n1_; have HB := n2_; have HI0 := n3_; clear n0_ n1_ n2_ n3_; (try clear hb); (try clear hb2); (try clear hk); (try clear hi); obtain ⟨Ao8, co8, eo8⟩ := Kd.R_slice HO565.out; subst eo8) | ((with_reducible refine gate_callee (f := 94) rfl ?_); refine goesL_ (some 12) rfl rfl Try.func94 (by kernel_rfl) rfl #[.pointer (some ⟨g, 0, none⟩), .slice Ao8 t563.length co8] rfl mxp ?_; (with_reducible refine (spec_l5Spoil.calls k g s0_0 t568 _ _ t563 t569 t572 w0 _ ?side1 ?side2 ?side3 ?side4 A5.out).mono ?_); (case side1 => exact ib HI0.out); (case side2 => exact bi HB.out); (case side3 => exact Kd.C_foot_own (IsS107.apart (show IsS107 w0 _ g s0_0 t568 from ib HI0.out) (rx HO565.out) (by decide)) (fun _ h_ => h_.2)); (case side4 => exact (Kd.R_reads' HO565.out).2.1); rintro e w9 ⟨v570, rfl, ho0, hi, hb, hk⟩; refine ⟨_, rfl, ?_⟩; have n0_ := Aside0.mk (Kd.R_mono (Kd.R_told (Kd.R_oldK (IsS107.apart (show IsS107 w0 _ g s0_0 t568 from ib HI0.out) (rx HO565.out) (by decide)) hk) (Kd.R_base ho0)) (fun _ h_ => h_.1)); have n1_ := Aside0.mk (Kd.R_lower (Kd.R_new' ho0 (Kd.R_lt (rx HO565.out))) (keep_size (w := w) (g := g) (row := none) (kb HK.out))); have n2_ := kt HK hk; have n3_ := Aside0.mk (hb); have n4_ := Aside0.mk (hi); clear HO565; clear HK; clear HB; clear HI0; have HO565 := n0_; have HO571 := n1_; have HK := n2_; have HB := n3_; have HI0 := n4_; clear n0_ n1_ n2_ n3_ n4_; (try clear hb); (try clear hb2); (try clear hk); (try clear hi); (try clear ho0)))
  go_ret
  exact ⟨_, exq, by refine rx ?_; exact Kd.R_mono HO571.out (fun _ hk => trivial), ib HI0.out, bi HB.out, kb HK.out⟩
 ·rw [if_neg c4] at H
  have c4b0 : (t567 == 0) = false := beq_eq_false_iff_ne.mpr c4
  have c4b1 : (t567 != 0) = true := bne_iff_ne.mpr c4
  by_cases c10 : t567 = 1
  ·rw [if_pos c10] at H
   have c10b0 : (t567 == 1) = true := beq_iff_eq.mpr c10
   have c10b1 : (t567 != 1) = false := bne_eq_false_iff_eq.mpr c10
   clear c10
   obtain ⟨y573, hy573⟩ : ∃ y_ : List (S39), y_ = (([] : List (S39))) := ⟨_, rfl⟩
   replace H : (some (y573, t568)) = some (r1, r2) := by first | (rw [hy573]; with_reducible exact H) | (have H2_ := (Option.bind_some _ _).symm.trans H; rw [hy573]; with_reducible exact H2_) | (have H2_ := (Option.bind_some _ _).symm.trans H; with_reducible exact H2_) | with_reducible exact H | (rw [hy573]; exact H) | exact H
   have Ny573 := Aside0.mk hy573
   clear hy573
   simp only [Option.some.injEq, Prod.mk.injEq] at H
   obtain ⟨rfl, rfl⟩ := H
   go_enter Try.func63, Try.ntmps63
   go_wp2_with (first | ((with_reducible refine gate_callee (f := 93) rfl ?_); refine goesL_ (some 5) rfl rfl Try.func93 (by kernel_rfl) rfl #[.pointer (some ⟨g, 0, none⟩)] rfl mxp ?_; (with_reducible refine (spec_l5Recipe.calls k g s0_0 s0_1 t563 t566 w0 _ ?side1 ?side2 A2.out).mono ?_); (case side1 => exact ib HI0.out); (case side2 => exact bi HB.out); rintro e w11 ⟨v564, rfl, ho0, hi, hb, hk⟩; refine ⟨_, rfl, ?_⟩; have n0_ := Aside0.mk (Kd.R_lower ho0 (keep_size (w := w) (g := g) (row := none) (kb HK.out))); have n1_ := kt HK hk; have n2_ := Aside0.mk (hb); have n3_ := Aside0.mk (hi); clear HK; clear HB; clear HI0; have HO565 := n0_; have HK := n1_; have HB := n2_; have HI0 := n3_; clear n0_ n1_ n2_ n3_; (try clear hb); (try clear hb2); (try clear hk); (try clear hi); (try clear ho0)) | ((with_reducible refine gate_callee (f := 64) rfl ?_); refine goesL_ (some 7) rfl rfl Try.func64 (by kernel_rfl) rfl #[.pointer (some ⟨g, 0, none⟩), .int .i64 24] rfl mxp ?_; (with_reducible refine (spec_l1Rd_pick.calls k g s0_0 t566 24 t567 t568 w0 _ ?side1 ?side2 A3.out).mono ?_); (case side1 => exact ib HI0.out); (case side2 => exact bi HB.out); rintro e w12 ⟨rfl, hi, hb, hk⟩; refine ⟨_, rfl, ?_⟩; have n0_ := Aside0.mk (Kd.R_mono (Kd.R_keep (IsS107.apart (show IsS107 w0 _ g s0_0 t566 from ib HI0.out) (rx HO565.out) (by decide)) hk (fun _ h => h.2)) (fun _ h => h.1)); have n1_ := kt HK hk; have n2_ := Aside0.mk (hb); have n3_ := Aside0.mk (hi); clear HO565; clear HK; clear HB; clear HI0; have HO565 := n0_; have HK := n1_; have HB := n2_; have HI0 := n3_; clear n0_ n1_ n2_ n3_; (try clear hb); (try clear hb2); (try clear hk); (try clear hi)) | ((with_reducible refine gate_dst (N := 15) rfl ?_); refine Kd.R_lit k39 _ 39 ?hg (N := 15) ?hd (xs := ([] : List (S39))) (inner := []) (ok := fun _ => True) (okp := fun _ => True) ?hr ?hp (fun _ hk => hk) trivial (Below.refl _ _) (Nat.le_refl _) (by simp) ?_; (case hd => rfl); (case hg => rfl); (case hr => first | (go_simp; done) | (go_simp; rfl)); (case hp => exact (Reps.none _ _)); intro v574 w13 ho14 hb hg_ hnew_; clear hg_ hnew_; (first | rw [← Ny573.out] at ho14 | (simp only [Int.reduceToNat] at ho14; rw [← Ny573.out] at ho14)); have n0_ := Aside0.mk (Kd.R_elder' (rx HO565.out) (Kd.R_base ho14) hb); have n1_ := Aside0.mk (Kd.R_lower (Kd.R_new' ho14 (Kd.R_lt (rx HO565.out))) (keep_size (w := w) (g := g) (row := none) (kb HK.out))); have n2_ := Aside0.mk (IsS107.below (ib HI0.out) hb); have n3_ := kt HK (KeepBut.of_below hb g none); have n4_ := bsi HB hb; clear HO565; clear HI0; clear HK; clear HB; have HO565 := n0_; have HO575 := n1_; have HI0 := n2_; have HK := n3_; have HB := n4_; clear n0_ n1_ n2_ n3_ n4_; clear hb ho14))
   go_ret
   exact ⟨_, exq, by refine rx ?_; exact Kd.R_mono HO575.out (fun _ hk => trivial), ib HI0.out, bi HB.out, kb HK.out⟩
  ·rw [if_neg c10] at H
   have c10b0 : (t567 == 1) = false := beq_eq_false_iff_ne.mpr c10
   have c10b1 : (t567 != 1) = true := bne_iff_ne.mpr c10
   simp only [Option.some.injEq, Prod.mk.injEq] at H
   obtain ⟨rfl, rfl⟩ := H
   go_enter Try.func63, Try.ntmps63
   go_wp2_with (first | ((with_reducible refine gate_callee (f := 93) rfl ?_); refine goesL_ (some 5) rfl rfl Try.func93 (by kernel_rfl) rfl #[.pointer (some ⟨g, 0, none⟩)] rfl mxp ?_; (with_reducible refine (spec_l5Recipe.calls k g s0_0 s0_1 t563 t566 w0 _ ?side1 ?side2 A2.out).mono ?_); (case side1 => exact ib HI0.out); (case side2 => exact bi HB.out); rintro e w15 ⟨v564, rfl, ho0, hi, hb, hk⟩; refine ⟨_, rfl, ?_⟩; have n0_ := Aside0.mk (Kd.R_lower ho0 (keep_size (w := w) (g := g) (row := none) (kb HK.out))); have n1_ := kt HK hk; have n2_ := Aside0.mk (hb); have n3_ := Aside0.mk (hi); clear HK; clear HB; clear HI0; have HO565 := n0_; have HK := n1_; have HB := n2_; have HI0 := n3_; clear n0_ n1_ n2_ n3_; (try clear hb); (try clear hb2); (try clear hk); (try clear hi); (try clear ho0)) | ((with_reducible refine gate_callee (f := 64) rfl ?_); refine goesL_ (some 7) rfl rfl Try.func64 (by kernel_rfl) rfl #[.pointer (some ⟨g, 0, none⟩), .int .i64 24] rfl mxp ?_; (with_reducible refine (spec_l1Rd_pick.calls k g s0_0 t566 24 t567 t568 w0 _ ?side1 ?side2 A3.out).mono ?_); (case side1 => exact ib HI0.out); (case side2 => exact bi HB.out); rintro e w16 ⟨rfl, hi, hb, hk⟩; refine ⟨_, rfl, ?_⟩; have n0_ := Aside0.mk (Kd.R_mono (Kd.R_keep (IsS107.apart (show IsS107 w0 _ g s0_0 t566 from ib HI0.out) (rx HO565.out) (by decide)) hk (fun _ h => h.2)) (fun _ h => h.1)); have n1_ := kt HK hk; have n2_ := Aside0.mk (hb); have n3_ := Aside0.mk (hi); clear HO565; clear HK; clear HB; clear HI0; have HO565 := n0_; have HK := n1_; have HB := n2_; have HI0 := n3_; clear n0_ n1_ n2_ n3_; (try clear hb); (try clear hb2); (try clear hk); (try clear hi)))
   go_ret
   exact ⟨_, exq, by refine rx ?_; exact HO565.out, ib HI0.out, bi HB.out, kb HK.out⟩


/-! ### spec_l5From: function 87 -/
def spec_l5From.j0 : Nat → List (S39) → Bool → List Int → Int → Option (ByteArray × Int)
 | 0, _, _, _, _ => none
 | k + 1, x1, x12, x1000, x1001 => if x12 = true then ((spec_l1Rd_pick.f k x1000 x1001 (x1.length : Int)).bind fun bt578 => (if 0 ≤ bt578.1 then (if bt578.1 < (x1.length : Int) then (some ((rd_T39 x1 bt578.1).f0, bt578.2)) else (none)) else (none))) else ((spec_l1Rd_of.f k x1000 x1001 (([(⟨#[103, 111, 111, 100]⟩ : ByteArray), (⟨#[115, 99, 114, 97, 112, 112, 101, 100]⟩ : ByteArray), (⟨#[110, 111, 110, 101]⟩ : ByteArray), (⟨#[]⟩ : ByteArray)] : List ByteArray))).bind fun bt584 => (some (bt584.1, bt584.2)))
def spec_l5From.f (k : Nat) (s0_0 : List Int) (s0_1 : Int) (l1 : List (S39)) : Option (ByteArray × Int) := if (l1.length : Int) > 0 then ((spec_l1Rd_pick.f k s0_0 s0_1 8).bind fun bt576 => (spec_l5From.j0 k l1 (decide (bt576.1 > 0)) s0_0 bt576.2)) else (spec_l5From.j0 k l1 false s0_0 s0_1)
theorem spec_l5From.mono_l : ∀ k, (∀ y0 y1 y2 y3, LeO (spec_l5From.j0 k y0 y1 y2 y3) (spec_l5From.j0 (k + 1) y0 y1 y2 y3))
 | 0 => fun _ _ _ _ r h => by simp [spec_l5From.j0] at h
 | k + 1 => by
  have ih0 := spec_l5From.mono_l k
  ·intro y0 y1 y2 y3
   unfold spec_l5From.j0
   repeat' first
   | (with_reducible exact ih0 _ _ _ _)
   | (with_reducible exact spec_l1Rd_of.mono _ _ _ _)
   | (with_reducible exact spec_l1Rd_pick.mono _ _ _ _)
   | (with_reducible exact LeO.refl _)
   | (with_reducible exact LeO.none _)
   | (with_reducible refine LeO.ite ?_ ?_)
   | (with_reducible refine LeO.bind ?_ (fun _ => ?_))
   | exact ih0 _ _ _ _
   | exact spec_l1Rd_of.mono _ _ _ _
   | exact spec_l1Rd_pick.mono _ _ _ _
   | exact LeO.none _
   | refine LeO.ite ?_ ?_
   | refine LeO.bind ?_ (fun _ => ?_)
theorem spec_l5From.mono : ∀ a0 a1 a2 k, LeO (spec_l5From.f k a0 a1 a2) (spec_l5From.f (k + 1) a0 a1 a2) := by
 intro a0 a1 a2 k
 have ih0 := spec_l5From.mono_l k
 unfold spec_l5From.f
 repeat' first
   | (with_reducible exact ih0 _ _ _ _)
   | (with_reducible exact spec_l1Rd_of.mono _ _ _ _)
   | (with_reducible exact spec_l1Rd_pick.mono _ _ _ _)
   | (with_reducible exact LeO.refl _)
   | (with_reducible exact LeO.none _)
   | (with_reducible refine LeO.ite ?_ ?_)
   | (with_reducible refine LeO.bind ?_ (fun _ => ?_))
   | exact ih0 _ _ _ _
   | exact spec_l1Rd_of.mono _ _ _ _
   | exact spec_l1Rd_pick.mono _ _ _ _
   | exact LeO.none _
   | refine LeO.ite ?_ ?_
   | refine LeO.bind ?_ (fun _ => ?_)
set_option maxHeartbeats 8000000 in
set_option maxRecDepth 100000 in
theorem spec_l5From.calls (k : Nat) (g : Nat) (s0_0 : List Int) (s0_1 : Int) (A1 : Option Addr) (c1 : Nat) (l1 : List (S39)) (r1 : ByteArray) (r2 : Int) (w0 w : World) (hI : IsS107 w0 w g s0_0 s0_1) (hB : Below w0.heap.size w0 w) (hr1 : ∀ W_, KeepBut w W_ g none → Kd.C k39 W_ A1 l1.length l1) (hc1 : l1.length ≤ c1) (h : spec_l5From.f k s0_0 s0_1 l1 = some (r1, r2)) :
  Calls Try.prog 87 #[.pointer (some ⟨g, 0, none⟩), .slice A1 l1.length c1] w fun e w' => e = .returned (.string r1) ∧ IsS107 w0 w' g s0_0 r2 ∧ Below w0.heap.size w0 w' ∧ KeepBut w w' g none := by
 have HR1 := Aside0.mk hr1
 have HC1 := Aside0.mk hc1
 clear hr1 hc1
 have HI0 := Aside0.mk hI
 have HK := Aside0.mk (KeepBut.refl w g none)
 have HL := Aside0.mk hB.size
 clear hI
 have HW0 := Aside0.mk hB.size
 have HB := Aside0.mk hB
 clear hB
 have H : (if (l1.length : Int) > 0 then ((spec_l1Rd_pick.f k s0_0 s0_1 8).bind fun bt576 => (spec_l5From.j0 k l1 (decide (bt576.1 > 0)) s0_0 bt576.2)) else (spec_l5From.j0 k l1 false s0_0 s0_1)) = some (r1, r2) := h
 clear h
 have HC3 := Aside0.mk H
 clear H
 go_enter Try.func87, Try.ntmps87
 go_upto_region 1 with (fail)
 go_cut [12] (fun v12 wc => ∃ (kq : Nat) (x12_2 : Bool) (x1001_2 : Int), v12 = .bool x12_2 ∧ Aside0 (spec_l5From.j0 kq l1 x12_2 s0_0 x1001_2 = some (r1, r2)) ∧ Aside0 (kq ≤ k) ∧ Aside0 (IsS107 w0 wc g s0_0 x1001_2) ∧ Aside0 (KeepBut w wc g none) ∧ Aside0 (Below w0.heap.size w0 wc))
 case first =>
  have H := HC3.out
  clear HC3
  by_cases c4 : (l1.length : Int) > 0
  ·rw [if_pos c4] at H
   have c4b0 : decide (0 < (l1.length : Int)) = true := decide_eq_true c4
   have c4b1 : decide (0 < l1.length) = true := decide_eq_true (by omega)
   clear c4
   (first | rw [c4b0] | (simp only [i64_w, i32_w]; rw [c4b0]) | skip)
   replace H := Option.bind_eq_some_iff.mp H
   obtain ⟨⟨t576, t577⟩, A50, H⟩ := H
   replace H : (spec_l5From.j0 k l1 (decide (t576 > 0)) s0_0 t577) = some (r1, r2) := H
   have A5 := Aside0.mk A50
   clear A50
   have H' := Aside0.mk H
   clear H
   go_wp2_with (first | (go_at_call 64; (with_reducible refine (spec_l1Rd_pick.calls k g s0_0 s0_1 8 t576 t577 w0 _ ?side1 ?side2 A5.out).mono ?_); (case side1 => exact ib HI0.out); (case side2 => exact bi HB.out); rintro e w6 ⟨rfl, hi, hb, hk⟩; have n0_ := kt HK hk; have n1_ := Aside0.mk (hb); have n2_ := Aside0.mk (hi); clear HK; clear HB; clear HI0; have HK := n0_; have HB := n1_; have HI0 := n2_; clear n0_ n1_ n2_; (try clear hb); (try clear hb2); (try clear hk); (try clear hi)))
   go_meet
   case rel => exact ⟨_, (decide (t576 > 0)), (t577), (by first | rfl | (simp; done) | (simp [*]; done)), H', ⟨by first | omega | exact Nat.le_refl _⟩, ⟨ib HI0.out⟩, ⟨kb HK.out⟩, (hbi HB)⟩
  ·rw [if_neg c4] at H
   have c4b0 : decide (0 < (l1.length : Int)) = false := decide_eq_false c4
   have c4b1 : decide (0 < l1.length) = false := decide_eq_false (by omega)
   clear c4
   (first | rw [c4b0] | (simp only [i64_w, i32_w]; rw [c4b0]) | skip)
   have H' := Aside0.mk H
   clear H
   go_wp2
   go_meet
   case rel => exact ⟨_, (false), (s0_1), (by first | rfl | (simp; done) | (simp [*]; done)), H', ⟨by first | omega | exact Nat.le_refl _⟩, ⟨ib HI0.out⟩, ⟨kb HK.out⟩, (hbi HB)⟩
 case rest =>
  clear HC3
  try clear c1
  try clear p2
  try clear c4
  try clear c4b0
  try clear c4b1
  obtain ⟨kq, x12_2, x1001_2, rfl, HA, HJ2, HI0, HK, HB⟩ := hcut
  cases kq with
  | zero => exact absurd HA.out (by simp [spec_l5From.j0])
  | succ kj2 =>
   have H := HA.out
   clear HA
   simp only [spec_l5From.j0] at H
   by_cases c7 : x12_2 = true
   ·subst c7
    have H1 : ((spec_l1Rd_pick.f kj2 s0_0 x1001_2 (l1.length : Int)).bind fun bt578 => (if 0 ≤ bt578.1 then (if bt578.1 < (l1.length : Int) then (some ((rd_T39 l1 bt578.1).f0, bt578.2)) else (none)) else (none))) = some (r1, r2) := by rw [if_pos rfl] at H; exact H
    clear H
    have H := H1
    clear H1
    replace H := Option.bind_eq_some_iff.mp H
    obtain ⟨⟨t578, t579⟩, A80, H⟩ := H
    replace H : (if 0 ≤ t578 then (if t578 < (l1.length : Int) then (some ((rd_T39 l1 t578).f0, t579)) else (none)) else (none)) = some (r1, r2) := H
    have A8 := Aside0.mk A80
    clear A80
    by_cases c9 : 0 ≤ t578
    ·rw [if_pos c9] at H
     have c9b0 : decide (0 ≤ t578) = true := decide_eq_true c9
     clear c9
     by_cases c10 : t578 < (l1.length : Int)
     ·rw [if_pos c10] at H
      have c10b0 : decide (t578 < (l1.length : Int)) = true := decide_eq_true c10
      clear c10
      simp only [Option.some.injEq, Prod.mk.injEq] at H
      obtain ⟨rfl, rfl⟩ := H
      go_wp2_with (first | ((with_reducible refine gate_callee (f := 64) rfl ?_); refine goesL_ (some 17) rfl rfl Try.func64 (by kernel_rfl) rfl #[.pointer (some ⟨g, 0, none⟩), .int .i64 (l1.length : Int)] rfl mxp ?_; (with_reducible refine (spec_l1Rd_pick.calls kj2 g s0_0 x1001_2 (l1.length : Int) t578 t579 w0 _ ?side1 ?side2 A8.out).mono ?_); (case side1 => exact ib HI0.out); (case side2 => exact bi HB.out); rintro e w11 ⟨rfl, hi, hb, hk⟩; refine ⟨_, rfl, ?_⟩; have n0_ := kt HK hk; have n1_ := Aside0.mk (hb); have n2_ := Aside0.mk (hi); clear HK; clear HB; clear HI0; have HK := n0_; have HB := n1_; have HI0 := n2_; clear n0_ n1_ n2_; (try clear hb); (try clear hb2); (try clear hk); (try clear hi); have p580 : 0 ≤ (t578 : Int) := oda; have q580 : t578 < (l1.length : Int) := oda; obtain ⟨ad580, e580, hx580_0, hx580_1, hx580_2, hx580_3, hx580_4, hx580_5, hx580_6, hx580_7⟩ := at_T39 (Kd.C_foot_now HR1.out HK.out) t578 p580 q580; cases e580; replace p580 := eq_true p580; replace q580 := eq_true q580))
      go_ret
      exact ⟨exq, ib HI0.out, bi HB.out, kb HK.out⟩
     ·rw [if_neg c10] at H
      exact absurd H (by simp)
    ·rw [if_neg c9] at H
     exact absurd H (by simp)
   ·replace c7 := Bool.eq_false_iff.mpr c7
    subst c7
    have H1 : ((spec_l1Rd_of.f kj2 s0_0 x1001_2 (([(⟨#[103, 111, 111, 100]⟩ : ByteArray), (⟨#[115, 99, 114, 97, 112, 112, 101, 100]⟩ : ByteArray), (⟨#[110, 111, 110, 101]⟩ : ByteArray), (⟨#[]⟩ : ByteArray)] : List ByteArray))).bind fun bt584 => (some (bt584.1, bt584.2))) = some (r1, r2) := by rw [if_neg (show ¬ (false = true) by decide)] at H; exact H
    clear H
    have H := H1
    clear H1
    obtain ⟨y581, hy581⟩ : ∃ y_ : List ByteArray, y_ = (([(⟨#[103, 111, 111, 100]⟩ : ByteArray), (⟨#[115, 99, 114, 97, 112, 112, 101, 100]⟩ : ByteArray), (⟨#[110, 111, 110, 101]⟩ : ByteArray), (⟨#[]⟩ : ByteArray)] : List ByteArray)) := ⟨_, rfl⟩
    replace H : ((spec_l1Rd_of.f kj2 s0_0 x1001_2 y581).bind fun bt584 => (some (bt584.1, bt584.2))) = some (r1, r2) := by first | (rw [hy581]; with_reducible exact H) | (have H2_ := (Option.bind_some _ _).symm.trans H; rw [hy581]; with_reducible exact H2_) | (have H2_ := (Option.bind_some _ _).symm.trans H; with_reducible exact H2_) | with_reducible exact H | (rw [hy581]; exact H) | exact H
    have Ny581 := Aside0.mk hy581
    clear hy581
    replace H := Option.bind_eq_some_iff.mp H
    obtain ⟨⟨t584, t585⟩, A120, H⟩ := H
    replace H : (some (t584, t585)) = some (r1, r2) := H
    have A12 := Aside0.mk A120
    clear A120
    simp only [Option.some.injEq, Prod.mk.injEq] at H
    obtain ⟨rfl, rfl⟩ := H
    go_wp2_with (first | ((with_reducible refine gate_dst (N := 22) rfl ?_); refine Kd.R_lit Kd.string _ 9 ?hg (N := 22) ?hd (xs := ([(⟨#[103, 111, 111, 100]⟩ : ByteArray), (⟨#[115, 99, 114, 97, 112, 112, 101, 100]⟩ : ByteArray), (⟨#[110, 111, 110, 101]⟩ : ByteArray), (⟨#[]⟩ : ByteArray)] : List ByteArray)) (inner := [.string (⟨#[103, 111, 111, 100]⟩ : ByteArray), .string (⟨#[115, 99, 114, 97, 112, 112, 101, 100]⟩ : ByteArray), .string (⟨#[110, 111, 110, 101]⟩ : ByteArray), .string (⟨#[]⟩ : ByteArray)]) (ok := fun _ => True) (okp := fun _ => True) ?hr ?hp (fun _ hk => hk) trivial (Below.refl _ _) (Nat.le_refl _) (by simp) ?_; (case hd => rfl); (case hg => rfl); (case hr => first | (go_simp; done) | (go_simp; rfl)); (case hp => exact (Reps.one (show Kd.M Kd.string _ _ _ (⟨#[103, 111, 111, 100]⟩ : ByteArray) [.string (⟨#[103, 111, 111, 100]⟩ : ByteArray)] from rfl) (Reps.one (show Kd.M Kd.string _ _ _ (⟨#[115, 99, 114, 97, 112, 112, 101, 100]⟩ : ByteArray) [.string (⟨#[115, 99, 114, 97, 112, 112, 101, 100]⟩ : ByteArray)] from rfl) (Reps.one (show Kd.M Kd.string _ _ _ (⟨#[110, 111, 110, 101]⟩ : ByteArray) [.string (⟨#[110, 111, 110, 101]⟩ : ByteArray)] from rfl) (Reps.one (show Kd.M Kd.string _ _ _ (⟨#[]⟩ : ByteArray) [.string (⟨#[]⟩ : ByteArray)] from rfl) (Reps.none _ _)))))); intro v582 w13 ho14 hb hg_ hnew_; clear hg_ hnew_; (first | rw [← Ny581.out] at ho14 | (simp only [Int.reduceToNat] at ho14; rw [← Ny581.out] at ho14)); have n0_ := Aside0.mk (Kd.R_lower ho14 (keep_size (w := w) (g := g) (row := none) (kb HK.out))); have n1_ := Aside0.mk (IsS107.below (ib HI0.out) hb); have n2_ := kt HK (KeepBut.of_below hb g none); have n3_ := bsi HB hb; clear HI0; clear HK; clear HB; have HO583 := n0_; have HI0 := n1_; have HK := n2_; have HB := n3_; clear n0_ n1_ n2_ n3_; clear hb ho14; obtain ⟨Ao15, co15, eo15⟩ := Kd.R_slice HO583.out; subst eo15) | ((with_reducible refine gate_callee (f := 80) rfl ?_); refine goesL_ (some 23) rfl rfl Try.func80 (by kernel_rfl) rfl #[.pointer (some ⟨g, 0, none⟩), .slice Ao15 y581.length co15] rfl mxp ?_; (with_reducible refine (spec_l1Rd_of.calls kj2 g s0_0 x1001_2 _ _ y581 t584 t585 w0 _ ?side1 ?side2 ?side3 ?side4 ?side5 A12.out).mono ?_); (case side1 => exact ib HI0.out); (case side2 => exact bi HB.out); (case side3 => exact cx (Kd.R_reads' HO583.out).2.2); (case side4 => exact (Kd.R_reads' HO583.out).2.1); (case side5 => exact far_slice (IsS107.own_ne HI0.out HO583.out (by decide))); rintro e w16 ⟨rfl, hi, hb, hk⟩; refine ⟨_, rfl, ?_⟩; have n0_ := Aside0.mk (Kd.R_mono (Kd.R_keep (IsS107.apart (show IsS107 w0 _ g s0_0 x1001_2 from ib HI0.out) (rx HO583.out) (by decide)) hk (fun _ h => h.2)) (fun _ h => h.1)); have n1_ := kt HK hk; have n2_ := Aside0.mk (hb); have n3_ := Aside0.mk (hi); clear HO583; clear HK; clear HB; clear HI0; have HO583 := n0_; have HK := n1_; have HB := n2_; have HI0 := n3_; clear n0_ n1_ n2_ n3_; (try clear hb); (try clear hb2); (try clear hk); (try clear hi)))
    go_ret
    exact ⟨exq, ib HI0.out, bi HB.out, kb HK.out⟩


/-! ### spec_DrawRecSlots: function 92 -/
def spec_DrawRecSlots.f (k : Nat) (l0 : List Int) : Option ((List (S39)) × ByteArray) := (spec_l1Open.f l0).bind fun bt970 => ((spec_l5Any.f k bt970.1 bt970.2).bind fun bt973 => ((spec_l5From.f k bt970.1 bt973.2 bt973.1).bind fun bt977 => (some (bt973.1, bt977.1))))
theorem spec_DrawRecSlots.mono : ∀ a0 k, LeO (spec_DrawRecSlots.f k a0) (spec_DrawRecSlots.f (k + 1) a0) := by
 intro a0 k
 unfold spec_DrawRecSlots.f
 repeat' first
   | (with_reducible exact spec_l5Any.mono _ _ _)
   | (with_reducible exact spec_l5From.mono _ _ _ _)
   | (with_reducible exact LeO.refl _)
   | (with_reducible exact LeO.none _)
   | (with_reducible refine LeO.ite ?_ ?_)
   | (with_reducible refine LeO.bind ?_ (fun _ => ?_))
   | exact spec_l5Any.mono _ _ _
   | exact spec_l5From.mono _ _ _ _
   | exact LeO.none _
   | refine LeO.ite ?_ ?_
   | refine LeO.bind ?_ (fun _ => ?_)
set_option maxHeartbeats 8000000 in
set_option maxRecDepth 100000 in
theorem spec_DrawRecSlots.calls (k : Nat) (A0 : Option Addr) (c0 : Nat) (l0 : List Int) (r1 : List (S39)) (r2 : ByteArray) (w : World) (hr0 : Kd.C (Kd.int .u8) w A0 l0.length l0) (hc0 : l0.length ≤ c0) (h : spec_DrawRecSlots.f k l0 = some (r1, r2)) :
  Calls Try.prog 92 #[.slice A0 l0.length c0] w fun e w' => ∃ v0_ : Value, e = .returned (.tuple #[v0_, .string r2]) ∧ Kd.R k39 39 w' w.heap.size (fun _ => True) v0_ r1 ∧ Below w.heap.size w w' := by
 have HR0 := Aside0.mk hr0
 have HC0 := Aside0.mk hc0
 clear hr0 hc0
 have HB := Aside0.mk (Below.refl w.heap.size w)
 have H : ((spec_l1Open.f l0).bind fun bt970 => ((spec_l5Any.f k bt970.1 bt970.2).bind fun bt973 => ((spec_l5From.f k bt970.1 bt973.2 bt973.1).bind fun bt977 => (some (bt973.1, bt977.1))))) = some (r1, r2) := h
 clear h
 replace H := Option.bind_eq_some_iff.mp H
 obtain ⟨⟨t970, t971⟩, A20, H⟩ := H
 replace H : ((spec_l5Any.f k t970 t971).bind fun bt973 => ((spec_l5From.f k t970 bt973.2 bt973.1).bind fun bt977 => (some (bt973.1, bt977.1)))) = some (r1, r2) := H
 have A2 := Aside0.mk A20
 clear A20
 replace H := Option.bind_eq_some_iff.mp H
 obtain ⟨⟨t973, t976⟩, A30, H⟩ := H
 replace H : ((spec_l5From.f k t970 t976 t973).bind fun bt977 => (some (t973, bt977.1))) = some (r1, r2) := H
 have A3 := Aside0.mk A30
 clear A30
 replace H := Option.bind_eq_some_iff.mp H
 obtain ⟨⟨t977, t978⟩, A40, H⟩ := H
 replace H : (some (t973, t977)) = some (r1, r2) := H
 have A4 := Aside0.mk A40
 clear A40
 simp only [Option.some.injEq, Prod.mk.injEq] at H
 obtain ⟨rfl, rfl⟩ := H
 go_enter Try.func92, Try.ntmps92
 go_wp2_with (first | ((with_reducible refine gate_callee (f := 62) rfl ?_); refine goesL_ (some 7) rfl rfl Try.func62 (by kernel_rfl) rfl #[.slice A0 l0.length c0] rfl mxp ?_; (with_reducible refine (spec_l1Open.calls _ _ l0 t970 t971 w _ ?side1 ?side2 ?side3 A2.out).mono ?_); (case side1 => exact bw HB.out); (case side2 => exact HR0.out); (case side3 => exact HC0.out); rintro e w5 ⟨g972, rfl, hi, hb, hb2⟩; refine ⟨_, rfl, ?_⟩; have n0_ := Aside0.mk (hb); have n1_ := Aside0.mk (hi); clear HB; have HB := n0_; have HI972 := n1_; clear n0_ n1_; (try clear hb); (try clear hb2); (try clear hk); (try clear hi)) | ((with_reducible refine gate_callee (f := 63) rfl ?_); refine goesL_ (some 9) rfl rfl Try.func63 (by kernel_rfl) rfl #[.pointer (some ⟨g972, 0, none⟩)] rfl mxp ?_; (with_reducible refine (spec_l5Any.calls k g972 t970 t971 t973 t976 w _ ?side1 ?side2 A3.out).mono ?_); (case side1 => exact ib HI972.out); (case side2 => exact bi HB.out); rintro e w6 ⟨v974, rfl, ho0, hi, hb, hk⟩; refine ⟨_, rfl, ?_⟩; have n0_ := Aside0.mk (Kd.R_lower ho0 (below_size (bi HB.out))); have n1_ := Aside0.mk (hb); have n2_ := Aside0.mk (hi); clear HB; clear HI972; have HO975 := n0_; have HB := n1_; have HI972 := n2_; clear n0_ n1_ n2_; (try clear hb); (try clear hb2); (try clear hk); (try clear hi); (try clear ho0); obtain ⟨Ao7, co7, eo7⟩ := Kd.R_slice HO975.out; subst eo7) | ((with_reducible refine gate_callee (f := 87) rfl ?_); refine goesL_ (some 13) rfl rfl Try.func87 (by kernel_rfl) rfl #[.pointer (some ⟨g972, 0, none⟩), .slice Ao7 t973.length co7] rfl mxp ?_; (with_reducible refine (spec_l5From.calls k g972 t970 t976 _ _ t973 t977 t978 w _ ?side1 ?side2 ?side3 ?side4 A4.out).mono ?_); (case side1 => exact ib HI972.out); (case side2 => exact bi HB.out); (case side3 => exact Kd.C_foot_own (IsS107.apart (show IsS107 w _ g972 t970 t976 from ib HI972.out) (rx HO975.out) (by decide)) (fun _ h_ => h_.2)); (case side4 => exact (Kd.R_reads' HO975.out).2.1); rintro e w8 ⟨rfl, hi, hb, hk⟩; refine ⟨_, rfl, ?_⟩; have n0_ := Aside0.mk (Kd.R_mono (Kd.R_keep (IsS107.apart (show IsS107 w _ g972 t970 t976 from ib HI972.out) (rx HO975.out) (by decide)) hk (fun _ h => h.2)) (fun _ h => h.1)); have n1_ := Aside0.mk (hb); have n2_ := Aside0.mk (hi); clear HO975; clear HB; clear HI972; have HO975 := n0_; have HB := n1_; have HI972 := n2_; clear n0_ n1_ n2_; (try clear hb); (try clear hb2); (try clear hk); (try clear hi)))
 go_ret2
 exact ⟨_, exq, by refine rx ?_; exact HO975.out, bi HB.out⟩


/-! ### spec_DrawRecBound: function 60 -/
def spec_DrawRecBound.f (k : Nat) (l0 : List Int) : Option ((List (S39)) × ByteArray) := (spec_DrawRecSlots.f k l0).bind fun bt979 => (some (bt979.1, bt979.2))
theorem spec_DrawRecBound.mono : ∀ a0 k, LeO (spec_DrawRecBound.f k a0) (spec_DrawRecBound.f (k + 1) a0) := by
 intro a0 k
 unfold spec_DrawRecBound.f
 repeat' first
   | (with_reducible exact spec_DrawRecSlots.mono _ _)
   | (with_reducible exact LeO.refl _)
   | (with_reducible exact LeO.none _)
   | (with_reducible refine LeO.ite ?_ ?_)
   | (with_reducible refine LeO.bind ?_ (fun _ => ?_))
   | exact spec_DrawRecSlots.mono _ _
   | exact LeO.none _
   | refine LeO.ite ?_ ?_
   | refine LeO.bind ?_ (fun _ => ?_)
set_option maxHeartbeats 8000000 in
set_option maxRecDepth 100000 in
theorem spec_DrawRecBound.calls (k : Nat) (A0 : Option Addr) (c0 : Nat) (l0 : List Int) (r1 : List (S39)) (r2 : ByteArray) (w : World) (hr0 : Kd.C (Kd.int .u8) w A0 l0.length l0) (hc0 : l0.length ≤ c0) (h : spec_DrawRecBound.f k l0 = some (r1, r2)) :
  Calls Try.prog 60 #[.slice A0 l0.length c0] w fun e w' => ∃ v0_ : Value, e = .returned (.tuple #[v0_, .string r2]) ∧ Kd.R k39 39 w' w.heap.size (fun _ => True) v0_ r1 ∧ Below w.heap.size w w' := by
 have HR0 := Aside0.mk hr0
 have HC0 := Aside0.mk hc0
 clear hr0 hc0
 have HB := Aside0.mk (Below.refl w.heap.size w)
 have H : ((spec_DrawRecSlots.f k l0).bind fun bt979 => (some (bt979.1, bt979.2))) = some (r1, r2) := h
 clear h
 replace H := Option.bind_eq_some_iff.mp H
 obtain ⟨⟨t979, t980⟩, A20, H⟩ := H
 replace H : (some (t979, t980)) = some (r1, r2) := H
 have A2 := Aside0.mk A20
 clear A20
 simp only [Option.some.injEq, Prod.mk.injEq] at H
 obtain ⟨rfl, rfl⟩ := H
 go_enter Try.func60, Try.ntmps60
 go_wp2_with (first | ((with_reducible refine gate_callee (f := 92) rfl ?_); refine goesL_ (some 5) rfl rfl Try.func92 (by kernel_rfl) rfl #[.slice A0 l0.length c0] rfl mxp ?_; (with_reducible refine (spec_DrawRecSlots.calls k _ _ l0 t979 t980 _ ?side1 ?side2 A2.out).mono ?_); (case side1 => exact cx HR0.out); (case side2 => exact HC0.out); rintro e w3 ⟨v981, rfl, ho0, hb⟩; refine ⟨_, rfl, ?_⟩; have n0_ := Aside0.mk (Kd.R_lower ho0 (below_size (bw HB.out))); have n1_ := bs HB hb; clear HB; have HO982 := n0_; have HB := n1_; clear n0_ n1_; (try clear hb); (try clear hb2); (try clear hk); (try clear hi); (try clear ho0)))
 go_ret2
 exact ⟨_, exq, by refine rx ?_; exact HO982.out, bw HB.out⟩

end Go.Proofs.Ytdkologncoofdaa.P
-- Q3
namespace Go.Proofs.Ytdkologncoofdaa.P
open Go.RowKit Go.Proofs.YtdkologncoofdaaW.PrintWords Go.Proofs.YtdkologncoofdaaW.PrintLast
set_option linter.unusedVariables false
set_option linter.unusedSimpArgs false

/-! ### Places -/
/-- The first place from i on of a phase of this name. -/
theorem atOf_range (l : List S39) (a : ByteArray) : -1 ≤ atOf l a ∧ atOf l a < (l.length : Int) := by
  unfold atOf
  cases h : l.findIdx? (fun p => p.f0.toList == a.toList) with
  | none => simp only; omega
  | some i =>
    obtain ⟨hlt, _⟩ := List.findIdx?_eq_some_iff_getElem.1 h
    simp only
    omega
theorem atOf_name (l : List S39) (a : ByteArray) (h : 0 ≤ atOf l a) : (rd_T39 l (atOf l a)).f0.toList = a.toList := by
  unfold atOf at h ⊢
  cases e : l.findIdx? (fun p => p.f0.toList == a.toList) with
  | none => rw [e] at h; simp at h
  | some i =>
    obtain ⟨hlt, h1, _⟩ := List.findIdx?_eq_some_iff_getElem.1 e
    simp only [rd_T39, Int.toNat_natCast]
    rw [List.getD_eq_getElem?_getD, List.getElem?_eq_getElem hlt]
    simpa using h1
theorem atOf_not (l : List S39) (a : ByteArray) (h : atOf l a < 0) (j : Nat) (hj : j < l.length) : (l.getD j z39).f0.toList ≠ a.toList := by
  unfold atOf at h
  cases e : l.findIdx? (fun p => p.f0.toList == a.toList) with
  | some i => rw [e] at h; simp only at h; omega
  | none =>
    have h2 := List.findIdx?_eq_none_iff.1 e (l.getD j z39) (by rw [List.getD_eq_getElem?_getD, List.getElem?_eq_getElem hj]; exact List.getElem_mem hj)
    simpa using h2
theorem at_loop (l : List S39) (a : ByteArray) (hl : l.length ≤ 9223372036854775807) (d : Nat) : ∀ (i k : Nat), i ≤ l.length → l.length - i = d → d < k →
    (∀ j, j < i → ((l.getD j z39).f0.toList == a.toList) = false) → spec_l2At.l0 k l a (i : Int) = some (atOf l a) := by
  induction d with
  | zero =>
    intro i k hi hd hk hb
    obtain ⟨k, rfl⟩ : ∃ m, k = m + 1 := ⟨k - 1, by omega⟩
    simp only [spec_l2At.l0]
    rw [if_neg (by omega), atOf_miss l a (fun j hj => hb j (by omega))]
  | succ d ih =>
    intro i k hi hd hk hb
    obtain ⟨k, rfl⟩ : ∃ m, k = m + 1 := ⟨k - 1, by omega⟩
    simp only [spec_l2At.l0]
    have e : rd_T39 l (i : Int) = l.getD i z39 := by simp [rd_T39]
    rw [if_pos (by omega), if_pos (by omega), e]
    by_cases h : (l.getD i z39).f0.toList = a.toList
    · rw [if_pos h, atOf_hit l a i (by omega) (by simpa using h) hb]
    · rw [if_neg h, show wrap64 ((i : Int) + 1) = ((i + 1 : Nat) : Int) from by rw [wrap_id (by omega) (by omega)]; omega]
      refine ih (i + 1) k (by omega) (by omega) (by omega) (fun j hj => ?_)
      by_cases e2 : j = i
      · subst e2; simpa using h
      · exact hb j (by omega)
theorem spec_at (l : List S39) (a : ByteArray) (hl : l.length ≤ 9223372036854775807) (k : Nat) (hk : l.length < k) : spec_l2At.f k l a = some (atOf l a) :=
  at_loop l a hl l.length 0 k (by omega) (by omega) hk (fun j hj => absurd hj (Nat.not_lt_zero _))

/-! ### Recipes -/
def refOk (l : List S39) (i : Int) (n : ByteArray) : Bool := !(endOf n == 0) || decide (i < atOf l n)
def okAt (l : List S39) (i : Nat) : Bool := phOk (rd_T39 l i) && (atOf l (rd_T39 l i).f0 == (i : Int)) && refOk l i (rd_T39 l i).f6 && refOk l i (rd_T39 l i).f7
def restOk (l : List S39) (i : Nat) : Bool := (List.range (l.length - i)).all fun j => okAt l (i + j)
def recOk (l : List S39) : Bool := inB (l.length : Int) 1 12 && restOk l 0
theorem restOk_end (l : List S39) (i : Nat) (h : l.length ≤ i) : restOk l i = true := by
  unfold restOk; rw [show l.length - i = 0 from by omega]; rfl
theorem restOk_step (l : List S39) (i : Nat) (h : i < l.length) : restOk l i = (okAt l i && restOk l (i + 1)) := by
  unfold restOk
  rw [show l.length - i = (l.length - (i + 1)) + 1 from by omega, List.range_succ_eq_map, List.all_cons, List.all_map]
  congr 1
  apply congrArg
  funext j
  simp only [Function.comp_apply, Nat.succ_eq_add_one]
  rw [show i + (j + 1) = i + 1 + j from by omega]
theorem recOk_at (l : List S39) (h : recOk l = true) (i : Nat) (hi : i < l.length) : okAt l i = true := by
  unfold recOk restOk at h
  simp only [Bool.and_eq_true, List.all_eq_true] at h
  have := h.2 i (List.mem_range.2 (by omega))
  simpa using this
theorem recOk_len (l : List S39) (h : recOk l = true) : 1 ≤ l.length ∧ l.length ≤ 12 := by
  unfold recOk at h
  simp only [Bool.and_eq_true, inB_iff] at h
  omega

theorem spec_ok_loop (l : List S39) (hl : l.length ≤ 12) (d : Nat) : ∀ (i k : Nat), i ≤ l.length → l.length - i = d → 2 * d + 20 ≤ k → spec_RecOk.l0 k l (i : Int) = some (restOk l i) := by
  induction d with
  | zero =>
    intro i k hi hd hk
    obtain ⟨k, rfl⟩ : ∃ m, k = m + 1 := ⟨k - 1, by omega⟩
    simp only [spec_RecOk.l0]
    rw [if_neg (by omega), restOk_end l i (by omega)]
  | succ d ih =>
    intro i k hi hd hk
    obtain ⟨k, rfl⟩ : ∃ m, k = m + 2 := ⟨k - 2, by omega⟩
    have hi' := ih (i + 1) k (by omega) (by omega) (by omega)
    have hw : wrap64 ((i : Int) + 1) = ((i + 1 : Nat) : Int) := by rw [wrap_id (by omega) (by omega)]; omega
    have hph : spec_RecPhaseOk.f (k + 1) (rd_T39 l i).f0 (rd_T39 l i).f1 (rd_T39 l i).f2 (rd_T39 l i).f3 (rd_T39 l i).f4 (rd_T39 l i).f5 (rd_T39 l i).f6 (rd_T39 l i).f7 = some (phOk (rd_T39 l i)) := by
      obtain ⟨m, hm⟩ : ∃ m, k + 1 = m + 9 := ⟨k - 8, by omega⟩
      rw [hm]; exact spec_ph _ m
    have hat : ∀ n, spec_l2At.f (k + 1) l n = some (atOf l n) := fun n => spec_at l n (by omega) _ (by omega)
    have hat' : ∀ n, spec_l2At.f k l n = some (atOf l n) := fun n => spec_at l n (by omega) _ (by omega)
    simp only [spec_RecOk.l0]
    rw [if_pos (by omega), if_pos (by omega), hph, Option.bind_some, hat, Option.bind_some, restOk_step l i (by omega)]
    unfold okAt
    cases h1 : phOk (rd_T39 l i)
    · rw [if_neg (by decide)]
      simp [spec_RecOk.j1]
    · rw [if_pos rfl]
      simp only [spec_RecOk.j1]
      by_cases h2 : atOf l (rd_T39 l i).f0 = (i : Int)
      · rw [if_neg (by simp [h2]), if_pos (by omega), if_pos (by omega), spec_end, Option.bind_some, spec_end, Option.bind_some, hat', hat', Option.bind_some, Option.bind_some, hw, hi']
        unfold refOk
        rw [show (atOf l (rd_T39 l i).f0 == (i : Int)) = true from beq_iff_eq.2 h2]
        by_cases e6 : endOf (rd_T39 l i).f6 = 0 <;> by_cases e7 : endOf (rd_T39 l i).f7 = 0 <;> by_cases a6 : atOf l (rd_T39 l i).f6 ≤ (i : Int) <;> by_cases a7 : atOf l (rd_T39 l i).f7 ≤ (i : Int) <;>
          simp [e6, e7, a6, a7, show (decide ((i : Int) < atOf l (rd_T39 l i).f6)) = !(decide (atOf l (rd_T39 l i).f6 ≤ (i : Int))) from by simp [← decide_not, Int.not_le], show (decide ((i : Int) < atOf l (rd_T39 l i).f7)) = !(decide (atOf l (rd_T39 l i).f7 ≤ (i : Int))) from by simp [← decide_not, Int.not_le]]
      · rw [if_pos (by simpa using h2), show (atOf l (rd_T39 l i).f0 == (i : Int)) = false from beq_eq_false_iff_ne.2 h2]
        simp
theorem spec_ok (l : List S39) (k : Nat) (hk : 44 ≤ k) : spec_RecOk.f k l = some (recOk l) := by
  unfold spec_RecOk.f recOk
  rw [spec_in, Option.bind_some]
  by_cases h : inB (l.length : Int) 1 12 = true
  · rw [if_pos h, h]
    have := inB_iff.1 h
    exact spec_ok_loop l (by omega) l.length 0 k (by omega) (by omega) (by omega)
  · rw [if_neg h, Bool.eq_false_iff.2 h]; rfl

/-- What stands behind a pair of names. -/
theorem impl_pair (l : List S39) (i : Nat) (x12 : Int) (k : Nat) (hk : 10 ≤ k) (n6 n7 : ByteArray) (r : Bool) (h0 : impl_RecOk.l0 k l l x12 (wrap64 ((i : Int) + 1)) = some r) :
    impl_RecOk.l1 (k + 3) l i l x12 i [n6, n7] 2 0 = some (refOk l i n6 && (refOk l i n7 && r)) := by
  have he : ∀ n m, 4 ≤ m → impl_RecEnd.f m n = some (endOf n) := fun n m hm => by
    obtain ⟨q, rfl⟩ : ∃ q, m = q + 4 := ⟨m - 4, by omega⟩
    exact impl_end n q
  have w1 : wrap64 (0 + 1) = 1 := wrap_id (by omega) (by omega)
  have w2 : wrap64 (1 + 1) = 2 := wrap_id (by omega) (by omega)
  have e0 : rdOf ByteArray.empty [n6, n7] 0 = n6 := rfl
  have e1 : rdOf ByteArray.empty [n6, n7] 1 = n7 := rfl
  simp only [impl_RecOk.l1, impl_at.f, w1, w2, e0, e1, List.length_cons, List.length_nil, he n6 (k + 2) (by omega), he n7 (k + 1) (by omega), Option.bind_some, h0]
  unfold refOk
  by_cases e6 : endOf n6 = 0 <;> by_cases e7 : endOf n7 = 0 <;> by_cases a6 : atOf l n6 ≤ (i : Int) <;> by_cases a7 : atOf l n7 ≤ (i : Int) <;>
    simp [show (endOf n6 == 0) = decide (endOf n6 = 0) from rfl, show (endOf n7 == 0) = decide (endOf n7 = 0) from rfl, e6, e7, a6, a7, show (decide ((i : Int) < atOf l n6)) = !(decide (atOf l n6 ≤ (i : Int))) from by simp [← decide_not, Int.not_le], show (decide ((i : Int) < atOf l n7)) = !(decide (atOf l n7 ≤ (i : Int))) from by simp [← decide_not, Int.not_le]]
theorem impl_ok_loop (l : List S39) (hl : l.length ≤ 12) (d : Nat) : ∀ (i k : Nat), i ≤ l.length → l.length - i = d → 5 * d + 20 ≤ k → impl_RecOk.l0 k l l (l.length : Int) (i : Int) = some (restOk l i) := by
  induction d with
  | zero =>
    intro i k hi hd hk
    obtain ⟨k, rfl⟩ : ∃ m, k = m + 1 := ⟨k - 1, by omega⟩
    simp only [impl_RecOk.l0]
    rw [if_neg (by omega), restOk_end l i (by omega)]
  | succ d ih =>
    intro i k hi hd hk
    obtain ⟨k, rfl⟩ : ∃ m, k = m + 5 := ⟨k - 5, by omega⟩
    have hi' := ih (i + 1) k (by omega) (by omega) (by omega)
    have hw : wrap64 ((i : Int) + 1) = ((i + 1 : Nat) : Int) := by rw [wrap_id (by omega) (by omega)]; omega
    have hph : impl_RecPhaseOk.f (k + 4) (rd_T39 l i).f0 (rd_T39 l i).f1 (rd_T39 l i).f2 (rd_T39 l i).f3 (rd_T39 l i).f4 (rd_T39 l i).f5 (rd_T39 l i).f6 (rd_T39 l i).f7 = some (phOk (rd_T39 l i)) := by
      obtain ⟨m, hm⟩ : ∃ m, k + 4 = m + 11 := ⟨k - 7, by omega⟩
      rw [hm]; exact impl_ph _ m
    have hp := impl_pair l i (l.length : Int) k (by omega) (rd_T39 l i).f6 (rd_T39 l i).f7 (restOk l (i + 1)) (by rw [hw]; exact hi')
    simp only [impl_RecOk.l0]
    rw [if_pos (by omega), if_pos (by omega), if_pos (by omega), hph, Option.bind_some, restOk_step l i (by omega)]
    unfold okAt
    cases h1 : phOk (rd_T39 l i)
    · rw [if_neg (by decide)]
      simp [impl_RecOk.j1]
    · rw [if_pos rfl]
      simp only [impl_RecOk.j1, impl_at.f, Option.bind_some]
      by_cases h2 : atOf l (rd_T39 l i).f0 = (i : Int)
      · rw [if_neg (by simp [h2])]
        simp only [List.length_cons, List.length_nil]
        rw [show (((0 + 1 + 1 : Nat) : Int)) = 2 from rfl, hp, show (atOf l (rd_T39 l i).f0 == (i : Int)) = true from beq_iff_eq.2 h2]
        simp only [Bool.true_and, Bool.and_assoc]
      · rw [if_pos (by simpa using h2), show (atOf l (rd_T39 l i).f0 == (i : Int)) = false from beq_eq_false_iff_ne.2 h2]
        simp
theorem impl_ok (l : List S39) (k : Nat) (hk : 80 ≤ k) : impl_RecOk.f k l = some (recOk l) := by
  unfold impl_RecOk.f recOk
  rw [impl_in', Option.bind_some]
  by_cases h : inB (l.length : Int) 1 12 = true
  · rw [if_pos h, h]
    have := inB_iff.1 h
    exact impl_ok_loop l (by omega) l.length 0 k (by omega) (by omega) (by omega)
  · rw [if_neg h, Bool.eq_false_iff.2 h]; rfl

end Go.Proofs.Ytdkologncoofdaa.P
-- Px7
namespace Go.Proofs.Ytdkologncoofdaa.P
open Go.RowKit Go.Proofs.YtdkologncoofdaaW.PrintWords Go.Proofs.YtdkologncoofdaaW.PrintLast Go.Proofs.YtdkologncoofdaaW.PrintMore
attribute [local go_sem] max2_int min2_int max_two min_two max_three min_three max_four min_four   -- for this text's walks alone
set_option linter.unusedVariables false
set_option linter.unusedSimpArgs false

/-! ### laws_szRecPhase: function 31 -/
def laws_szRecPhase.f (a0_0 : ByteArray) (a0_1 : Int) (a0_2 : ByteArray) (a0_3 : ByteArray) (a0_4 : Int) (a0_5 : Int) (a0_6 : ByteArray) (a0_7 : ByteArray) (a1 : Int) : Option (Int) := if (wrap64 (a1 - (a0_0.size : Int))) < 0 then (some (-1)) else (if (wrap64 ((wrap64 (a1 - (a0_0.size : Int))) - (a0_2.size : Int))) < 0 then (some (-1)) else (if (wrap64 ((wrap64 ((wrap64 (a1 - (a0_0.size : Int))) - (a0_2.size : Int))) - (a0_3.size : Int))) < 0 then (some (-1)) else (if (wrap64 ((wrap64 ((wrap64 ((wrap64 (a1 - (a0_0.size : Int))) - (a0_2.size : Int))) - (a0_3.size : Int))) - (a0_6.size : Int))) < 0 then (some (-1)) else (if (wrap64 ((wrap64 ((wrap64 ((wrap64 ((wrap64 (a1 - (a0_0.size : Int))) - (a0_2.size : Int))) - (a0_3.size : Int))) - (a0_6.size : Int))) - (a0_7.size : Int))) < 0 then (some (-1)) else (some (wrap64 ((wrap64 ((wrap64 ((wrap64 ((wrap64 (a1 - (a0_0.size : Int))) - (a0_2.size : Int))) - (a0_3.size : Int))) - (a0_6.size : Int))) - (a0_7.size : Int))))))))
set_option maxHeartbeats 8000000 in
set_option maxRecDepth 100000 in
theorem laws_szRecPhase.calls (a0_0 : ByteArray) (a0_1 : Int) (a0_2 : ByteArray) (a0_3 : ByteArray) (a0_4 : Int) (a0_5 : Int) (a0_6 : ByteArray) (a0_7 : ByteArray) (a1 : Int) (r : Int) (w : World) (h : laws_szRecPhase.f a0_0 a0_1 a0_2 a0_3 a0_4 a0_5 a0_6 a0_7 a1 = some r) :
  Calls Try.prog 31 #[.agg #[.string a0_0, .int .i64 a0_1, .string a0_2, .string a0_3, .int .i64 a0_4, .int .i64 a0_5, .string a0_6, .string a0_7], .int .i64 a1] w fun e w' => e = .returned (.int .i64 r) ∧ Below w.heap.size w w' := by
 have H := Aside0.mk h
 clear h
 go_enter Try.func31, Try.ntmps31
 go_wp2
 all_goals
  go_ret
  refine ⟨?_, by repeat (first | exact Below.refl _ _ | apply below_alloc | apply pw_below_drewN | apply below_drew1)⟩
  have h := H.out
  simp_all [laws_szRecPhase.f, ← Int.not_le]


/-! ### laws_szRecPhaseS: function 37 -/
def laws_szRecPhaseS.l0 : Nat → List (S48) → Int → Int → Option (Int)
 | 0, _, _, _ => none
 | k + 1, x0, x1, x5 => if x5 < (x0.length : Int) then (if 0 ≤ x5 then ((laws_szRecPhase.f ((rd_T48 x0 x5).f0) ((rd_T48 x0 x5).f1) ((rd_T48 x0 x5).f2) ((rd_T48 x0 x5).f3) ((rd_T48 x0 x5).f4) ((rd_T48 x0 x5).f5) ((rd_T48 x0 x5).f6) ((rd_T48 x0 x5).f7) x1).bind fun t349 => (if t349 < 0 then (some (-1)) else (laws_szRecPhaseS.l0 k x0 t349 (wrap64 (x5 + 1))))) else (none)) else (some x1)
def laws_szRecPhaseS.f (k : Nat) (l0 : List (S48)) (a1 : Int) : Option (Int) := if (wrap64 (a1 - (l0.length : Int))) < 0 then (some (-1)) else (laws_szRecPhaseS.l0 k l0 (wrap64 (a1 - (l0.length : Int))) 0)
theorem laws_szRecPhaseS.mono_l : ∀ k, (∀ y0 y1 y2, LeO (laws_szRecPhaseS.l0 k y0 y1 y2) (laws_szRecPhaseS.l0 (k + 1) y0 y1 y2))
 | 0 => fun _ _ _ r h => by simp [laws_szRecPhaseS.l0] at h
 | k + 1 => by
  have ih0 := laws_szRecPhaseS.mono_l k
  ·intro y0 y1 y2
   unfold laws_szRecPhaseS.l0
   repeat' first
   | (with_reducible exact ih0 _ _ _)
   | (with_reducible exact LeO.refl _)
   | (with_reducible exact LeO.none _)
   | (with_reducible refine LeO.ite ?_ ?_)
   | (with_reducible refine LeO.bind ?_ (fun _ => ?_))
   | exact ih0 _ _ _
   | exact LeO.none _
   | refine LeO.ite ?_ ?_
   | refine LeO.bind ?_ (fun _ => ?_)
theorem laws_szRecPhaseS.mono : ∀ a0 a1 k, LeO (laws_szRecPhaseS.f k a0 a1) (laws_szRecPhaseS.f (k + 1) a0 a1) := by
 intro a0 a1 k
 have ih0 := laws_szRecPhaseS.mono_l k
 unfold laws_szRecPhaseS.f
 repeat' first
   | (with_reducible exact ih0 _ _ _)
   | (with_reducible exact LeO.refl _)
   | (with_reducible exact LeO.none _)
   | (with_reducible refine LeO.ite ?_ ?_)
   | (with_reducible refine LeO.bind ?_ (fun _ => ?_))
   | exact ih0 _ _ _
   | exact LeO.none _
   | refine LeO.ite ?_ ?_
   | refine LeO.bind ?_ (fun _ => ?_)
set_option maxHeartbeats 8000000 in
set_option maxRecDepth 100000 in
theorem laws_szRecPhaseS.calls (k : Nat) (A0 : Option Addr) (c0 : Nat) (l0 : List (S48)) (a1 : Int) (r : Int) (w : World) (hr0 : Kd.C k48 w A0 l0.length l0) (hc0 : l0.length ≤ c0) (h : laws_szRecPhaseS.f k l0 a1 = some r) :
  Calls Try.prog 37 #[.slice A0 l0.length c0, .int .i64 a1] w fun e w' => e = .returned (.int .i64 r) ∧ Below w.heap.size w w' := by
 have hu48 := Try.underlying48
 have HR0 := Aside0.mk hr0
 have HC0 := Aside0.mk hc0
 clear hr0 hc0
 have HB := Aside0.mk (Below.refl w.heap.size w)
 have H : (if (wrap64 (a1 - (l0.length : Int))) < 0 then (some (-1)) else (laws_szRecPhaseS.l0 k l0 (wrap64 (a1 - (l0.length : Int))) 0)) = some r := h
 clear h
 by_cases c3 : (wrap64 (a1 - (l0.length : Int))) < 0
 ·rw [if_pos c3] at H
  have c3b0 : decide ((wrap64 (a1 - (l0.length : Int))) < 0) = true := decide_eq_true c3
  clear c3
  obtain rfl := Option.some.inj H
  go_enter Try.func37, Try.ntmps37
  go_wp2
  go_ret
  exact ⟨exq, bw HB.out⟩
 ·rw [if_neg c3] at H
  have c3b0 : decide ((wrap64 (a1 - (l0.length : Int))) < 0) = false := decide_eq_false c3
  clear c3
  have H' := Aside0.mk H
  clear H
  go_enter Try.func37, Try.ntmps37
  go_wp2
  go_loopg [1, 5] k (fun kq v1 v5 w' => ∃ (x1_1 : Int) (x5_1 : Int), v1 = .int .i64 x1_1 ∧ v5 = .int .i64 x5_1 ∧ Aside0 (laws_szRecPhaseS.l0 kq l0 x1_1 x5_1 = some r) ∧ Aside0 (kq ≤ k) ∧ Aside0 (Below w.heap.size w w'))
  case atStart => exact ⟨(wrap64 (a1 - (l0.length : Int))), (0), (by first | rfl | (simp; done) | (simp [*]; done)), (by first | rfl | (simp; done) | (simp [*]; done)), H', ⟨Nat.le_refl _⟩, (hbw HB)⟩
  case round =>
   clear H'
   try clear p2
   try clear c3
   try clear c3b0
   obtain ⟨x1_1, x5_1, rfl, rfl, HA, HK1, HB⟩ := hrel
   cases gk with
   | zero => exact absurd HA.out (by simp [laws_szRecPhaseS.l0])
   | succ k1 =>
    have H := HA.out
    clear HA
    simp only [laws_szRecPhaseS.l0] at H
    by_cases c4 : x5_1 < (l0.length : Int)
    ·rw [if_pos c4] at H
     have c4b0 : decide (x5_1 < (l0.length : Int)) = true := decide_eq_true c4
     clear c4
     by_cases c5 : 0 ≤ x5_1
     ·rw [if_pos c5] at H
      have c5b0 : decide (0 ≤ x5_1) = true := decide_eq_true c5
      clear c5
      replace H := Option.bind_eq_some_iff.mp H
      obtain ⟨t349, A60, H⟩ := H
      replace H : (if t349 < 0 then (some (-1)) else (laws_szRecPhaseS.l0 k1 l0 t349 (wrap64 (x5_1 + 1)))) = some r := H
      have A6 := Aside0.mk A60
      clear A60
      by_cases c7 : t349 < 0
      ·rw [if_pos c7] at H
       have c7b0 : decide (t349 < 0) = true := decide_eq_true c7
       clear c7
       obtain rfl := Option.some.inj H
       have p348 : 0 ≤ (x5_1 : Int) := oda
       have q348 : x5_1 < (l0.length : Int) := oda
       obtain ⟨ad348, e348, hx348_0, hx348_1, hx348_2, hx348_3, hx348_4, hx348_5, hx348_6, hx348_7⟩ := at_T48 HR0.out x5_1 p348 q348
       cases e348
       replace hx348_0 := bcl HB hx348_0
       replace hx348_1 := bcl HB hx348_1
       replace hx348_2 := bcl HB hx348_2
       replace hx348_3 := bcl HB hx348_3
       replace hx348_4 := bcl HB hx348_4
       replace hx348_5 := bcl HB hx348_5
       replace hx348_6 := bcl HB hx348_6
       replace hx348_7 := bcl HB hx348_7
       replace p348 := eq_true p348
       replace q348 := eq_true q348
       go_wp2_with (first | ((with_reducible refine gate_callee (f := 31) rfl ?_); refine goesL_ (some 23) rfl rfl Try.func31 (by kernel_rfl) rfl #[.agg #[.string ((rd_T48 l0 x5_1).f0), .int .i64 ((rd_T48 l0 x5_1).f1), .string ((rd_T48 l0 x5_1).f2), .string ((rd_T48 l0 x5_1).f3), .int .i64 ((rd_T48 l0 x5_1).f4), .int .i64 ((rd_T48 l0 x5_1).f5), .string ((rd_T48 l0 x5_1).f6), .string ((rd_T48 l0 x5_1).f7)], .int .i64 x1_1] rfl mxp ?_; (with_reducible refine (laws_szRecPhase.calls ((rd_T48 l0 x5_1).f0) ((rd_T48 l0 x5_1).f1) ((rd_T48 l0 x5_1).f2) ((rd_T48 l0 x5_1).f3) ((rd_T48 l0 x5_1).f4) ((rd_T48 l0 x5_1).f5) ((rd_T48 l0 x5_1).f6) ((rd_T48 l0 x5_1).f7) x1_1 t349 _ A6.out).mono ?_); rintro e w8 ⟨rfl, hb⟩; refine ⟨_, rfl, ?_⟩; replace HB := bs HB hb; (try clear hb); (try clear hb2); (try clear hk); (try clear hi)))
       go_ret
       exact ⟨exq, bw HB.out⟩
      ·rw [if_neg c7] at H
       have c7b0 : decide (t349 < 0) = false := decide_eq_false c7
       clear c7
       have H' := Aside0.mk H
       clear H
       have p348 : 0 ≤ (x5_1 : Int) := oda
       have q348 : x5_1 < (l0.length : Int) := oda
       obtain ⟨ad348, e348, hx348_0, hx348_1, hx348_2, hx348_3, hx348_4, hx348_5, hx348_6, hx348_7⟩ := at_T48 HR0.out x5_1 p348 q348
       cases e348
       replace hx348_0 := bcl HB hx348_0
       replace hx348_1 := bcl HB hx348_1
       replace hx348_2 := bcl HB hx348_2
       replace hx348_3 := bcl HB hx348_3
       replace hx348_4 := bcl HB hx348_4
       replace hx348_5 := bcl HB hx348_5
       replace hx348_6 := bcl HB hx348_6
       replace hx348_7 := bcl HB hx348_7
       replace p348 := eq_true p348
       replace q348 := eq_true q348
       go_wp2_with (first | ((with_reducible refine gate_callee (f := 31) rfl ?_); refine goesL_ (some 23) rfl rfl Try.func31 (by kernel_rfl) rfl #[.agg #[.string ((rd_T48 l0 x5_1).f0), .int .i64 ((rd_T48 l0 x5_1).f1), .string ((rd_T48 l0 x5_1).f2), .string ((rd_T48 l0 x5_1).f3), .int .i64 ((rd_T48 l0 x5_1).f4), .int .i64 ((rd_T48 l0 x5_1).f5), .string ((rd_T48 l0 x5_1).f6), .string ((rd_T48 l0 x5_1).f7)], .int .i64 x1_1] rfl mxp ?_; (with_reducible refine (laws_szRecPhase.calls ((rd_T48 l0 x5_1).f0) ((rd_T48 l0 x5_1).f1) ((rd_T48 l0 x5_1).f2) ((rd_T48 l0 x5_1).f3) ((rd_T48 l0 x5_1).f4) ((rd_T48 l0 x5_1).f5) ((rd_T48 l0 x5_1).f6) ((rd_T48 l0 x5_1).f7) x1_1 t349 _ A6.out).mono ?_); rintro e w9 ⟨rfl, hb⟩; refine ⟨_, rfl, ?_⟩; replace HB := bs HB hb; (try clear hb); (try clear hb2); (try clear hk); (try clear hi)))
       go_roundg k1
       case measure => have := HK1.out; omega
       case rel => exact ⟨(t349), (wrap64 (x5_1 + 1)), (by first | rfl | (simp; done) | (simp [*]; done)), (by first | rfl | (simp; done) | (simp [*]; done)), H', ⟨by have := HK1.out; omega⟩, (hbw HB)⟩
     ·rw [if_neg c5] at H
      exact absurd H (by simp)
    ·rw [if_neg c4] at H
     have c4b0 : decide (x5_1 < (l0.length : Int)) = false := decide_eq_false c4
     clear c4
     obtain rfl := Option.some.inj H
     go_wp2
     go_ret
     exact ⟨exq, bw HB.out⟩


/-! ### laws_toRecPhase: function 33 -/
def laws_toRecPhase.f (a0_0 : ByteArray) (a0_1 : Int) (a0_2 : ByteArray) (a0_3 : ByteArray) (a0_4 : Int) (a0_5 : Int) (a0_6 : ByteArray) (a0_7 : ByteArray) : Option (ByteArray × Int × ByteArray × ByteArray × Int × Int × ByteArray × ByteArray) := some (a0_0, a0_1, a0_2, a0_3, a0_4, a0_5, a0_6, a0_7)
set_option maxHeartbeats 8000000 in
set_option maxRecDepth 100000 in
theorem laws_toRecPhase.calls (a0_0 : ByteArray) (a0_1 : Int) (a0_2 : ByteArray) (a0_3 : ByteArray) (a0_4 : Int) (a0_5 : Int) (a0_6 : ByteArray) (a0_7 : ByteArray) (r1 : ByteArray) (r2 : Int) (r3 : ByteArray) (r4 : ByteArray) (r5 : Int) (r6 : Int) (r7 : ByteArray) (r8 : ByteArray) (w : World) (h : laws_toRecPhase.f a0_0 a0_1 a0_2 a0_3 a0_4 a0_5 a0_6 a0_7 = some (r1, r2, r3, r4, r5, r6, r7, r8)) :
  Calls Try.prog 33 #[.agg #[.string a0_0, .int .i64 a0_1, .string a0_2, .string a0_3, .int .i64 a0_4, .int .i64 a0_5, .string a0_6, .string a0_7]] w fun e w' => e = .returned (.agg #[.string r1, .int .i64 r2, .string r3, .string r4, .int .i64 r5, .int .i64 r6, .string r7, .string r8]) ∧ Below w.heap.size w w' := by
 have hu48 := Try.underlying48
 have hu39 := Try.underlying39
 have HB := Aside0.mk (Below.refl w.heap.size w)
 have H : (some (a0_0, a0_1, a0_2, a0_3, a0_4, a0_5, a0_6, a0_7)) = some (r1, r2, r3, r4, r5, r6, r7, r8) := h
 clear h
 simp only [Option.some.injEq, Prod.mk.injEq] at H
 obtain ⟨rfl, rfl, rfl, rfl, rfl, rfl, rfl, rfl⟩ := H
 go_enter Try.func33, Try.ntmps33
 go_wp2_with (first | ((with_reducible refine gate_dst (N := 1) rfl ?_); refine box_event ?hg (N := 1) ?hd (cs := #[.string a0_0, .int .i64 a0_1, .string a0_2, .string a0_3, .int .i64 a0_4, .int .i64 a0_5, .string a0_6, .string a0_7]) (t := 48) ?hr ?_; (case hd => rfl); (case hg => rfl); (case hr => first | (go_simp; done) | (go_simp; rfl)); intro gb133 hg w2 hbox hb; have n0_ := bs HB hb; have n1_ := Aside0.mk (hbox); have n2_ := gh hg HB; have n3_ := gh hg HB; clear HB; have HB := n0_; have BK133 := n1_; have GW133 := n2_; have GE133 := n3_; clear n0_ n1_ n2_ n3_; clear hb hbox hg) | ((with_reducible refine gate_dst (N := 2) rfl ?_); refine box_event ?hg (N := 2) ?hd (cs := #[.string (⟨#[]⟩ : ByteArray), .int .i64 0, .string (⟨#[]⟩ : ByteArray), .string (⟨#[]⟩ : ByteArray), .int .i64 0, .int .i64 0, .string (⟨#[]⟩ : ByteArray), .string (⟨#[]⟩ : ByteArray)]) (t := 39) ?hr ?_; (case hd => rfl); (case hg => rfl); (case hr => first | (go_simp; done) | (go_simp; rfl)); intro gb134 hg w3 hbox hb; have n0_ := up BK133 hb; have n1_ := bs HB hb; have n2_ := Aside0.mk (hbox); have n3_ := gh hg HB; have n4_ := gh hg HB; have n5_ := nlt' hg BK133; have n6_ := ngt' hg BK133; clear BK133; clear HB; have BK133 := n0_; have HB := n1_; have BK134 := n2_; have GW134 := n3_; have GE134 := n4_; have NB133_134 := n5_; have NB134_133 := n6_; clear n0_ n1_ n2_ n3_ n4_ n5_ n6_; clear hb hbox hg) | ((with_reducible refine gate_dst (N := 3) rfl ?_); refine box_event ?hg (N := 3) ?hd (cs := #[.string (⟨#[]⟩ : ByteArray), .int .i64 0, .string (⟨#[]⟩ : ByteArray), .string (⟨#[]⟩ : ByteArray), .int .i64 0, .int .i64 0, .string (⟨#[]⟩ : ByteArray), .string (⟨#[]⟩ : ByteArray)]) (t := 39) ?hr ?_; (case hd => rfl); (case hg => rfl); (case hr => first | (go_simp; done) | (go_simp; rfl)); intro gb135 hg w4 hbox hb; have n0_ := up BK133 hb; have n1_ := up BK134 hb; have n2_ := bs HB hb; have n3_ := Aside0.mk (hbox); have n4_ := gh hg HB; have n5_ := gh hg HB; have n6_ := nlt' hg BK133; have n7_ := ngt' hg BK133; have n8_ := nlt' hg BK134; have n9_ := ngt' hg BK134; clear BK133; clear BK134; clear HB; have BK133 := n0_; have BK134 := n1_; have HB := n2_; have BK135 := n3_; have GW135 := n4_; have GE135 := n5_; have NB133_135 := n6_; have NB135_133 := n7_; have NB134_135 := n8_; have NB135_134 := n9_; clear n0_ n1_ n2_ n3_ n4_ n5_ n6_ n7_ n8_ n9_; clear hb hbox hg; have hnb5 := NB133_134.out; have hnc5 := NB134_133.out; have hnb6 := NB133_135.out; have hnc6 := NB135_133.out; have hcz7_0 := b0 BK133; have hcz7_1 := b1 BK133; have hcz7_2 := b2 BK133; have hcz7_3 := b3 BK133; have hcz7_4 := b4 BK133; have hcz7_5 := b5 BK133; have hcz7_6 := b6 BK133; have hcz7_7 := b7 BK133; have hfz7_0 := fz BK133 0; have hfz7_1 := fz BK133 1; have hfz7_2 := fz BK133 2; have hfz7_3 := fz BK133 3; have hfz7_4 := fz BK133 4; have hfz7_5 := fz BK133 5; have hfz7_6 := fz BK133 6; have hfz7_7 := fz BK133 7; have hnb8 := NB135_134.out; have hnc8 := NB134_135.out; have hcz9_0 := b0 BK135; have hcz9_1 := b1 BK135; have hcz9_2 := b2 BK135; have hcz9_3 := b3 BK135; have hcz9_4 := b4 BK135; have hcz9_5 := b5 BK135; have hcz9_6 := b6 BK135; have hcz9_7 := b7 BK135; have hfz9_0 := fz BK135 0; have hfz9_1 := fz BK135 1; have hfz9_2 := fz BK135 2; have hfz9_3 := fz BK135 3; have hfz9_4 := fz BK135 4; have hfz9_5 := fz BK135 5; have hfz9_6 := fz BK135 6; have hfz9_7 := fz BK135 7; have hcz10_0 := b0 BK134; have hcz10_1 := b1 BK134; have hcz10_2 := b2 BK134; have hcz10_3 := b3 BK134; have hcz10_4 := b4 BK134; have hcz10_5 := b5 BK134; have hcz10_6 := b6 BK134; have hcz10_7 := b7 BK134; have hfz10_0 := fz BK134 0; have hfz10_1 := fz BK134 1; have hfz10_2 := fz BK134 2; have hfz10_3 := fz BK134 3; have hfz10_4 := fz BK134 4; have hfz10_5 := fz BK134 5; have hfz10_6 := fz BK134 6; have hfz10_7 := fz BK134 7))
 refine bodyPost_ret (results_cell_row rfl _ _ gb134 39 #[.string a0_0, .int .i64 a0_1, .string a0_2, .string a0_3, .int .i64 a0_4, .int .i64 a0_5, .string a0_6, .string a0_7] (0, 0) _ rfl (by refine bx ?_; refine blk_put (cs := #[.string a0_0, .int .i64 a0_1, .string a0_2, .string a0_3, .int .i64 a0_4, .int .i64 a0_5, .string a0_6, .string (⟨#[]⟩ : ByteArray)]) ?_ 7 _ rfl; refine bx ?_; refine blk_put (cs := #[.string a0_0, .int .i64 a0_1, .string a0_2, .string a0_3, .int .i64 a0_4, .int .i64 a0_5, .string (⟨#[]⟩ : ByteArray), .string (⟨#[]⟩ : ByteArray)]) ?_ 6 _ rfl; refine bx ?_; refine blk_put (cs := #[.string a0_0, .int .i64 a0_1, .string a0_2, .string a0_3, .int .i64 a0_4, .int .i64 0, .string (⟨#[]⟩ : ByteArray), .string (⟨#[]⟩ : ByteArray)]) ?_ 5 _ rfl; refine bx ?_; refine blk_put (cs := #[.string a0_0, .int .i64 a0_1, .string a0_2, .string a0_3, .int .i64 0, .int .i64 0, .string (⟨#[]⟩ : ByteArray), .string (⟨#[]⟩ : ByteArray)]) ?_ 4 _ rfl; refine bx ?_; refine blk_put (cs := #[.string a0_0, .int .i64 a0_1, .string a0_2, .string (⟨#[]⟩ : ByteArray), .int .i64 0, .int .i64 0, .string (⟨#[]⟩ : ByteArray), .string (⟨#[]⟩ : ByteArray)]) ?_ 3 _ rfl; refine bx ?_; refine blk_put (cs := #[.string a0_0, .int .i64 a0_1, .string (⟨#[]⟩ : ByteArray), .string (⟨#[]⟩ : ByteArray), .int .i64 0, .int .i64 0, .string (⟨#[]⟩ : ByteArray), .string (⟨#[]⟩ : ByteArray)]) ?_ 2 _ rfl; refine bx ?_; refine blk_put (cs := #[.string a0_0, .int .i64 0, .string (⟨#[]⟩ : ByteArray), .string (⟨#[]⟩ : ByteArray), .int .i64 0, .int .i64 0, .string (⟨#[]⟩ : ByteArray), .string (⟨#[]⟩ : ByteArray)]) ?_ 1 _ rfl; refine bx ?_; refine blk_put (cs := #[.string (⟨#[]⟩ : ByteArray), .int .i64 0, .string (⟨#[]⟩ : ByteArray), .string (⟨#[]⟩ : ByteArray), .int .i64 0, .int .i64 0, .string (⟨#[]⟩ : ByteArray), .string (⟨#[]⟩ : ByteArray)]) ?_ 0 _ rfl; refine bx ?_; refine blk_far ?_ NB134_135.out _; refine bx ?_; refine blk_far ?_ NB134_135.out _; refine bx ?_; refine blk_far ?_ NB134_135.out _; refine bx ?_; refine blk_far ?_ NB134_135.out _; refine bx ?_; refine blk_far ?_ NB134_135.out _; refine bx ?_; refine blk_far ?_ NB134_135.out _; refine bx ?_; refine blk_far ?_ NB134_135.out _; refine bx ?_; refine blk_far ?_ NB134_135.out _; refine bx ?_; exact BK134.out) Try.underlying39 rfl (by kernel_rfl)) rfl ?_
 exact ⟨exq, bw HB.out⟩


/-! ### laws_toRecPhaseS: function 38 -/
def laws_toRecPhaseS.l0 : Nat → List (S48) → List (S39) → Int → Option ((List (S39)))
 | 0, _, _, _ => none
 | k + 1, x0, x3, x4 => if x4 < (x0.length : Int) then (if 0 ≤ x4 then ((laws_toRecPhase.f ((rd_T48 x0 x4).f0) ((rd_T48 x0 x4).f1) ((rd_T48 x0 x4).f2) ((rd_T48 x0 x4).f3) ((rd_T48 x0 x4).f4) ((rd_T48 x0 x4).f5) ((rd_T48 x0 x4).f6) ((rd_T48 x0 x4).f7)).bind fun bt354 => (if x4 < (x3.length : Int) then (laws_toRecPhaseS.l0 k x0 (x3.set (x4 : Int).toNat (⟨bt354.1, bt354.2.1, bt354.2.2.1, bt354.2.2.2.1, bt354.2.2.2.2.1, bt354.2.2.2.2.2.1, bt354.2.2.2.2.2.2.1, bt354.2.2.2.2.2.2.2⟩ : S39)) (wrap64 (x4 + 1))) else (none))) else (none)) else (some x3)
def laws_toRecPhaseS.f (k : Nat) (l0 : List (S48)) : Option ((List (S39))) := if 0 ≤ (l0.length : Int) then (if ((l0.length : Int) : Int).toNat ≤ 2706490160679 then (laws_toRecPhaseS.l0 k l0 (List.replicate ((l0.length : Int) : Int).toNat z39) 0) else (none)) else (none)
theorem laws_toRecPhaseS.mono_l : ∀ k, (∀ y0 y1 y2, LeO (laws_toRecPhaseS.l0 k y0 y1 y2) (laws_toRecPhaseS.l0 (k + 1) y0 y1 y2))
 | 0 => fun _ _ _ r h => by simp [laws_toRecPhaseS.l0] at h
 | k + 1 => by
  have ih0 := laws_toRecPhaseS.mono_l k
  ·intro y0 y1 y2
   unfold laws_toRecPhaseS.l0
   repeat' first
   | (with_reducible exact ih0 _ _ _)
   | (with_reducible exact LeO.refl _)
   | (with_reducible exact LeO.none _)
   | (with_reducible refine LeO.ite ?_ ?_)
   | (with_reducible refine LeO.bind ?_ (fun _ => ?_))
   | exact ih0 _ _ _
   | exact LeO.none _
   | refine LeO.ite ?_ ?_
   | refine LeO.bind ?_ (fun _ => ?_)
theorem laws_toRecPhaseS.mono : ∀ a0 k, LeO (laws_toRecPhaseS.f k a0) (laws_toRecPhaseS.f (k + 1) a0) := by
 intro a0 k
 have ih0 := laws_toRecPhaseS.mono_l k
 unfold laws_toRecPhaseS.f
 repeat' first
   | (with_reducible exact ih0 _ _ _)
   | (with_reducible exact LeO.refl _)
   | (with_reducible exact LeO.none _)
   | (with_reducible refine LeO.ite ?_ ?_)
   | (with_reducible refine LeO.bind ?_ (fun _ => ?_))
   | exact ih0 _ _ _
   | exact LeO.none _
   | refine LeO.ite ?_ ?_
   | refine LeO.bind ?_ (fun _ => ?_)
set_option maxHeartbeats 8000000 in
set_option maxRecDepth 100000 in
theorem laws_toRecPhaseS.calls (k : Nat) (A0 : Option Addr) (c0 : Nat) (l0 : List (S48)) (r : List (S39)) (w : World) (hr0 : Kd.C k48 w A0 l0.length l0) (hc0 : l0.length ≤ c0) (h : laws_toRecPhaseS.f k l0 = some r) :
  Calls Try.prog 38 #[.slice A0 l0.length c0] w fun e w' => ∃ v0_ : Value, e = .returned (v0_) ∧ Kd.R k39 39 w' w.heap.size (fun _ => True) v0_ r ∧ Below w.heap.size w w' := by
 have hu48 := Try.underlying48
 have hu39 := Try.underlying39
 have HR0 := Aside0.mk hr0
 have HC0 := Aside0.mk hc0
 clear hr0 hc0
 have HB := Aside0.mk (Below.refl w.heap.size w)
 have H : (if 0 ≤ (l0.length : Int) then (if ((l0.length : Int) : Int).toNat ≤ 2706490160679 then (laws_toRecPhaseS.l0 k l0 (List.replicate ((l0.length : Int) : Int).toNat z39) 0) else (none)) else (none)) = some r := h
 clear h
 by_cases c2 : 0 ≤ (l0.length : Int)
 ·rw [if_pos c2] at H
  have c2b0 := eq_true c2
  have c2b1 : decide (0 ≤ (l0.length : Int)) = true := decide_eq_true c2
  clear c2
  by_cases c3 : ((l0.length : Int) : Int).toNat ≤ 2706490160679
  ·rw [if_pos c3] at H
   have c3b0 := eq_true c3
   have c3b1 : decide (((l0.length : Int) : Int).toNat ≤ 2706490160679) = true := decide_eq_true c3
   clear c3
   obtain ⟨y350, hy350⟩ : ∃ y_ : List (S39), y_ = (List.replicate ((l0.length : Int) : Int).toNat z39) := ⟨_, rfl⟩
   replace H : (laws_toRecPhaseS.l0 k l0 y350 0) = some r := by first | (rw [hy350]; with_reducible exact H) | (have H2_ := (Option.bind_some _ _).symm.trans H; rw [hy350]; with_reducible exact H2_) | (have H2_ := (Option.bind_some _ _).symm.trans H; with_reducible exact H2_) | with_reducible exact H | (rw [hy350]; exact H) | exact H
   have Ny350 := Aside0.mk hy350
   clear hy350
   have H' := Aside0.mk H
   clear H
   go_enter Try.func38, Try.ntmps38
   go_wp2_with (first | ((with_reducible refine gate_dst (N := 7) rfl ?_); refine Kd.R_make k39 _ 39 rfl (N := 7) rfl 26 _ _ rfl (l0.length : Int) rfl rfl Try.underlying26 (.agg #[(.string ⟨#[]⟩), (.int .i64 0), (.string ⟨#[]⟩), (.string ⟨#[]⟩), (.int .i64 0), (.int .i64 0), (.string ⟨#[]⟩), (.string ⟨#[]⟩)]) 104 info39 rfl (by decide) (by omega) z39 (ok := fun _ => True) (okp := fun _ => True) (k39_mkM _ _ _ z39 ) (fun _ hk => hk) trivial (oda) (Nat.le_trans (Nat.mul_le_mul_right _ (oda : (l0.length : Int).toNat ≤ 2706490160679)) (by omega)) (Below.refl _ _) (Nat.le_refl _) ?_; intro v351 w4 ho5 hb hg_ hnew_; clear hg_ hnew_; (first | rw [← Ny350.out] at ho5 | (simp only [Int.reduceToNat] at ho5; rw [← Ny350.out] at ho5)); have n0_ := Aside0.mk (Kd.R_lower ho5 (below_size (bw HB.out))); have n1_ := bs HB hb; clear HB; have HO352 := n0_; have HB := n1_; clear n0_ n1_; clear hb ho5))
   go_loopg [4] k (fun kq v4 w' => ∃ (x3_1 : List (S39)) (x4_1 : Int), v4 = .int .i64 x4_1 ∧ Aside0 (laws_toRecPhaseS.l0 kq l0 x3_1 x4_1 = some r) ∧ Aside0 (kq ≤ k) ∧ Aside0 (Kd.R k39 39 w' w.heap.size (fun _ => True) v351 x3_1) ∧ Aside0 (Below w.heap.size w w'))
   case atStart => exact ⟨(y350), (0), (by first | rfl | (simp; done) | (simp [*]; done)), H', ⟨Nat.le_refl _⟩, ⟨by refine rx ?_; exact HO352.out⟩, (hbw HB)⟩
   case round =>
    clear H'
    try clear c2
    try clear c2b0
    try clear c2b1
    try clear p2
    try clear c3
    try clear c3b0
    try clear c3b1
    obtain ⟨x3_1, x4_1, rfl, HA, HK1, HO_3, HB⟩ := hrel
    cases gk with
    | zero => exact absurd HA.out (by simp [laws_toRecPhaseS.l0])
    | succ k1 =>
     have H := HA.out
     clear HA
     simp only [laws_toRecPhaseS.l0] at H
     by_cases c6 : x4_1 < (l0.length : Int)
     ·rw [if_pos c6] at H
      have c6b0 : decide (x4_1 < (l0.length : Int)) = true := decide_eq_true c6
      clear c6
      by_cases c7 : 0 ≤ x4_1
      ·rw [if_pos c7] at H
       have c7b0 : decide (0 ≤ x4_1) = true := decide_eq_true c7
       clear c7
       replace H := Option.bind_eq_some_iff.mp H
       obtain ⟨⟨t354, t355, t356, t357, t358, t359, t360, t361⟩, A80, H⟩ := H
       replace H : (if x4_1 < (x3_1.length : Int) then (laws_toRecPhaseS.l0 k1 l0 (x3_1.set (x4_1 : Int).toNat (⟨t354, t355, t356, t357, t358, t359, t360, t361⟩ : S39)) (wrap64 (x4_1 + 1))) else (none)) = some r := H
       have A8 := Aside0.mk A80
       clear A80
       by_cases c9 : x4_1 < (x3_1.length : Int)
       ·rw [if_pos c9] at H
        have c9b0 : decide (x4_1 < (x3_1.length : Int)) = true := decide_eq_true c9
        clear c9
        obtain ⟨y362, hy362⟩ : ∃ y_ : List (S39), y_ = (x3_1.set (x4_1 : Int).toNat (⟨t354, t355, t356, t357, t358, t359, t360, t361⟩ : S39)) := ⟨_, rfl⟩
        replace H : (laws_toRecPhaseS.l0 k1 l0 y362 (wrap64 (x4_1 + 1))) = some r := by first | (rw [hy362]; with_reducible exact H) | (have H2_ := (Option.bind_some _ _).symm.trans H; rw [hy362]; with_reducible exact H2_) | (have H2_ := (Option.bind_some _ _).symm.trans H; with_reducible exact H2_) | with_reducible exact H | (rw [hy362]; exact H) | exact H
        have Ny362 := Aside0.mk hy362
        clear hy362
        have H' := Aside0.mk H
        clear H
        have p353 : 0 ≤ (x4_1 : Int) := oda
        have q353 : x4_1 < (l0.length : Int) := oda
        obtain ⟨ad353, e353, hx353_0, hx353_1, hx353_2, hx353_3, hx353_4, hx353_5, hx353_6, hx353_7⟩ := at_T48 HR0.out x4_1 p353 q353
        cases e353
        replace hx353_0 := bcl HB hx353_0
        replace hx353_1 := bcl HB hx353_1
        replace hx353_2 := bcl HB hx353_2
        replace hx353_3 := bcl HB hx353_3
        replace hx353_4 := bcl HB hx353_4
        replace hx353_5 := bcl HB hx353_5
        replace hx353_6 := bcl HB hx353_6
        replace hx353_7 := bcl HB hx353_7
        replace p353 := eq_true p353
        replace q353 := eq_true q353
        go_wp2_with (first | ((with_reducible refine gate_callee (f := 33) rfl ?_); refine goesL_ (some 20) rfl rfl Try.func33 (by kernel_rfl) rfl #[.agg #[.string ((rd_T48 l0 x4_1).f0), .int .i64 ((rd_T48 l0 x4_1).f1), .string ((rd_T48 l0 x4_1).f2), .string ((rd_T48 l0 x4_1).f3), .int .i64 ((rd_T48 l0 x4_1).f4), .int .i64 ((rd_T48 l0 x4_1).f5), .string ((rd_T48 l0 x4_1).f6), .string ((rd_T48 l0 x4_1).f7)]] rfl mxp ?_; (with_reducible refine (laws_toRecPhase.calls ((rd_T48 l0 x4_1).f0) ((rd_T48 l0 x4_1).f1) ((rd_T48 l0 x4_1).f2) ((rd_T48 l0 x4_1).f3) ((rd_T48 l0 x4_1).f4) ((rd_T48 l0 x4_1).f5) ((rd_T48 l0 x4_1).f6) ((rd_T48 l0 x4_1).f7) t354 t355 t356 t357 t358 t359 t360 t361 _ A8.out).mono ?_); rintro e w11 ⟨rfl, hb⟩; refine ⟨_, rfl, ?_⟩; have n0_ := Aside0.mk (Kd.R_below (rx HO_3.out) hb); have n1_ := bs HB hb; clear HO_3; clear HB; have HO_3 := n0_; have HB := n1_; clear n0_ n1_; (try clear hb); (try clear hb2); (try clear hk); (try clear hi); have p10 : 0 ≤ (x4_1 : Int) := oda; have q10 : (x4_1 : Int) < ((x3_1.length : Int) : Int) := oda; obtain ⟨go10, co10, eo10, gb10, gl10, cl10, HG10⟩ := Kd.R_form HO_3.out (by omega); (first | cases eo10 | (injection eo10 with ea_ en_ ec_; (first | subst ea_ | (injection ea_ with ea_; subst ea_)); subst ec_; clear en_)); have GB10 := Aside0.mk gb10; have GG10 := Aside0.mk HG10; clear gb10 gl10 HG10; obtain ⟨ce10, hcl10, hM10, hcc10, hfr10⟩ := Kd.R_elem HO_3.out z39 (x4_1 : Int) p10 q10; obtain rfl := k39_openM hM10; have hx10_0 : w11.cell? ⟨go10, (x4_1 : Int).toNat * 8, none⟩ = some (.string ((rd_T39 x3_1 x4_1).f0)) := hcc10 0 _ rfl; have hx10_1 : w11.cell? ⟨go10, (x4_1 : Int).toNat * 8 + 1, none⟩ = some (.int .i64 ((rd_T39 x3_1 x4_1).f1)) := hcc10 1 _ rfl; have hx10_2 : w11.cell? ⟨go10, (x4_1 : Int).toNat * 8 + 2, none⟩ = some (.string ((rd_T39 x3_1 x4_1).f2)) := hcc10 2 _ rfl; have hx10_3 : w11.cell? ⟨go10, (x4_1 : Int).toNat * 8 + 3, none⟩ = some (.string ((rd_T39 x3_1 x4_1).f3)) := hcc10 3 _ rfl; have hx10_4 : w11.cell? ⟨go10, (x4_1 : Int).toNat * 8 + 4, none⟩ = some (.int .i64 ((rd_T39 x3_1 x4_1).f4)) := hcc10 4 _ rfl; have hx10_5 : w11.cell? ⟨go10, (x4_1 : Int).toNat * 8 + 5, none⟩ = some (.int .i64 ((rd_T39 x3_1 x4_1).f5)) := hcc10 5 _ rfl; have hx10_6 : w11.cell? ⟨go10, (x4_1 : Int).toNat * 8 + 6, none⟩ = some (.string ((rd_T39 x3_1 x4_1).f6)) := hcc10 6 _ rfl; have hx10_7 : w11.cell? ⟨go10, (x4_1 : Int).toNat * 8 + 7, none⟩ = some (.string ((rd_T39 x3_1 x4_1).f7)) := hcc10 7 _ rfl; have hf10_0 : w11.frozen? ⟨go10, (x4_1 : Int).toNat * 8, none⟩ = false := hfr10 0; have hf10_1 : w11.frozen? ⟨go10, (x4_1 : Int).toNat * 8 + 1, none⟩ = false := hfr10 1; have hf10_2 : w11.frozen? ⟨go10, (x4_1 : Int).toNat * 8 + 2, none⟩ = false := hfr10 2; have hf10_3 : w11.frozen? ⟨go10, (x4_1 : Int).toNat * 8 + 3, none⟩ = false := hfr10 3; have hf10_4 : w11.frozen? ⟨go10, (x4_1 : Int).toNat * 8 + 4, none⟩ = false := hfr10 4; have hf10_5 : w11.frozen? ⟨go10, (x4_1 : Int).toNat * 8 + 5, none⟩ = false := hfr10 5; have hf10_6 : w11.frozen? ⟨go10, (x4_1 : Int).toNat * 8 + 6, none⟩ = false := hfr10 6; have hf10_7 : w11.frozen? ⟨go10, (x4_1 : Int).toNat * 8 + 7, none⟩ = false := hfr10 7; clear hcl10 hcc10 hfr10 hM10; replace p10 := eq_true p10; replace q10 := eq_true q10; have HX12 := Aside0.mk (show Kd.R k39 39 w11 w.heap.size (fun _ => True) (.slice (some ⟨go10, 0, none⟩) x3_1.length co10) x3_1 from (rx HO_3.out)); obtain ⟨ce12, hcl12, hM12, hcc12, hfr12⟩ := Kd.R_elem HX12.out z39 (x4_1 : Int) (oda) (by have h_ : (x4_1 : Int) < ((x3_1.length : Int) : Int) := oda; first | exact h_ | (have e_ := (Kd.R_reads' HO_3.out).1; omega) | simpa using h_); obtain rfl := k39_openM hM12; have HP12 := Kd.R_seg HX12.out (x4_1 : Int) (oda) (by have h_ : (x4_1 : Int) < ((x3_1.length : Int) : Int) := oda; first | exact h_ | (have e_ := (Kd.R_reads' HO_3.out).1; omega) | simpa using h_) (seg := [.string t354, .int .i64 t355, .string t356, .string t357, .int .i64 t358, .int .i64 t359, .string t360, .string t361]) (j := 0) hcl12 hcc12 (show 8 ≤ 8 from by decide) (x' := (⟨t354, t355, t356, t357, t358, t359, t360, t361⟩ : S39)) (k39_mkM _ _ _ (⟨t354, t355, t356, t357, t358, t359, t360, t361⟩ : S39) ) (fun _ hk => hk); have hx12_0 := hcc12 0 _ rfl; (try simp only [show (k39).sz = 8 from rfl, Nat.mul_one, Nat.add_zero] at hx12_0); have hf12_0 := hfr12 0; (try simp only [show (k39).sz = 8 from rfl, Nat.mul_one, Nat.add_zero] at hf12_0); have hx12_1 := hcc12 1 _ rfl; (try simp only [show (k39).sz = 8 from rfl, Nat.mul_one, Nat.add_zero] at hx12_1); have hf12_1 := hfr12 1; (try simp only [show (k39).sz = 8 from rfl, Nat.mul_one, Nat.add_zero] at hf12_1); have hx12_2 := hcc12 2 _ rfl; (try simp only [show (k39).sz = 8 from rfl, Nat.mul_one, Nat.add_zero] at hx12_2); have hf12_2 := hfr12 2; (try simp only [show (k39).sz = 8 from rfl, Nat.mul_one, Nat.add_zero] at hf12_2); have hx12_3 := hcc12 3 _ rfl; (try simp only [show (k39).sz = 8 from rfl, Nat.mul_one, Nat.add_zero] at hx12_3); have hf12_3 := hfr12 3; (try simp only [show (k39).sz = 8 from rfl, Nat.mul_one, Nat.add_zero] at hf12_3); have hx12_4 := hcc12 4 _ rfl; (try simp only [show (k39).sz = 8 from rfl, Nat.mul_one, Nat.add_zero] at hx12_4); have hf12_4 := hfr12 4; (try simp only [show (k39).sz = 8 from rfl, Nat.mul_one, Nat.add_zero] at hf12_4); have hx12_5 := hcc12 5 _ rfl; (try simp only [show (k39).sz = 8 from rfl, Nat.mul_one, Nat.add_zero] at hx12_5); have hf12_5 := hfr12 5; (try simp only [show (k39).sz = 8 from rfl, Nat.mul_one, Nat.add_zero] at hf12_5); have hx12_6 := hcc12 6 _ rfl; (try simp only [show (k39).sz = 8 from rfl, Nat.mul_one, Nat.add_zero] at hx12_6); have hf12_6 := hfr12 6; (try simp only [show (k39).sz = 8 from rfl, Nat.mul_one, Nat.add_zero] at hf12_6); have hx12_7 := hcc12 7 _ rfl; (try simp only [show (k39).sz = 8 from rfl, Nat.mul_one, Nat.add_zero] at hx12_7); have hf12_7 := hfr12 7; (try simp only [show (k39).sz = 8 from rfl, Nat.mul_one, Nat.add_zero] at hf12_7); clear hcl12 hcc12 hfr12 hM12) | ((with_reducible refine gate_store (t := 39) (p := 21) rfl ?_); refine store_event (t := 39) (p := 21) (v := ?vo_w13) (w1 := ((((((((w11.setCell ⟨go10, (x4_1 : Int).toNat * 8, none⟩ (.string t354)).setCell ⟨go10, (x4_1 : Int).toNat * 8 + 1, none⟩ (.int .i64 t355)).setCell ⟨go10, (x4_1 : Int).toNat * 8 + 2, none⟩ (.string t356)).setCell ⟨go10, (x4_1 : Int).toNat * 8 + 3, none⟩ (.string t357)).setCell ⟨go10, (x4_1 : Int).toNat * 8 + 4, none⟩ (.int .i64 t358)).setCell ⟨go10, (x4_1 : Int).toNat * 8 + 5, none⟩ (.int .i64 t359)).setCell ⟨go10, (x4_1 : Int).toNat * 8 + 6, none⟩ (.string t360)).setCell ⟨go10, (x4_1 : Int).toNat * 8 + 7, none⟩ (.string t361))) ?hg ?ho ?hn ?hr ?_; (case ho => rfl); (case hg => rfl); (case hn => rfl); (case hr => first | (go_simp; done) | (go_simp; rfl)); intro w13 hw; have hg : w11.grownBy w13 (some go10) := (by rw [hw]; exact HP12.2); have hp_ : Kd.R k39 39 w13 w.heap.size (fun _ => True) (.slice (some ⟨go10, 0, none⟩) x3_1.length co10) y362 := (by rw [hw, Ny362.out]; exact HP12.1); clear HP12; have n0_ := Aside0.mk (hp_); have n1_ := Aside0.mk ((by rw [hw]; exact below_set (below_set (below_set (below_set (below_set (below_set (below_set (below_set (HB.out) GB10.out) GB10.out) GB10.out) GB10.out) GB10.out) GB10.out) GB10.out) GB10.out : Below w.heap.size w w13)); clear HO_3; clear HB; have HO_3 := n0_; have HB := n1_; clear n0_ n1_; clear hg hw hp_))
        go_roundg k1
        case measure => have := HK1.out; omega
        case rel => exact ⟨(y362), (wrap64 (x4_1 + 1)), (by first | rfl | (simp; done) | (simp [*]; done)), H', ⟨by have := HK1.out; omega⟩, ⟨by refine rx ?_; exact HO_3.out⟩, (hbw HB)⟩
       ·rw [if_neg c9] at H
        exact absurd H (by simp)
      ·rw [if_neg c7] at H
       exact absurd H (by simp)
     ·rw [if_neg c6] at H
      have c6b0 : decide (x4_1 < (l0.length : Int)) = false := decide_eq_false c6
      clear c6
      obtain rfl := Option.some.inj H
      go_wp2
      go_ret
      exact ⟨_, exq, by refine rx ?_; exact HO_3.out, bw HB.out⟩
  ·rw [if_neg c3] at H
   exact absurd H (by simp)
 ·rw [if_neg c2] at H
  exact absurd H (by simp)

end Go.Proofs.Ytdkologncoofdaa.P
-- Px33
namespace Go.Proofs.Ytdkologncoofdaa.P
open Go.RowKit Go.Proofs.YtdkologncoofdaaW.PrintWords Go.Proofs.YtdkologncoofdaaW.PrintLast Go.Proofs.YtdkologncoofdaaW.PrintMore
attribute [local go_sem] max2_int min2_int max_two min_two max_three min_three max_four min_four
set_option linter.unusedVariables false
def laws_eqRecPhase.f (a0_0 : ByteArray) (a0_1 : Int) (a0_2 : ByteArray) (a0_3 : ByteArray) (a0_4 : Int) (a0_5 : Int) (a0_6 : ByteArray) (a0_7 : ByteArray) (a1_0 : ByteArray) (a1_1 : Int) (a1_2 : ByteArray) (a1_3 : ByteArray) (a1_4 : Int) (a1_5 : Int) (a1_6 : ByteArray) (a1_7 : ByteArray) : Option (Bool) := if a0_0.toList = a1_0.toList then (if a0_1 = a1_1 then (if a0_2.toList = a1_2.toList then (if a0_3.toList = a1_3.toList then (if a0_4 = a1_4 then (if a0_5 = a1_5 then (if a0_6.toList = a1_6.toList then (if a0_7.toList = a1_7.toList then (some true) else (some false)) else (some false)) else (some false)) else (some false)) else (some false)) else (some false)) else (some false)) else (some false)
set_option maxHeartbeats 8000000 in
set_option maxRecDepth 100000 in
theorem laws_eqRecPhase.calls (a0_0 : ByteArray) (a0_1 : Int) (a0_2 : ByteArray) (a0_3 : ByteArray) (a0_4 : Int) (a0_5 : Int) (a0_6 : ByteArray) (a0_7 : ByteArray) (a1_0 : ByteArray) (a1_1 : Int) (a1_2 : ByteArray) (a1_3 : ByteArray) (a1_4 : Int) (a1_5 : Int) (a1_6 : ByteArray) (a1_7 : ByteArray) (r : Bool) (w : World) (h : laws_eqRecPhase.f a0_0 a0_1 a0_2 a0_3 a0_4 a0_5 a0_6 a0_7 a1_0 a1_1 a1_2 a1_3 a1_4 a1_5 a1_6 a1_7 = some r) :
    Calls Try.prog 83 #[.agg #[.string a0_0, .int .i64 a0_1, .string a0_2, .string a0_3, .int .i64 a0_4, .int .i64 a0_5, .string a0_6, .string a0_7], .agg #[.string a1_0, .int .i64 a1_1, .string a1_2, .string a1_3, .int .i64 a1_4, .int .i64 a1_5, .string a1_6, .string a1_7]] w fun e w' => e = .returned (.bool r) ∧ Below w.heap.size w w' := by
  have H := Aside0.mk h
  clear h
  go_enter Try.func83, Try.ntmps83
  go_wp2
  all_goals
    go_ret
    refine ⟨?_, by repeat (first | exact Below.refl _ _ | apply below_alloc | apply pw_below_drewN | apply below_drew1)⟩
    have h := H.out
    simp_all [laws_eqRecPhase.f]
end Go.Proofs.Ytdkologncoofdaa.P
