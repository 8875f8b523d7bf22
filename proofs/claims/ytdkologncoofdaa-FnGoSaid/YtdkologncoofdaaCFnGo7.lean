/- Part 7 of the texts that the law FnGo reaches: contracts of the functions and plain lemmas. -/
import Derived.Test.YtdkologncoofdaaCFnGo2
import Derived.Test.YtdkologncoofdaaCFnGo3
import Derived.Test.YtdkologncoofdaaCFnGo6
-- Px32
namespace Go.Proofs.Ytdkologncoofdaa.P
open Go.RowKit Go.Proofs.YtdkologncoofdaaW.PrintWords Go.Proofs.YtdkologncoofdaaW.PrintLast Go.Proofs.YtdkologncoofdaaW.PrintMore
attribute [local go_sem] max2_int min2_int max_two min_two max_three min_three max_four min_four   -- for this text's walks alone
set_option linter.unusedVariables false
set_option linter.unusedSimpArgs false

/-! ### laws_toRecPhaseS: function 38 -/
def laws_toRecPhaseS.l0 : Nat → List (S48) → List (S39) → Int → Option ((List (S39)))
 | 0, _, _, _ => none
 | k + 1, x0, x3, x4 => if x4 < (x0.length : Int) then (if 0 ≤ x4 then ((laws_toRecPhase.f ((rd_T48 x0 x4).f0) ((rd_T48 x0 x4).f1) ((rd_T48 x0 x4).f2) ((rd_T48 x0 x4).f3) ((rd_T48 x0 x4).f4) ((rd_T48 x0 x4).f5) ((rd_T48 x0 x4).f6) ((rd_T48 x0 x4).f7)).bind fun bt354 => (if x4 < (x3.length : Int) then (laws_toRecPhaseS.l0 k x0 (x3.set (x4 : Int).toNat (⟨bt354.1, bt354.2.1, bt354.2.2.1, bt354.2.2.2.1, bt354.2.2.2.2.1, bt354.2.2.2.2.2.1, bt354.2.2.2.2.2.2.1, bt354.2.2.2.2.2.2.2⟩ : S39)) (wrap64 (x4 + 1))) else (none))) else (none)) else (some x3)
def laws_toRecPhaseS.f (k : Nat) (l0 : List (S48)) : Option ((List (S39))) := if 0 ≤ (l0.length : Int) then (if ((l0.length : Int) : Int).toNat ≤ 2706490160679 then (laws_toRecPhaseS.l0 k l0 (List.replicate ((l0.length : Int) : Int).toNat z39) 0) else (none)) else (none)
theorem laws_toRecPhaseS.mono_l : ∀ k, (∀ y0 y1 y2, LeO (laws_toRecPhaseS.l0 k y0 y1 y2) (laws_toRecPhaseS.l0 (k + 1) y0 y1 y2))
 | 0 => fun _ _ _ r h => by simp [laws_toRecPhaseS.l0] at h
 | k + 1 => by
  have ih0 := laws_toRecPhaseS.mono_l k
  ·intro y0 y1 y2
   unfold laws_toRecPhaseS.l0
   repeat' first
   | (with_reducible exact ih0 _ _ _)
   | (with_reducible exact LeO.refl _)
   | (with_reducible exact LeO.none _)
   | (with_reducible refine LeO.ite ?_ ?_)
   | (with_reducible refine LeO.bind ?_ (fun _ => ?_))
   | exact ih0 _ _ _
   | exact LeO.none _
   | refine LeO.ite ?_ ?_
   | refine LeO.bind ?_ (fun _ => ?_)
theorem laws_toRecPhaseS.mono : ∀ a0 k, LeO (laws_toRecPhaseS.f k a0) (laws_toRecPhaseS.f (k + 1) a0) := by
 intro a0 k
 have ih0 := laws_toRecPhaseS.mono_l k
 unfold laws_toRecPhaseS.f
 repeat' first
   | (with_reducible exact ih0 _ _ _)
   | (with_reducible exact LeO.refl _)
   | (with_reducible exact LeO.none _)
   | (with_reducible refine LeO.ite ?_ ?_)
   | (with_reducible refine LeO.bind ?_ (fun _ => ?_))
   | exact ih0 _ _ _
   | exact LeO.none _
   | refine LeO.ite ?_ ?_
   | refine LeO.bind ?_ (fun _ => ?_)
set_option maxHeartbeats 8000000 in
set_option maxRecDepth 100000 in
theorem laws_toRecPhaseS.calls (k : Nat) (A0 : Option Addr) (c0 : Nat) (l0 : List (S48)) (r : List (S39)) (w : World) (hr0 : Kd.C k48 w A0 l0.length l0) (hc0 : l0.length ≤ c0) (h : laws_toRecPhaseS.f k l0 = some r) :
  Calls Try.prog 38 #[.slice A0 l0.length c0] w fun e w' => ∃ v0_ : Value, e = .returned (v0_) ∧ Kd.R k39 39 w' w.heap.size (fun _ => True) v0_ r ∧ Below w.heap.size w w' := by
 have hu48 := Try.underlying48
 have hu39 := Try.underlying39
 have HR0 := Aside0.mk hr0
 have HC0 := Aside0.mk hc0
 clear hr0 hc0
 have HB := Aside0.mk (Below.refl w.heap.size w)
 have H : (if 0 ≤ (l0.length : Int) then (if ((l0.length : Int) : Int).toNat ≤ 2706490160679 then (laws_toRecPhaseS.l0 k l0 (List.replicate ((l0.length : Int) : Int).toNat z39) 0) else (none)) else (none)) = some r := h
 clear h
 by_cases c2 : 0 ≤ (l0.length : Int)
 ·rw [if_pos c2] at H
  have c2b0 := eq_true c2
  have c2b1 : decide (0 ≤ (l0.length : Int)) = true := decide_eq_true c2
  clear c2
  by_cases c3 : ((l0.length : Int) : Int).toNat ≤ 2706490160679
  ·rw [if_pos c3] at H
   have c3b0 := eq_true c3
   have c3b1 : decide (((l0.length : Int) : Int).toNat ≤ 2706490160679) = true := decide_eq_true c3
   clear c3
   obtain ⟨y350, hy350⟩ : ∃ y_ : List (S39), y_ = (List.replicate ((l0.length : Int) : Int).toNat z39) := ⟨_, rfl⟩
   replace H : (laws_toRecPhaseS.l0 k l0 y350 0) = some r := by first | (rw [hy350]; with_reducible exact H) | (have H2_ := (Option.bind_some _ _).symm.trans H; rw [hy350]; with_reducible exact H2_) | (have H2_ := (Option.bind_some _ _).symm.trans H; with_reducible exact H2_) | with_reducible exact H | (rw [hy350]; exact H) | exact H
   have Ny350 := Aside0.mk hy350
   clear hy350
   have H' := Aside0.mk H
   clear H
   go_enter Try.func38, Try.ntmps38
   go_wp2_with (first | ((with_reducible refine gate_dst (N := 7) rfl ?_); refine Kd.R_make k39 _ 39 rfl (N := 7) rfl 26 _ _ rfl (l0.length : Int) rfl rfl Try.underlying26 (.agg #[(.string ⟨#[]⟩), (.int .i64 0), (.string ⟨#[]⟩), (.string ⟨#[]⟩), (.int .i64 0), (.int .i64 0), (.string ⟨#[]⟩), (.string ⟨#[]⟩)]) 104 info39 rfl (by decide) (by omega) z39 (ok := fun _ => True) (okp := fun _ => True) (k39_mkM _ _ _ z39 ) (fun _ hk => hk) trivial (oda) (Nat.le_trans (Nat.mul_le_mul_right _ (oda : (l0.length : Int).toNat ≤ 2706490160679)) (by omega)) (Below.refl _ _) (Nat.le_refl _) ?_; intro v351 w4 ho5 hb hg_ hnew_; clear hg_ hnew_; (first | rw [← Ny350.out] at ho5 | (simp only [Int.reduceToNat] at ho5; rw [← Ny350.out] at ho5)); have n0_ := Aside0.mk (Kd.R_lower ho5 (below_size (bw HB.out))); have n1_ := bs HB hb; clear HB; have HO352 := n0_; have HB := n1_; clear n0_ n1_; clear hb ho5))
   go_loopg [4] k (fun kq v4 w' => ∃ (x3_1 : List (S39)) (x4_1 : Int), v4 = .int .i64 x4_1 ∧ Aside0 (laws_toRecPhaseS.l0 kq l0 x3_1 x4_1 = some r) ∧ Aside0 (kq ≤ k) ∧ Aside0 (Kd.R k39 39 w' w.heap.size (fun _ => True) v351 x3_1) ∧ Aside0 (Below w.heap.size w w'))
   case atStart => exact ⟨(y350), (0), (by first | rfl | (simp; done) | (simp [*]; done)), H', ⟨Nat.le_refl _⟩, ⟨by refine rx ?_; exact HO352.out⟩, (hbw HB)⟩
   case round =>
    clear H'
    try clear c2
    try clear c2b0
    try clear c2b1
    try clear p2
    try clear c3
    try clear c3b0
    try clear c3b1
    obtain ⟨x3_1, x4_1, rfl, HA, HK1, HO_3, HB⟩ := hrel
    cases gk with
    | zero => exact absurd HA.out (by simp [laws_toRecPhaseS.l0])
    | succ k1 =>
     have H := HA.out
     clear HA
     simp only [laws_toRecPhaseS.l0] at H
     by_cases c6 : x4_1 < (l0.length : Int)
     ·rw [if_pos c6] at H
      have c6b0 : decide (x4_1 < (l0.length : Int)) = true := decide_eq_true c6
      clear c6
      by_cases c7 : 0 ≤ x4_1
      ·rw [if_pos c7] at H
       have c7b0 : decide (0 ≤ x4_1) = true := decide_eq_true c7
       clear c7
       replace H := Option.bind_eq_some_iff.mp H
       obtain ⟨⟨t354, t355, t356, t357, t358, t359, t360, t361⟩, A80, H⟩ := H
       replace H : (if x4_1 < (x3_1.length : Int) then (laws_toRecPhaseS.l0 k1 l0 (x3_1.set (x4_1 : Int).toNat (⟨t354, t355, t356, t357, t358, t359, t360, t361⟩ : S39)) (wrap64 (x4_1 + 1))) else (none)) = some r := H
       have A8 := Aside0.mk A80
       clear A80
       by_cases c9 : x4_1 < (x3_1.length : Int)
       ·rw [if_pos c9] at H
        have c9b0 : decide (x4_1 < (x3_1.length : Int)) = true := decide_eq_true c9
        clear c9
        obtain ⟨y362, hy362⟩ : ∃ y_ : List (S39), y_ = (x3_1.set (x4_1 : Int).toNat (⟨t354, t355, t356, t357, t358, t359, t360, t361⟩ : S39)) := ⟨_, rfl⟩
        replace H : (laws_toRecPhaseS.l0 k1 l0 y362 (wrap64 (x4_1 + 1))) = some r := by first | (rw [hy362]; with_reducible exact H) | (have H2_ := (Option.bind_some _ _).symm.trans H; rw [hy362]; with_reducible exact H2_) | (have H2_ := (Option.bind_some _ _).symm.trans H; with_reducible exact H2_) | with_reducible exact H | (rw [hy362]; exact H) | exact H
        have Ny362 := Aside0.mk hy362
        clear hy362
        have H' := Aside0.mk H
        clear H
        have p353 : 0 ≤ (x4_1 : Int) := oda
        have q353 : x4_1 < (l0.length : Int) := oda
        obtain ⟨ad353, e353, hx353_0, hx353_1, hx353_2, hx353_3, hx353_4, hx353_5, hx353_6, hx353_7⟩ := at_T48 HR0.out x4_1 p353 q353
        cases e353
        replace hx353_0 := bcl HB hx353_0
        replace hx353_1 := bcl HB hx353_1
        replace hx353_2 := bcl HB hx353_2
        replace hx353_3 := bcl HB hx353_3
        replace hx353_4 := bcl HB hx353_4
        replace hx353_5 := bcl HB hx353_5
        replace hx353_6 := bcl HB hx353_6
        replace hx353_7 := bcl HB hx353_7
        replace p353 := eq_true p353
        replace q353 := eq_true q353
        go_wp2_with (first | ((with_reducible refine gate_callee (f := 33) rfl ?_); refine goesL_ (some 20) rfl rfl Try.func33 (by kernel_rfl) rfl #[.agg #[.string ((rd_T48 l0 x4_1).f0), .int .i64 ((rd_T48 l0 x4_1).f1), .string ((rd_T48 l0 x4_1).f2), .string ((rd_T48 l0 x4_1).f3), .int .i64 ((rd_T48 l0 x4_1).f4), .int .i64 ((rd_T48 l0 x4_1).f5), .string ((rd_T48 l0 x4_1).f6), .string ((rd_T48 l0 x4_1).f7)]] rfl mxp ?_; (with_reducible refine (laws_toRecPhase.calls ((rd_T48 l0 x4_1).f0) ((rd_T48 l0 x4_1).f1) ((rd_T48 l0 x4_1).f2) ((rd_T48 l0 x4_1).f3) ((rd_T48 l0 x4_1).f4) ((rd_T48 l0 x4_1).f5) ((rd_T48 l0 x4_1).f6) ((rd_T48 l0 x4_1).f7) t354 t355 t356 t357 t358 t359 t360 t361 _ A8.out).mono ?_); rintro e w11 ⟨rfl, hb⟩; refine ⟨_, rfl, ?_⟩; have n0_ := Aside0.mk (Kd.R_below (rx HO_3.out) hb); have n1_ := bs HB hb; clear HO_3; clear HB; have HO_3 := n0_; have HB := n1_; clear n0_ n1_; (try clear hb); (try clear hb2); (try clear hk); (try clear hi); have p10 : 0 ≤ (x4_1 : Int) := oda; have q10 : (x4_1 : Int) < ((x3_1.length : Int) : Int) := oda; obtain ⟨go10, co10, eo10, gb10, gl10, cl10, HG10⟩ := Kd.R_form HO_3.out (by omega); (first | cases eo10 | (injection eo10 with ea_ en_ ec_; (first | subst ea_ | (injection ea_ with ea_; subst ea_)); subst ec_; clear en_)); have GB10 := Aside0.mk gb10; have GG10 := Aside0.mk HG10; clear gb10 gl10 HG10; obtain ⟨ce10, hcl10, hM10, hcc10, hfr10⟩ := Kd.R_elem HO_3.out z39 (x4_1 : Int) p10 q10; obtain rfl := k39_openM hM10; have hx10_0 : w11.cell? ⟨go10, (x4_1 : Int).toNat * 8, none⟩ = some (.string ((rd_T39 x3_1 x4_1).f0)) := hcc10 0 _ rfl; have hx10_1 : w11.cell? ⟨go10, (x4_1 : Int).toNat * 8 + 1, none⟩ = some (.int .i64 ((rd_T39 x3_1 x4_1).f1)) := hcc10 1 _ rfl; have hx10_2 : w11.cell? ⟨go10, (x4_1 : Int).toNat * 8 + 2, none⟩ = some (.string ((rd_T39 x3_1 x4_1).f2)) := hcc10 2 _ rfl; have hx10_3 : w11.cell? ⟨go10, (x4_1 : Int).toNat * 8 + 3, none⟩ = some (.string ((rd_T39 x3_1 x4_1).f3)) := hcc10 3 _ rfl; have hx10_4 : w11.cell? ⟨go10, (x4_1 : Int).toNat * 8 + 4, none⟩ = some (.int .i64 ((rd_T39 x3_1 x4_1).f4)) := hcc10 4 _ rfl; have hx10_5 : w11.cell? ⟨go10, (x4_1 : Int).toNat * 8 + 5, none⟩ = some (.int .i64 ((rd_T39 x3_1 x4_1).f5)) := hcc10 5 _ rfl; have hx10_6 : w11.cell? ⟨go10, (x4_1 : Int).toNat * 8 + 6, none⟩ = some (.string ((rd_T39 x3_1 x4_1).f6)) := hcc10 6 _ rfl; have hx10_7 : w11.cell? ⟨go10, (x4_1 : Int).toNat * 8 + 7, none⟩ = some (.string ((rd_T39 x3_1 x4_1).f7)) := hcc10 7 _ rfl; have hf10_0 : w11.frozen? ⟨go10, (x4_1 : Int).toNat * 8, none⟩ = false := hfr10 0; have hf10_1 : w11.frozen? ⟨go10, (x4_1 : Int).toNat * 8 + 1, none⟩ = false := hfr10 1; have hf10_2 : w11.frozen? ⟨go10, (x4_1 : Int).toNat * 8 + 2, none⟩ = false := hfr10 2; have hf10_3 : w11.frozen? ⟨go10, (x4_1 : Int).toNat * 8 + 3, none⟩ = false := hfr10 3; have hf10_4 : w11.frozen? ⟨go10, (x4_1 : Int).toNat * 8 + 4, none⟩ = false := hfr10 4; have hf10_5 : w11.frozen? ⟨go10, (x4_1 : Int).toNat * 8 + 5, none⟩ = false := hfr10 5; have hf10_6 : w11.frozen? ⟨go10, (x4_1 : Int).toNat * 8 + 6, none⟩ = false := hfr10 6; have hf10_7 : w11.frozen? ⟨go10, (x4_1 : Int).toNat * 8 + 7, none⟩ = false := hfr10 7; clear hcl10 hcc10 hfr10 hM10; replace p10 := eq_true p10; replace q10 := eq_true q10; have HX12 := Aside0.mk (show Kd.R k39 39 w11 w.heap.size (fun _ => True) (.slice (some ⟨go10, 0, none⟩) x3_1.length co10) x3_1 from (rx HO_3.out)); obtain ⟨ce12, hcl12, hM12, hcc12, hfr12⟩ := Kd.R_elem HX12.out z39 (x4_1 : Int) (oda) (by have h_ : (x4_1 : Int) < ((x3_1.length : Int) : Int) := oda; first | exact h_ | (have e_ := (Kd.R_reads' HO_3.out).1; omega) | simpa using h_); obtain rfl := k39_openM hM12; have HP12 := Kd.R_seg HX12.out (x4_1 : Int) (oda) (by have h_ : (x4_1 : Int) < ((x3_1.length : Int) : Int) := oda; first | exact h_ | (have e_ := (Kd.R_reads' HO_3.out).1; omega) | simpa using h_) (seg := [.string t354, .int .i64 t355, .string t356, .string t357, .int .i64 t358, .int .i64 t359, .string t360, .string t361]) (j := 0) hcl12 hcc12 (show 8 ≤ 8 from by decide) (x' := (⟨t354, t355, t356, t357, t358, t359, t360, t361⟩ : S39)) (k39_mkM _ _ _ (⟨t354, t355, t356, t357, t358, t359, t360, t361⟩ : S39) ) (fun _ hk => hk); have hx12_0 := hcc12 0 _ rfl; (try simp only [show (k39).sz = 8 from rfl, Nat.mul_one, Nat.add_zero] at hx12_0); have hf12_0 := hfr12 0; (try simp only [show (k39).sz = 8 from rfl, Nat.mul_one, Nat.add_zero] at hf12_0); have hx12_1 := hcc12 1 _ rfl; (try simp only [show (k39).sz = 8 from rfl, Nat.mul_one, Nat.add_zero] at hx12_1); have hf12_1 := hfr12 1; (try simp only [show (k39).sz = 8 from rfl, Nat.mul_one, Nat.add_zero] at hf12_1); have hx12_2 := hcc12 2 _ rfl; (try simp only [show (k39).sz = 8 from rfl, Nat.mul_one, Nat.add_zero] at hx12_2); have hf12_2 := hfr12 2; (try simp only [show (k39).sz = 8 from rfl, Nat.mul_one, Nat.add_zero] at hf12_2); have hx12_3 := hcc12 3 _ rfl; (try simp only [show (k39).sz = 8 from rfl, Nat.mul_one, Nat.add_zero] at hx12_3); have hf12_3 := hfr12 3; (try simp only [show (k39).sz = 8 from rfl, Nat.mul_one, Nat.add_zero] at hf12_3); have hx12_4 := hcc12 4 _ rfl; (try simp only [show (k39).sz = 8 from rfl, Nat.mul_one, Nat.add_zero] at hx12_4); have hf12_4 := hfr12 4; (try simp only [show (k39).sz = 8 from rfl, Nat.mul_one, Nat.add_zero] at hf12_4); have hx12_5 := hcc12 5 _ rfl; (try simp only [show (k39).sz = 8 from rfl, Nat.mul_one, Nat.add_zero] at hx12_5); have hf12_5 := hfr12 5; (try simp only [show (k39).sz = 8 from rfl, Nat.mul_one, Nat.add_zero] at hf12_5); have hx12_6 := hcc12 6 _ rfl; (try simp only [show (k39).sz = 8 from rfl, Nat.mul_one, Nat.add_zero] at hx12_6); have hf12_6 := hfr12 6; (try simp only [show (k39).sz = 8 from rfl, Nat.mul_one, Nat.add_zero] at hf12_6); have hx12_7 := hcc12 7 _ rfl; (try simp only [show (k39).sz = 8 from rfl, Nat.mul_one, Nat.add_zero] at hx12_7); have hf12_7 := hfr12 7; (try simp only [show (k39).sz = 8 from rfl, Nat.mul_one, Nat.add_zero] at hf12_7); clear hcl12 hcc12 hfr12 hM12) | ((with_reducible refine gate_store (t := 39) (p := 21) rfl ?_); refine store_event (t := 39) (p := 21) (v := ?vo_w13) (w1 := ((((((((w11.setCell ⟨go10, (x4_1 : Int).toNat * 8, none⟩ (.string t354)).setCell ⟨go10, (x4_1 : Int).toNat * 8 + 1, none⟩ (.int .i64 t355)).setCell ⟨go10, (x4_1 : Int).toNat * 8 + 2, none⟩ (.string t356)).setCell ⟨go10, (x4_1 : Int).toNat * 8 + 3, none⟩ (.string t357)).setCell ⟨go10, (x4_1 : Int).toNat * 8 + 4, none⟩ (.int .i64 t358)).setCell ⟨go10, (x4_1 : Int).toNat * 8 + 5, none⟩ (.int .i64 t359)).setCell ⟨go10, (x4_1 : Int).toNat * 8 + 6, none⟩ (.string t360)).setCell ⟨go10, (x4_1 : Int).toNat * 8 + 7, none⟩ (.string t361))) ?hg ?ho ?hn ?hr ?_; (case ho => rfl); (case hg => rfl); (case hn => rfl); (case hr => first | (go_simp; done) | (go_simp; rfl)); intro w13 hw; have hg : w11.grownBy w13 (some go10) := (by rw [hw]; exact HP12.2); have hp_ : Kd.R k39 39 w13 w.heap.size (fun _ => True) (.slice (some ⟨go10, 0, none⟩) x3_1.length co10) y362 := (by rw [hw, Ny362.out]; exact HP12.1); clear HP12; have n0_ := Aside0.mk (hp_); have n1_ := Aside0.mk ((by rw [hw]; exact below_set (below_set (below_set (below_set (below_set (below_set (below_set (below_set (HB.out) GB10.out) GB10.out) GB10.out) GB10.out) GB10.out) GB10.out) GB10.out) GB10.out : Below w.heap.size w w13)); clear HO_3; clear HB; have HO_3 := n0_; have HB := n1_; clear n0_ n1_; clear hg hw hp_))
        go_roundg k1
        case measure => have := HK1.out; omega
        case rel => exact ⟨(y362), (wrap64 (x4_1 + 1)), (by first | rfl | (simp; done) | (simp [*]; done)), H', ⟨by have := HK1.out; omega⟩, ⟨by refine rx ?_; exact HO_3.out⟩, (hbw HB)⟩
       ·rw [if_neg c9] at H
        exact absurd H (by simp)
      ·rw [if_neg c7] at H
       exact absurd H (by simp)
     ·rw [if_neg c6] at H
      have c6b0 : decide (x4_1 < (l0.length : Int)) = false := decide_eq_false c6
      clear c6
      obtain rfl := Option.some.inj H
      go_wp2
      go_ret
      exact ⟨_, exq, by refine rx ?_; exact HO_3.out, bw HB.out⟩
  ·rw [if_neg c3] at H
   exact absurd H (by simp)
 ·rw [if_neg c2] at H
  exact absurd H (by simp)

end Go.Proofs.Ytdkologncoofdaa.P
-- Px33
namespace Go.Proofs.Ytdkologncoofdaa.P
open Go.RowKit Go.Proofs.YtdkologncoofdaaW.PrintWords Go.Proofs.YtdkologncoofdaaW.PrintLast Go.Proofs.YtdkologncoofdaaW.PrintMore
attribute [local go_sem] max2_int min2_int max_two min_two max_three min_three max_four min_four
set_option linter.unusedVariables false
def laws_eqRecPhase.f (a0_0 : ByteArray) (a0_1 : Int) (a0_2 : ByteArray) (a0_3 : ByteArray) (a0_4 : Int) (a0_5 : Int) (a0_6 : ByteArray) (a0_7 : ByteArray) (a1_0 : ByteArray) (a1_1 : Int) (a1_2 : ByteArray) (a1_3 : ByteArray) (a1_4 : Int) (a1_5 : Int) (a1_6 : ByteArray) (a1_7 : ByteArray) : Option (Bool) := if a0_0.toList = a1_0.toList then (if a0_1 = a1_1 then (if a0_2.toList = a1_2.toList then (if a0_3.toList = a1_3.toList then (if a0_4 = a1_4 then (if a0_5 = a1_5 then (if a0_6.toList = a1_6.toList then (if a0_7.toList = a1_7.toList then (some true) else (some false)) else (some false)) else (some false)) else (some false)) else (some false)) else (some false)) else (some false)) else (some false)
set_option maxHeartbeats 8000000 in
set_option maxRecDepth 100000 in
theorem laws_eqRecPhase.calls (a0_0 : ByteArray) (a0_1 : Int) (a0_2 : ByteArray) (a0_3 : ByteArray) (a0_4 : Int) (a0_5 : Int) (a0_6 : ByteArray) (a0_7 : ByteArray) (a1_0 : ByteArray) (a1_1 : Int) (a1_2 : ByteArray) (a1_3 : ByteArray) (a1_4 : Int) (a1_5 : Int) (a1_6 : ByteArray) (a1_7 : ByteArray) (r : Bool) (w : World) (h : laws_eqRecPhase.f a0_0 a0_1 a0_2 a0_3 a0_4 a0_5 a0_6 a0_7 a1_0 a1_1 a1_2 a1_3 a1_4 a1_5 a1_6 a1_7 = some r) :
    Calls Try.prog 83 #[.agg #[.string a0_0, .int .i64 a0_1, .string a0_2, .string a0_3, .int .i64 a0_4, .int .i64 a0_5, .string a0_6, .string a0_7], .agg #[.string a1_0, .int .i64 a1_1, .string a1_2, .string a1_3, .int .i64 a1_4, .int .i64 a1_5, .string a1_6, .string a1_7]] w fun e w' => e = .returned (.bool r) ∧ Below w.heap.size w w' := by
  have H := Aside0.mk h
  clear h
  go_enter Try.func83, Try.ntmps83
  go_wp2
  all_goals
    go_ret
    refine ⟨?_, by repeat (first | exact Below.refl _ _ | apply below_alloc | apply pw_below_drewN | apply below_drew1)⟩
    have h := H.out
    simp_all [laws_eqRecPhase.f]
end Go.Proofs.Ytdkologncoofdaa.P
-- Px34
namespace Go.Proofs.Ytdkologncoofdaa.P
open Go.RowKit Go.Proofs.YtdkologncoofdaaW.PrintWords Go.Proofs.YtdkologncoofdaaW.PrintLast Go.Proofs.YtdkologncoofdaaW.PrintMore
attribute [local go_sem] max2_int min2_int max_two min_two max_three min_three max_four min_four   -- for this text's walks alone
set_option linter.unusedVariables false
set_option linter.unusedSimpArgs false

/-! ### laws_eqRecPhaseS: function 39 -/
def laws_eqRecPhaseS.l0 : Nat → List (S39) → List (S39) → Int → Option (Bool)
 | 0, _, _, _ => none
 | k + 1, x0, x1, x5 => if x5 < (x0.length : Int) then (if 0 ≤ x5 then (if x5 < (x1.length : Int) then ((laws_eqRecPhase.f ((rd_T39 x0 x5).f0) ((rd_T39 x0 x5).f1) ((rd_T39 x0 x5).f2) ((rd_T39 x0 x5).f3) ((rd_T39 x0 x5).f4) ((rd_T39 x0 x5).f5) ((rd_T39 x0 x5).f6) ((rd_T39 x0 x5).f7) ((rd_T39 x1 x5).f0) ((rd_T39 x1 x5).f1) ((rd_T39 x1 x5).f2) ((rd_T39 x1 x5).f3) ((rd_T39 x1 x5).f4) ((rd_T39 x1 x5).f5) ((rd_T39 x1 x5).f6) ((rd_T39 x1 x5).f7)).bind fun t367 => (if t367 = true then (laws_eqRecPhaseS.l0 k x0 x1 (wrap64 (x5 + 1))) else (some false))) else (none)) else (none)) else (some true)
def laws_eqRecPhaseS.f (k : Nat) (l0 : List (S39)) (l1 : List (S39)) : Option (Bool) := if (l0.length : Int) = (l1.length : Int) then (laws_eqRecPhaseS.l0 k l0 l1 0) else (some false)
theorem laws_eqRecPhaseS.mono_l : ∀ k, (∀ y0 y1 y2, LeO (laws_eqRecPhaseS.l0 k y0 y1 y2) (laws_eqRecPhaseS.l0 (k + 1) y0 y1 y2))
 | 0 => fun _ _ _ r h => by simp [laws_eqRecPhaseS.l0] at h
 | k + 1 => by
  have ih0 := laws_eqRecPhaseS.mono_l k
  ·intro y0 y1 y2
   unfold laws_eqRecPhaseS.l0
   repeat' first
   | (with_reducible exact ih0 _ _ _)
   | (with_reducible exact LeO.refl _)
   | (with_reducible exact LeO.none _)
   | (with_reducible refine LeO.ite ?_ ?_)
   | (with_reducible refine LeO.bind ?_ (fun _ => ?_))
   | exact ih0 _ _ _
   | exact LeO.none _
   | refine LeO.ite ?_ ?_
   | refine LeO.bind ?_ (fun _ => ?_)
theorem laws_eqRecPhaseS.mono : ∀ a0 a1 k, LeO (laws_eqRecPhaseS.f k a0 a1) (laws_eqRecPhaseS.f (k + 1) a0 a1) := by
 intro a0 a1 k
 have ih0 := laws_eqRecPhaseS.mono_l k
 unfold laws_eqRecPhaseS.f
 repeat' first
   | (with_reducible exact ih0 _ _ _)
   | (with_reducible exact LeO.refl _)
   | (with_reducible exact LeO.none _)
   | (with_reducible refine LeO.ite ?_ ?_)
   | (with_reducible refine LeO.bind ?_ (fun _ => ?_))
   | exact ih0 _ _ _
   | exact LeO.none _
   | refine LeO.ite ?_ ?_
   | refine LeO.bind ?_ (fun _ => ?_)
def laws_eqRecPhaseS.T6 : Bool × List (List Nat × List Nat) := (true, [([], []), ([], []), ([0, 1], [0, 1]), ([2], [2]), ([], []), ([], []), ([4, 5], [4, 5]), ([6], [6]), ([3, 7], [3, 7]), ([8], [8])])
def laws_eqRecPhaseS.B6 : List Nat := [0, 0, 3, 7, 0, 0, 48, 112, 255, 511]
theorem laws_eqRecPhaseS.tab6 : rtab .any (opsOf Try.f39 6) = laws_eqRecPhaseS.T6 := by kernel_rfl
theorem laws_eqRecPhaseS.bits6 : waitsOk laws_eqRecPhaseS.T6.2 laws_eqRecPhaseS.B6 = true := by kernel_rfl
set_option maxHeartbeats 8000000 in
set_option maxRecDepth 100000 in
theorem laws_eqRecPhaseS.calls (k : Nat) (A0 : Option Addr) (c0 : Nat) (l0 : List (S39)) (A1 : Option Addr) (c1 : Nat) (l1 : List (S39)) (r : Bool) (w : World) (hr0 : Kd.C k39 w A0 l0.length l0) (hc0 : l0.length ≤ c0) (hr1 : Kd.C k39 w A1 l1.length l1) (hc1 : l1.length ≤ c1) (h : laws_eqRecPhaseS.f k l0 l1 = some r) :
  Calls Try.prog 39 #[.slice A0 l0.length c0, .slice A1 l1.length c1] w fun e w' => e = .returned (.bool r) ∧ Below w.heap.size w w' := by
 have hu39 := Try.underlying39
 have HR0 := Aside0.mk hr0
 have HC0 := Aside0.mk hc0
 clear hr0 hc0
 have HR1 := Aside0.mk hr1
 have HC1 := Aside0.mk hc1
 clear hr1 hc1
 have HB := Aside0.mk (Below.refl w.heap.size w)
 have H : (if (l0.length : Int) = (l1.length : Int) then (laws_eqRecPhaseS.l0 k l0 l1 0) else (some false)) = some r := h
 clear h
 by_cases c3 : (l0.length : Int) = (l1.length : Int)
 ·rw [if_pos c3] at H
  have c3b0 : ((l0.length : Int) == (l1.length : Int)) = true := beq_iff_eq.mpr c3
  have c3b1 : ((l0.length : Int) != (l1.length : Int)) = false := bne_eq_false_iff_eq.mpr c3
  have c3b2 : (l0.length == l1.length) = true := by first | simpa using c3 | (simp at c3 ⊢; omega)
  clear c3
  have H' := Aside0.mk H
  clear H
  go_enter Try.func39, Try.ntmps39
  go_wp2
  go_loopg [5] k (fun kq v5 w' => ∃ (x5_1 : Int), v5 = .int .i64 x5_1 ∧ Aside0 (laws_eqRecPhaseS.l0 kq l0 l1 x5_1 = some r) ∧ Aside0 (kq ≤ k) ∧ Aside0 (Below w.heap.size w w'))
  case atStart => exact ⟨(0), (by first | rfl | (simp; done) | (simp [*]; done)), H', ⟨Nat.le_refl _⟩, (hbw HB)⟩
  case round =>
   clear H'
   try clear c1
   try clear p2
   try clear c3
   try clear c3b0
   try clear c3b1
   try clear c3b2
   obtain ⟨x5_1, rfl, HA, HK1, HB⟩ := hrel
   cases gk with
   | zero => exact absurd HA.out (by simp [laws_eqRecPhaseS.l0])
   | succ k1 =>
    have H := HA.out
    clear HA
    simp only [laws_eqRecPhaseS.l0] at H
    by_cases c4 : x5_1 < (l0.length : Int)
    ·rw [if_pos c4] at H
     have c4b0 : decide (x5_1 < (l0.length : Int)) = true := decide_eq_true c4
     clear c4
     by_cases c5 : 0 ≤ x5_1
     ·rw [if_pos c5] at H
      have c5b0 : decide (0 ≤ x5_1) = true := decide_eq_true c5
      clear c5
      by_cases c6 : x5_1 < (l1.length : Int)
      ·rw [if_pos c6] at H
       have c6b0 : decide (x5_1 < (l1.length : Int)) = true := decide_eq_true c6
       clear c6
       replace H := Option.bind_eq_some_iff.mp H
       obtain ⟨t367, A70, H⟩ := H
       replace H : (if t367 = true then (laws_eqRecPhaseS.l0 k1 l0 l1 (wrap64 (x5_1 + 1))) else (some false)) = some r := H
       have A7 := Aside0.mk A70
       clear A70
       by_cases c8 : t367 = true
       ·subst c8
        have H1 : (laws_eqRecPhaseS.l0 k1 l0 l1 (wrap64 (x5_1 + 1))) = some r := by rw [if_pos rfl] at H; exact H
        clear H
        have H := H1
        clear H1
        have H' := Aside0.mk H
        clear H
        try go_wp2
        have n0_ := Aside0.mk (below_drew1 HB.out)
        clear HB
        have HB := n0_
        clear n0_
        have p365 : 0 ≤ (x5_1 : Int) := oda
        have q365 : x5_1 < (l0.length : Int) := oda
        obtain ⟨ad365, e365, hx365_0, hx365_1, hx365_2, hx365_3, hx365_4, hx365_5, hx365_6, hx365_7⟩ := at_T39 HR0.out x5_1 p365 q365
        have hw365_7 := hx365_7
        have hw365_6 := hx365_6
        have hw365_5 := hx365_5
        have hw365_4 := hx365_4
        have hw365_3 := hx365_3
        have hw365_2 := hx365_2
        have hw365_1 := hx365_1
        have hw365_0 := hx365_0
        cases e365
        replace hx365_0 := bcl HB hx365_0
        replace hx365_1 := bcl HB hx365_1
        replace hx365_2 := bcl HB hx365_2
        replace hx365_3 := bcl HB hx365_3
        replace hx365_4 := bcl HB hx365_4
        replace hx365_5 := bcl HB hx365_5
        replace hx365_6 := bcl HB hx365_6
        replace hx365_7 := bcl HB hx365_7
        replace p365 := eq_true p365
        replace q365 := eq_true q365
        have p366 : 0 ≤ (x5_1 : Int) := oda
        have q366 : x5_1 < (l1.length : Int) := oda
        obtain ⟨ad366, e366, hx366_0, hx366_1, hx366_2, hx366_3, hx366_4, hx366_5, hx366_6, hx366_7⟩ := at_T39 HR1.out x5_1 p366 q366
        have hw366_7 := hx366_7
        have hw366_6 := hx366_6
        have hw366_5 := hx366_5
        have hw366_4 := hx366_4
        have hw366_3 := hx366_3
        have hw366_2 := hx366_2
        have hw366_1 := hx366_1
        have hw366_0 := hx366_0
        cases e366
        replace hx366_0 := bcl HB hx366_0
        replace hx366_1 := bcl HB hx366_1
        replace hx366_2 := bcl HB hx366_2
        replace hx366_3 := bcl HB hx366_3
        replace hx366_4 := bcl HB hx366_4
        replace hx366_5 := bcl HB hx366_5
        replace hx366_6 := bcl HB hx366_6
        replace hx366_7 := bcl HB hx366_7
        replace p366 := eq_true p366
        replace q366 := eq_true q366
        refine start_ (n := 10) (S := fun w' => w'.cell? (ad365.add ((x5_1).toNat * 8)) = some (.string ((rd_T39 l0 x5_1).f0)) ∧ w'.cell? ⟨(ad365.add ((x5_1).toNat * 8)).block, (ad365.add ((x5_1).toNat * 8)).off + 1, none⟩ = some (.int .i64 ((rd_T39 l0 x5_1).f1)) ∧ w'.cell? ⟨(ad365.add ((x5_1).toNat * 8)).block, (ad365.add ((x5_1).toNat * 8)).off + 2, none⟩ = some (.string ((rd_T39 l0 x5_1).f2)) ∧ w'.cell? ⟨(ad365.add ((x5_1).toNat * 8)).block, (ad365.add ((x5_1).toNat * 8)).off + 3, none⟩ = some (.string ((rd_T39 l0 x5_1).f3)) ∧ w'.cell? ⟨(ad365.add ((x5_1).toNat * 8)).block, (ad365.add ((x5_1).toNat * 8)).off + 4, none⟩ = some (.int .i64 ((rd_T39 l0 x5_1).f4)) ∧ w'.cell? ⟨(ad365.add ((x5_1).toNat * 8)).block, (ad365.add ((x5_1).toNat * 8)).off + 5, none⟩ = some (.int .i64 ((rd_T39 l0 x5_1).f5)) ∧ w'.cell? ⟨(ad365.add ((x5_1).toNat * 8)).block, (ad365.add ((x5_1).toNat * 8)).off + 6, none⟩ = some (.string ((rd_T39 l0 x5_1).f6)) ∧ w'.cell? ⟨(ad365.add ((x5_1).toNat * 8)).block, (ad365.add ((x5_1).toNat * 8)).off + 7, none⟩ = some (.string ((rd_T39 l0 x5_1).f7)) ∧ w'.cell? (ad366.add ((x5_1).toNat * 8)) = some (.string ((rd_T39 l1 x5_1).f0)) ∧ w'.cell? ⟨(ad366.add ((x5_1).toNat * 8)).block, (ad366.add ((x5_1).toNat * 8)).off + 1, none⟩ = some (.int .i64 ((rd_T39 l1 x5_1).f1)) ∧ w'.cell? ⟨(ad366.add ((x5_1).toNat * 8)).block, (ad366.add ((x5_1).toNat * 8)).off + 2, none⟩ = some (.string ((rd_T39 l1 x5_1).f2)) ∧ w'.cell? ⟨(ad366.add ((x5_1).toNat * 8)).block, (ad366.add ((x5_1).toNat * 8)).off + 3, none⟩ = some (.string ((rd_T39 l1 x5_1).f3)) ∧ w'.cell? ⟨(ad366.add ((x5_1).toNat * 8)).block, (ad366.add ((x5_1).toNat * 8)).off + 4, none⟩ = some (.int .i64 ((rd_T39 l1 x5_1).f4)) ∧ w'.cell? ⟨(ad366.add ((x5_1).toNat * 8)).block, (ad366.add ((x5_1).toNat * 8)).off + 5, none⟩ = some (.int .i64 ((rd_T39 l1 x5_1).f5)) ∧ w'.cell? ⟨(ad366.add ((x5_1).toNat * 8)).block, (ad366.add ((x5_1).toNat * 8)).off + 6, none⟩ = some (.string ((rd_T39 l1 x5_1).f6)) ∧ w'.cell? ⟨(ad366.add ((x5_1).toNat * 8)).block, (ad366.add ((x5_1).toNat * 8)).off + 7, none⟩ = some (.string ((rd_T39 l1 x5_1).f7))) (ds := []) #[false, false, false, false, false, false, false, false, false, false] (by kernel_rfl) rfl rfl ⟨((HB.out.cell (World.block_lt_of_cell? w _ hw365_0)).trans hw365_0), ((HB.out.cell (World.block_lt_of_cell? w _ hw365_1)).trans hw365_1), ((HB.out.cell (World.block_lt_of_cell? w _ hw365_2)).trans hw365_2), ((HB.out.cell (World.block_lt_of_cell? w _ hw365_3)).trans hw365_3), ((HB.out.cell (World.block_lt_of_cell? w _ hw365_4)).trans hw365_4), ((HB.out.cell (World.block_lt_of_cell? w _ hw365_5)).trans hw365_5), ((HB.out.cell (World.block_lt_of_cell? w _ hw365_6)).trans hw365_6), ((HB.out.cell (World.block_lt_of_cell? w _ hw365_7)).trans hw365_7), ((HB.out.cell (World.block_lt_of_cell? w _ hw366_0)).trans hw366_0), ((HB.out.cell (World.block_lt_of_cell? w _ hw366_1)).trans hw366_1), ((HB.out.cell (World.block_lt_of_cell? w _ hw366_2)).trans hw366_2), ((HB.out.cell (World.block_lt_of_cell? w _ hw366_3)).trans hw366_3), ((HB.out.cell (World.block_lt_of_cell? w _ hw366_4)).trans hw366_4), ((HB.out.cell (World.block_lt_of_cell? w _ hw366_5)).trans hw366_5), ((HB.out.cell (World.block_lt_of_cell? w _ hw366_6)).trans hw366_6), ((HB.out.cell (World.block_lt_of_cell? w _ hw366_7)).trans hw366_7)⟩ (fun hHeld => ?_); refine with_tabW laws_eqRecPhaseS.tab6 laws_eqRecPhaseS.bits6 (fun HT_ HW_ => ?_)
        generalize wr.drew = w9 at HB hx365_0 hx365_1 hx365_2 hx365_3 hx365_4 hx365_5 hx365_6 hx365_7 hx366_0 hx366_1 hx366_2 hx366_3 hx366_4 hx366_5 hx366_6 hx366_7 hHeld ⊢
        refine pure_ (i := 0) (N := some 17) (v := ?_) (a' := ?_) #[true, false, false, false, false, false, false, false, false, false] rfl rfl (any_of HT_.out (by kernel_rfl)) (fun _ _ _ h => h) (Or.inl ⟨by rfl, ?_⟩) ?_ ?_
        rotate_left
        ·intro w'
         go_simp
         with_reducible rfl
        rotate_left
        ·simp only [Act.put, List.setIfInBounds_toArray, List.set_cons_zero, List.set_cons_succ, i64_w, i32_w]
         rfl
        refine pure_ (i := 1) (N := some 18) (v := ?_) (a' := ?_) #[true, true, false, false, false, false, false, false, false, false] rfl rfl (any_of HT_.out (by kernel_rfl)) (fun _ _ _ h => h) (Or.inl ⟨by rfl, ?_⟩) ?_ ?_
        rotate_left
        ·intro w'
         go_simp
         with_reducible rfl
        rotate_left
        ·simp only [Act.put, List.setIfInBounds_toArray, List.set_cons_zero, List.set_cons_succ, i64_w, i32_w]
         rfl
        refine pure_ (i := 2) (N := some 19) (v := ?_) (a' := ?_) #[true, true, true, false, false, false, false, false, false, false] rfl rfl (any_of HT_.out (by kernel_rfl)) (fun _ _ _ h => h) (Or.inl ⟨by rfl, ?_⟩) ?_ ?_
        rotate_left
        ·intro w'
         go_simp
         with_reducible rfl
        rotate_left
        ·simp only [Act.put, List.setIfInBounds_toArray, List.set_cons_zero, List.set_cons_succ, i64_w, i32_w]
         rfl
        refine pure_ (i := 4) (N := some 21) (v := ?_) (a' := ?_) #[true, true, true, false, true, false, false, false, false, false] rfl rfl (any_of HT_.out (by kernel_rfl)) (fun _ _ _ h => h) (Or.inl ⟨by rfl, ?_⟩) ?_ ?_
        rotate_left
        ·intro w'
         go_simp
         with_reducible rfl
        rotate_left
        ·simp only [Act.put, List.setIfInBounds_toArray, List.set_cons_zero, List.set_cons_succ, i64_w, i32_w]
         rfl
        refine pure_ (i := 5) (N := some 22) (v := ?_) (a' := ?_) #[true, true, true, false, true, true, false, false, false, false] rfl rfl (any_of HT_.out (by kernel_rfl)) (fun _ _ _ h => h) (Or.inl ⟨by rfl, ?_⟩) ?_ ?_
        rotate_left
        ·intro w'
         go_simp
         with_reducible rfl
        rotate_left
        ·simp only [Act.put, List.setIfInBounds_toArray, List.set_cons_zero, List.set_cons_succ, i64_w, i32_w]
         rfl
        refine pure_ (i := 6) (N := some 23) (v := ?_) (a' := ?_) #[true, true, true, false, true, true, true, false, false, false] rfl rfl (any_of HT_.out (by kernel_rfl)) (fun _ _ _ h => h) (Or.inl ⟨by rfl, ?_⟩) ?_ ?_
        rotate_left
        ·intro w'
         go_simp
         with_reducible rfl
        rotate_left
        ·simp only [Act.put, List.setIfInBounds_toArray, List.set_cons_zero, List.set_cons_succ, i64_w, i32_w]
         rfl
        refine take_ (i := 3) (N := some 20) (v := ?_) (a' := ?_) #[true, true, true, true, true, true, true, false, false, false] rfl rfl (take_ofW HT_.out HW_.out (by kernel_rfl)) (fun _ _ _ h => h) (Or.inl ⟨by rfl, ?_⟩) hHeld ?_ ?_
        rotate_left
        ·rintro w' ⟨s0, s1, s2, s3, s4, s5, s6, s7, s8, s9, s10, s11, s12, s13, s14, s15⟩
         go_simp
         with_reducible rfl
        rotate_left
        ·simp only [Act.put, List.setIfInBounds_toArray, List.set_cons_zero, List.set_cons_succ, i64_w, i32_w]
         rfl
        refine take_ (i := 7) (N := some 24) (v := ?_) (a' := ?_) #[true, true, true, true, true, true, true, true, false, false] rfl rfl (take_ofW HT_.out HW_.out (by kernel_rfl)) (fun _ _ _ h => h) (Or.inl ⟨by rfl, ?_⟩) hHeld ?_ ?_
        rotate_left
        ·rintro w' ⟨s0, s1, s2, s3, s4, s5, s6, s7, s8, s9, s10, s11, s12, s13, s14, s15⟩
         go_simp
         with_reducible rfl
        rotate_left
        ·simp only [Act.put, List.setIfInBounds_toArray, List.set_cons_zero, List.set_cons_succ, i64_w, i32_w]
         rfl
        refine one_ (i := 8) (N := some 25) #[true, true, true, true, true, true, true, true, true, false] rfl rfl (one_of HT_.out (by kernel_rfl)) (by decide) (fun K hK => ?_)
        refine goes_ Try.func83 (by kernel_rfl) rfl #[.agg #[.string ((rd_T39 l0 x5_1).f0), .int .i64 ((rd_T39 l0 x5_1).f1), .string ((rd_T39 l0 x5_1).f2), .string ((rd_T39 l0 x5_1).f3), .int .i64 ((rd_T39 l0 x5_1).f4), .int .i64 ((rd_T39 l0 x5_1).f5), .string ((rd_T39 l0 x5_1).f6), .string ((rd_T39 l0 x5_1).f7)], .agg #[.string ((rd_T39 l1 x5_1).f0), .int .i64 ((rd_T39 l1 x5_1).f1), .string ((rd_T39 l1 x5_1).f2), .string ((rd_T39 l1 x5_1).f3), .int .i64 ((rd_T39 l1 x5_1).f4), .int .i64 ((rd_T39 l1 x5_1).f5), .string ((rd_T39 l1 x5_1).f6), .string ((rd_T39 l1 x5_1).f7)]] (by rfl) rfl rfl mxp ?_
        with_reducible refine (laws_eqRecPhase.calls ((rd_T39 l0 x5_1).f0) ((rd_T39 l0 x5_1).f1) ((rd_T39 l0 x5_1).f2) ((rd_T39 l0 x5_1).f3) ((rd_T39 l0 x5_1).f4) ((rd_T39 l0 x5_1).f5) ((rd_T39 l0 x5_1).f6) ((rd_T39 l0 x5_1).f7) ((rd_T39 l1 x5_1).f0) ((rd_T39 l1 x5_1).f1) ((rd_T39 l1 x5_1).f2) ((rd_T39 l1 x5_1).f3) ((rd_T39 l1 x5_1).f4) ((rd_T39 l1 x5_1).f5) ((rd_T39 l1 x5_1).f6) ((rd_T39 l1 x5_1).f7) true _ A7.out).mono ?_
        rintro e w10 ⟨rfl, hb⟩
        refine ⟨_, rfl, ?_⟩
        have n0_ := bs HB hb
        clear HB
        have HB := n0_
        clear n0_
        (try clear hb)
        (try clear hb2)
        (try clear hk)
        (try clear hi)
        refine hK.out _ _ ⟨((HB.out.cell (World.block_lt_of_cell? w _ hw365_0)).trans hw365_0), ((HB.out.cell (World.block_lt_of_cell? w _ hw365_1)).trans hw365_1), ((HB.out.cell (World.block_lt_of_cell? w _ hw365_2)).trans hw365_2), ((HB.out.cell (World.block_lt_of_cell? w _ hw365_3)).trans hw365_3), ((HB.out.cell (World.block_lt_of_cell? w _ hw365_4)).trans hw365_4), ((HB.out.cell (World.block_lt_of_cell? w _ hw365_5)).trans hw365_5), ((HB.out.cell (World.block_lt_of_cell? w _ hw365_6)).trans hw365_6), ((HB.out.cell (World.block_lt_of_cell? w _ hw365_7)).trans hw365_7), ((HB.out.cell (World.block_lt_of_cell? w _ hw366_0)).trans hw366_0), ((HB.out.cell (World.block_lt_of_cell? w _ hw366_1)).trans hw366_1), ((HB.out.cell (World.block_lt_of_cell? w _ hw366_2)).trans hw366_2), ((HB.out.cell (World.block_lt_of_cell? w _ hw366_3)).trans hw366_3), ((HB.out.cell (World.block_lt_of_cell? w _ hw366_4)).trans hw366_4), ((HB.out.cell (World.block_lt_of_cell? w _ hw366_5)).trans hw366_5), ((HB.out.cell (World.block_lt_of_cell? w _ hw366_6)).trans hw366_6), ((HB.out.cell (World.block_lt_of_cell? w _ hw366_7)).trans hw366_7)⟩ (fun hHeld => ?_)
        clear hK K
        refine norm_ (a' := ?_) ?_ ?_
        rotate_left
        ·show Act.put _ (some 25) _ = _
         simp only [Act.put, List.setIfInBounds_toArray, List.set_cons_zero, List.set_cons_succ, i64_w, i32_w]
         rfl
        refine pure_ (i := 9) (N := some 26) (v := ?_) (a' := ?_) #[true, true, true, true, true, true, true, true, true, true] rfl rfl (any_of HT_.out (by kernel_rfl)) (fun _ _ _ h => h) (Or.inl ⟨by rfl, ?_⟩) ?_ ?_
        rotate_left
        ·intro w'
         go_simp
         with_reducible rfl
        rotate_left
        ·simp only [Act.put, List.setIfInBounds_toArray, List.set_cons_zero, List.set_cons_succ, i64_w, i32_w]
         rfl
        refine done_ (done_of HT_.out (by kernel_rfl)) ?_
        try go_wp2
        go_roundg k1
        case measure => have := HK1.out; omega
        case rel => exact ⟨(wrap64 (x5_1 + 1)), (by first | rfl | (simp; done) | (simp [*]; done)), H', ⟨by have := HK1.out; omega⟩, (hbw HB)⟩
       ·replace c8 := Bool.eq_false_iff.mpr c8
        subst c8
        have H1 : (some false) = some r := by rw [if_neg (show ¬ (false = true) by decide)] at H; exact H
        clear H
        have H := H1
        clear H1
        obtain rfl := Option.some.inj H
        try go_wp2
        have n0_ := Aside0.mk (below_drew1 HB.out)
        clear HB
        have HB := n0_
        clear n0_
        have p365 : 0 ≤ (x5_1 : Int) := oda
        have q365 : x5_1 < (l0.length : Int) := oda
        obtain ⟨ad365, e365, hx365_0, hx365_1, hx365_2, hx365_3, hx365_4, hx365_5, hx365_6, hx365_7⟩ := at_T39 HR0.out x5_1 p365 q365
        have hw365_7 := hx365_7
        have hw365_6 := hx365_6
        have hw365_5 := hx365_5
        have hw365_4 := hx365_4
        have hw365_3 := hx365_3
        have hw365_2 := hx365_2
        have hw365_1 := hx365_1
        have hw365_0 := hx365_0
        cases e365
        replace hx365_0 := bcl HB hx365_0
        replace hx365_1 := bcl HB hx365_1
        replace hx365_2 := bcl HB hx365_2
        replace hx365_3 := bcl HB hx365_3
        replace hx365_4 := bcl HB hx365_4
        replace hx365_5 := bcl HB hx365_5
        replace hx365_6 := bcl HB hx365_6
        replace hx365_7 := bcl HB hx365_7
        replace p365 := eq_true p365
        replace q365 := eq_true q365
        have p366 : 0 ≤ (x5_1 : Int) := oda
        have q366 : x5_1 < (l1.length : Int) := oda
        obtain ⟨ad366, e366, hx366_0, hx366_1, hx366_2, hx366_3, hx366_4, hx366_5, hx366_6, hx366_7⟩ := at_T39 HR1.out x5_1 p366 q366
        have hw366_7 := hx366_7
        have hw366_6 := hx366_6
        have hw366_5 := hx366_5
        have hw366_4 := hx366_4
        have hw366_3 := hx366_3
        have hw366_2 := hx366_2
        have hw366_1 := hx366_1
        have hw366_0 := hx366_0
        cases e366
        replace hx366_0 := bcl HB hx366_0
        replace hx366_1 := bcl HB hx366_1
        replace hx366_2 := bcl HB hx366_2
        replace hx366_3 := bcl HB hx366_3
        replace hx366_4 := bcl HB hx366_4
        replace hx366_5 := bcl HB hx366_5
        replace hx366_6 := bcl HB hx366_6
        replace hx366_7 := bcl HB hx366_7
        replace p366 := eq_true p366
        replace q366 := eq_true q366
        refine start_ (n := 10) (S := fun w' => w'.cell? (ad365.add ((x5_1).toNat * 8)) = some (.string ((rd_T39 l0 x5_1).f0)) ∧ w'.cell? ⟨(ad365.add ((x5_1).toNat * 8)).block, (ad365.add ((x5_1).toNat * 8)).off + 1, none⟩ = some (.int .i64 ((rd_T39 l0 x5_1).f1)) ∧ w'.cell? ⟨(ad365.add ((x5_1).toNat * 8)).block, (ad365.add ((x5_1).toNat * 8)).off + 2, none⟩ = some (.string ((rd_T39 l0 x5_1).f2)) ∧ w'.cell? ⟨(ad365.add ((x5_1).toNat * 8)).block, (ad365.add ((x5_1).toNat * 8)).off + 3, none⟩ = some (.string ((rd_T39 l0 x5_1).f3)) ∧ w'.cell? ⟨(ad365.add ((x5_1).toNat * 8)).block, (ad365.add ((x5_1).toNat * 8)).off + 4, none⟩ = some (.int .i64 ((rd_T39 l0 x5_1).f4)) ∧ w'.cell? ⟨(ad365.add ((x5_1).toNat * 8)).block, (ad365.add ((x5_1).toNat * 8)).off + 5, none⟩ = some (.int .i64 ((rd_T39 l0 x5_1).f5)) ∧ w'.cell? ⟨(ad365.add ((x5_1).toNat * 8)).block, (ad365.add ((x5_1).toNat * 8)).off + 6, none⟩ = some (.string ((rd_T39 l0 x5_1).f6)) ∧ w'.cell? ⟨(ad365.add ((x5_1).toNat * 8)).block, (ad365.add ((x5_1).toNat * 8)).off + 7, none⟩ = some (.string ((rd_T39 l0 x5_1).f7)) ∧ w'.cell? (ad366.add ((x5_1).toNat * 8)) = some (.string ((rd_T39 l1 x5_1).f0)) ∧ w'.cell? ⟨(ad366.add ((x5_1).toNat * 8)).block, (ad366.add ((x5_1).toNat * 8)).off + 1, none⟩ = some (.int .i64 ((rd_T39 l1 x5_1).f1)) ∧ w'.cell? ⟨(ad366.add ((x5_1).toNat * 8)).block, (ad366.add ((x5_1).toNat * 8)).off + 2, none⟩ = some (.string ((rd_T39 l1 x5_1).f2)) ∧ w'.cell? ⟨(ad366.add ((x5_1).toNat * 8)).block, (ad366.add ((x5_1).toNat * 8)).off + 3, none⟩ = some (.string ((rd_T39 l1 x5_1).f3)) ∧ w'.cell? ⟨(ad366.add ((x5_1).toNat * 8)).block, (ad366.add ((x5_1).toNat * 8)).off + 4, none⟩ = some (.int .i64 ((rd_T39 l1 x5_1).f4)) ∧ w'.cell? ⟨(ad366.add ((x5_1).toNat * 8)).block, (ad366.add ((x5_1).toNat * 8)).off + 5, none⟩ = some (.int .i64 ((rd_T39 l1 x5_1).f5)) ∧ w'.cell? ⟨(ad366.add ((x5_1).toNat * 8)).block, (ad366.add ((x5_1).toNat * 8)).off + 6, none⟩ = some (.string ((rd_T39 l1 x5_1).f6)) ∧ w'.cell? ⟨(ad366.add ((x5_1).toNat * 8)).block, (ad366.add ((x5_1).toNat * 8)).off + 7, none⟩ = some (.string ((rd_T39 l1 x5_1).f7))) (ds := []) #[false, false, false, false, false, false, false, false, false, false] (by kernel_rfl) rfl rfl ⟨((HB.out.cell (World.block_lt_of_cell? w _ hw365_0)).trans hw365_0), ((HB.out.cell (World.block_lt_of_cell? w _ hw365_1)).trans hw365_1), ((HB.out.cell (World.block_lt_of_cell? w _ hw365_2)).trans hw365_2), ((HB.out.cell (World.block_lt_of_cell? w _ hw365_3)).trans hw365_3), ((HB.out.cell (World.block_lt_of_cell? w _ hw365_4)).trans hw365_4), ((HB.out.cell (World.block_lt_of_cell? w _ hw365_5)).trans hw365_5), ((HB.out.cell (World.block_lt_of_cell? w _ hw365_6)).trans hw365_6), ((HB.out.cell (World.block_lt_of_cell? w _ hw365_7)).trans hw365_7), ((HB.out.cell (World.block_lt_of_cell? w _ hw366_0)).trans hw366_0), ((HB.out.cell (World.block_lt_of_cell? w _ hw366_1)).trans hw366_1), ((HB.out.cell (World.block_lt_of_cell? w _ hw366_2)).trans hw366_2), ((HB.out.cell (World.block_lt_of_cell? w _ hw366_3)).trans hw366_3), ((HB.out.cell (World.block_lt_of_cell? w _ hw366_4)).trans hw366_4), ((HB.out.cell (World.block_lt_of_cell? w _ hw366_5)).trans hw366_5), ((HB.out.cell (World.block_lt_of_cell? w _ hw366_6)).trans hw366_6), ((HB.out.cell (World.block_lt_of_cell? w _ hw366_7)).trans hw366_7)⟩ (fun hHeld => ?_); refine with_tabW laws_eqRecPhaseS.tab6 laws_eqRecPhaseS.bits6 (fun HT_ HW_ => ?_)
        generalize wr.drew = w11 at HB hx365_0 hx365_1 hx365_2 hx365_3 hx365_4 hx365_5 hx365_6 hx365_7 hx366_0 hx366_1 hx366_2 hx366_3 hx366_4 hx366_5 hx366_6 hx366_7 hHeld ⊢
        refine pure_ (i := 0) (N := some 17) (v := ?_) (a' := ?_) #[true, false, false, false, false, false, false, false, false, false] rfl rfl (any_of HT_.out (by kernel_rfl)) (fun _ _ _ h => h) (Or.inl ⟨by rfl, ?_⟩) ?_ ?_
        rotate_left
        ·intro w'
         go_simp
         with_reducible rfl
        rotate_left
        ·simp only [Act.put, List.setIfInBounds_toArray, List.set_cons_zero, List.set_cons_succ, i64_w, i32_w]
         rfl
        refine pure_ (i := 1) (N := some 18) (v := ?_) (a' := ?_) #[true, true, false, false, false, false, false, false, false, false] rfl rfl (any_of HT_.out (by kernel_rfl)) (fun _ _ _ h => h) (Or.inl ⟨by rfl, ?_⟩) ?_ ?_
        rotate_left
        ·intro w'
         go_simp
         with_reducible rfl
        rotate_left
        ·simp only [Act.put, List.setIfInBounds_toArray, List.set_cons_zero, List.set_cons_succ, i64_w, i32_w]
         rfl
        refine pure_ (i := 2) (N := some 19) (v := ?_) (a' := ?_) #[true, true, true, false, false, false, false, false, false, false] rfl rfl (any_of HT_.out (by kernel_rfl)) (fun _ _ _ h => h) (Or.inl ⟨by rfl, ?_⟩) ?_ ?_
        rotate_left
        ·intro w'
         go_simp
         with_reducible rfl
        rotate_left
        ·simp only [Act.put, List.setIfInBounds_toArray, List.set_cons_zero, List.set_cons_succ, i64_w, i32_w]
         rfl
        refine pure_ (i := 4) (N := some 21) (v := ?_) (a' := ?_) #[true, true, true, false, true, false, false, false, false, false] rfl rfl (any_of HT_.out (by kernel_rfl)) (fun _ _ _ h => h) (Or.inl ⟨by rfl, ?_⟩) ?_ ?_
        rotate_left
        ·intro w'
         go_simp
         with_reducible rfl
        rotate_left
        ·simp only [Act.put, List.setIfInBounds_toArray, List.set_cons_zero, List.set_cons_succ, i64_w, i32_w]
         rfl
        refine pure_ (i := 5) (N := some 22) (v := ?_) (a' := ?_) #[true, true, true, false, true, true, false, false, false, false] rfl rfl (any_of HT_.out (by kernel_rfl)) (fun _ _ _ h => h) (Or.inl ⟨by rfl, ?_⟩) ?_ ?_
        rotate_left
        ·intro w'
         go_simp
         with_reducible rfl
        rotate_left
        ·simp only [Act.put, List.setIfInBounds_toArray, List.set_cons_zero, List.set_cons_succ, i64_w, i32_w]
         rfl
        refine pure_ (i := 6) (N := some 23) (v := ?_) (a' := ?_) #[true, true, true, false, true, true, true, false, false, false] rfl rfl (any_of HT_.out (by kernel_rfl)) (fun _ _ _ h => h) (Or.inl ⟨by rfl, ?_⟩) ?_ ?_
        rotate_left
        ·intro w'
         go_simp
         with_reducible rfl
        rotate_left
        ·simp only [Act.put, List.setIfInBounds_toArray, List.set_cons_zero, List.set_cons_succ, i64_w, i32_w]
         rfl
        refine take_ (i := 3) (N := some 20) (v := ?_) (a' := ?_) #[true, true, true, true, true, true, true, false, false, false] rfl rfl (take_ofW HT_.out HW_.out (by kernel_rfl)) (fun _ _ _ h => h) (Or.inl ⟨by rfl, ?_⟩) hHeld ?_ ?_
        rotate_left
        ·rintro w' ⟨s0, s1, s2, s3, s4, s5, s6, s7, s8, s9, s10, s11, s12, s13, s14, s15⟩
         go_simp
         with_reducible rfl
        rotate_left
        ·simp only [Act.put, List.setIfInBounds_toArray, List.set_cons_zero, List.set_cons_succ, i64_w, i32_w]
         rfl
        refine take_ (i := 7) (N := some 24) (v := ?_) (a' := ?_) #[true, true, true, true, true, true, true, true, false, false] rfl rfl (take_ofW HT_.out HW_.out (by kernel_rfl)) (fun _ _ _ h => h) (Or.inl ⟨by rfl, ?_⟩) hHeld ?_ ?_
        rotate_left
        ·rintro w' ⟨s0, s1, s2, s3, s4, s5, s6, s7, s8, s9, s10, s11, s12, s13, s14, s15⟩
         go_simp
         with_reducible rfl
        rotate_left
        ·simp only [Act.put, List.setIfInBounds_toArray, List.set_cons_zero, List.set_cons_succ, i64_w, i32_w]
         rfl
        refine one_ (i := 8) (N := some 25) #[true, true, true, true, true, true, true, true, true, false] rfl rfl (one_of HT_.out (by kernel_rfl)) (by decide) (fun K hK => ?_)
        refine goes_ Try.func83 (by kernel_rfl) rfl #[.agg #[.string ((rd_T39 l0 x5_1).f0), .int .i64 ((rd_T39 l0 x5_1).f1), .string ((rd_T39 l0 x5_1).f2), .string ((rd_T39 l0 x5_1).f3), .int .i64 ((rd_T39 l0 x5_1).f4), .int .i64 ((rd_T39 l0 x5_1).f5), .string ((rd_T39 l0 x5_1).f6), .string ((rd_T39 l0 x5_1).f7)], .agg #[.string ((rd_T39 l1 x5_1).f0), .int .i64 ((rd_T39 l1 x5_1).f1), .string ((rd_T39 l1 x5_1).f2), .string ((rd_T39 l1 x5_1).f3), .int .i64 ((rd_T39 l1 x5_1).f4), .int .i64 ((rd_T39 l1 x5_1).f5), .string ((rd_T39 l1 x5_1).f6), .string ((rd_T39 l1 x5_1).f7)]] (by rfl) rfl rfl mxp ?_
        with_reducible refine (laws_eqRecPhase.calls ((rd_T39 l0 x5_1).f0) ((rd_T39 l0 x5_1).f1) ((rd_T39 l0 x5_1).f2) ((rd_T39 l0 x5_1).f3) ((rd_T39 l0 x5_1).f4) ((rd_T39 l0 x5_1).f5) ((rd_T39 l0 x5_1).f6) ((rd_T39 l0 x5_1).f7) ((rd_T39 l1 x5_1).f0) ((rd_T39 l1 x5_1).f1) ((rd_T39 l1 x5_1).f2) ((rd_T39 l1 x5_1).f3) ((rd_T39 l1 x5_1).f4) ((rd_T39 l1 x5_1).f5) ((rd_T39 l1 x5_1).f6) ((rd_T39 l1 x5_1).f7) false _ A7.out).mono ?_
        rintro e w12 ⟨rfl, hb⟩
        refine ⟨_, rfl, ?_⟩
        have n0_ := bs HB hb
        clear HB
        have HB := n0_
        clear n0_
        (try clear hb)
        (try clear hb2)
        (try clear hk)
        (try clear hi)
        refine hK.out _ _ ⟨((HB.out.cell (World.block_lt_of_cell? w _ hw365_0)).trans hw365_0), ((HB.out.cell (World.block_lt_of_cell? w _ hw365_1)).trans hw365_1), ((HB.out.cell (World.block_lt_of_cell? w _ hw365_2)).trans hw365_2), ((HB.out.cell (World.block_lt_of_cell? w _ hw365_3)).trans hw365_3), ((HB.out.cell (World.block_lt_of_cell? w _ hw365_4)).trans hw365_4), ((HB.out.cell (World.block_lt_of_cell? w _ hw365_5)).trans hw365_5), ((HB.out.cell (World.block_lt_of_cell? w _ hw365_6)).trans hw365_6), ((HB.out.cell (World.block_lt_of_cell? w _ hw365_7)).trans hw365_7), ((HB.out.cell (World.block_lt_of_cell? w _ hw366_0)).trans hw366_0), ((HB.out.cell (World.block_lt_of_cell? w _ hw366_1)).trans hw366_1), ((HB.out.cell (World.block_lt_of_cell? w _ hw366_2)).trans hw366_2), ((HB.out.cell (World.block_lt_of_cell? w _ hw366_3)).trans hw366_3), ((HB.out.cell (World.block_lt_of_cell? w _ hw366_4)).trans hw366_4), ((HB.out.cell (World.block_lt_of_cell? w _ hw366_5)).trans hw366_5), ((HB.out.cell (World.block_lt_of_cell? w _ hw366_6)).trans hw366_6), ((HB.out.cell (World.block_lt_of_cell? w _ hw366_7)).trans hw366_7)⟩ (fun hHeld => ?_)
        clear hK K
        refine norm_ (a' := ?_) ?_ ?_
        rotate_left
        ·show Act.put _ (some 25) _ = _
         simp only [Act.put, List.setIfInBounds_toArray, List.set_cons_zero, List.set_cons_succ, i64_w, i32_w]
         rfl
        refine pure_ (i := 9) (N := some 26) (v := ?_) (a' := ?_) #[true, true, true, true, true, true, true, true, true, true] rfl rfl (any_of HT_.out (by kernel_rfl)) (fun _ _ _ h => h) (Or.inl ⟨by rfl, ?_⟩) ?_ ?_
        rotate_left
        ·intro w'
         go_simp
         with_reducible rfl
        rotate_left
        ·simp only [Act.put, List.setIfInBounds_toArray, List.set_cons_zero, List.set_cons_succ, i64_w, i32_w]
         rfl
        refine done_ (done_of HT_.out (by kernel_rfl)) ?_
        try go_wp2
        go_ret
        exact ⟨exq, bw HB.out⟩
      ·rw [if_neg c6] at H
       exact absurd H (by simp)
     ·rw [if_neg c5] at H
      exact absurd H (by simp)
    ·rw [if_neg c4] at H
     have c4b0 : decide (x5_1 < (l0.length : Int)) = false := decide_eq_false c4
     clear c4
     obtain rfl := Option.some.inj H
     go_wp2
     go_ret
     exact ⟨exq, bw HB.out⟩
 ·rw [if_neg c3] at H
  have c3b0 : ((l0.length : Int) == (l1.length : Int)) = false := beq_eq_false_iff_ne.mpr c3
  have c3b1 : ((l0.length : Int) != (l1.length : Int)) = true := bne_iff_ne.mpr c3
  have c3b2 : (l0.length == l1.length) = false := by first | simpa using c3 | (simp at c3 ⊢; omega)
  obtain rfl := Option.some.inj H
  go_enter Try.func39, Try.ntmps39
  go_wp2
  go_ret
  exact ⟨exq, bw HB.out⟩

end Go.Proofs.Ytdkologncoofdaa.P
-- Q4
namespace Go.Proofs.Ytdkologncoofdaa.P
open Go.RowKit Go.Proofs.YtdkologncoofdaaW.PrintWords Go.Proofs.YtdkologncoofdaaW.PrintLast
set_option linter.unusedVariables false
set_option linter.unusedSimpArgs false

/-! ### Arguments measured, copied, compared -/
theorem sz_some (x : S48) (n : Int) : ∃ r, laws_szRecPhase.f x.f0 x.f1 x.f2 x.f3 x.f4 x.f5 x.f6 x.f7 n = some r := by
  unfold laws_szRecPhase.f
  repeat' split
  all_goals exact ⟨_, rfl⟩

theorem szS_loop (l : List S48) (hl : l.length ≤ 1048576) (d : Nat) : ∀ (i k : Nat) (n : Int), i ≤ l.length → l.length - i = d → d < k → ∃ r, laws_szRecPhaseS.l0 k l n (i : Int) = some r := by
  induction d with
  | zero =>
    intro i k n hi hd hk
    obtain ⟨k, rfl⟩ : ∃ m, k = m + 1 := ⟨k - 1, by omega⟩
    simp only [laws_szRecPhaseS.l0]
    rw [if_neg (by omega)]
    exact ⟨_, rfl⟩
  | succ d ih =>
    intro i k n hi hd hk
    obtain ⟨k, rfl⟩ : ∃ m, k = m + 1 := ⟨k - 1, by omega⟩
    simp only [laws_szRecPhaseS.l0]
    rw [if_pos (by omega), if_pos (by omega)]
    obtain ⟨r, hr⟩ := sz_some (rd_T48 l i) n
    rw [hr, Option.bind_some, show wrap64 ((i : Int) + 1) = ((i + 1 : Nat) : Int) from by rw [wrap_id (by omega) (by omega)]; omega]
    by_cases h : r < 0
    · rw [if_pos h]; exact ⟨_, rfl⟩
    · rw [if_neg h]; exact ih (i + 1) k r (by omega) (by omega) (by omega)
/-- The arguments' size: an answer; and if it is none of a refusal, the slice is short. -/
theorem szS (l : List S48) (hl : l.length ≤ 9223372036854775807) (k : Nat) (hk : 1048577 < k) : ∃ r, laws_szRecPhaseS.f k l 1048576 = some r ∧ (¬ r < 0 → l.length ≤ 1048576) := by
  unfold laws_szRecPhaseS.f
  rw [wrap_id (by omega) (by omega)]
  by_cases h : 1048576 - (l.length : Int) < 0
  · rw [if_pos h]; exact ⟨-1, rfl, fun h2 => absurd (show (-1 : Int) < 0 by omega) h2⟩
  · rw [if_neg h]
    obtain ⟨r, hr⟩ := szS_loop l (by omega) l.length 0 k (1048576 - (l.length : Int)) (by omega) (by omega) (by omega)
    exact ⟨r, hr, fun _ => by omega⟩
def to39 (x : S48) : S39 := ⟨x.f0, x.f1, x.f2, x.f3, x.f4, x.f5, x.f6, x.f7⟩
theorem toS_loop (l : List S48) (hl : l.length ≤ 1048576) (d : Nat) : ∀ (i k : Nat) (acc : List S39), i ≤ l.length → l.length - i = d → d < k → acc.length = l.length → acc.take i = (l.map to39).take i →
    laws_toRecPhaseS.l0 k l acc (i : Int) = some (l.map to39) := by
  induction d with
  | zero =>
    intro i k acc hi hd hk ha ht
    obtain ⟨k, rfl⟩ : ∃ m, k = m + 1 := ⟨k - 1, by omega⟩
    simp only [laws_toRecPhaseS.l0]
    rw [if_neg (by omega)]
    rw [List.take_of_length_le (by omega), List.take_of_length_le (by rw [List.length_map]; omega)] at ht
    rw [ht]
  | succ d ih =>
    intro i k acc hi hd hk ha ht
    obtain ⟨k, rfl⟩ : ∃ m, k = m + 1 := ⟨k - 1, by omega⟩
    simp only [laws_toRecPhaseS.l0, laws_toRecPhase.f, Option.bind_some]
    rw [if_pos (by omega), if_pos (by omega), if_pos (by omega), show wrap64 ((i : Int) + 1) = ((i + 1 : Nat) : Int) from by rw [wrap_id (by omega) (by omega)]; omega, Int.toNat_natCast]
    refine ih (i + 1) k _ (by omega) (by omega) (by omega) (by rw [List.length_set]; exact ha) ?_
    have hil : i < l.length := by omega
    have e : rd_T48 l (i : Int) = l[i] := by simp [rd_T48, List.getD_eq_getElem?_getD, List.getElem?_eq_getElem hil]
    rw [e, List.take_succ_eq_append_getElem (by rw [List.length_set]; omega), List.take_succ_eq_append_getElem (by rw [List.length_map]; omega), List.take_set_of_le (by omega), ht]
    simp [to39]
theorem toS (l : List S48) (hl : l.length ≤ 1048576) (k : Nat) (hk : 1048577 < k) : laws_toRecPhaseS.f k l = some (l.map to39) := by
  unfold laws_toRecPhaseS.f
  rw [if_pos (by omega), Int.toNat_natCast, if_pos (by omega)]
  exact toS_loop l hl l.length 0 k _ (by omega) (by omega) (by omega) (by simp) (by simp)
theorem eqP_self (x : S39) : laws_eqRecPhase.f x.f0 x.f1 x.f2 x.f3 x.f4 x.f5 x.f6 x.f7 x.f0 x.f1 x.f2 x.f3 x.f4 x.f5 x.f6 x.f7 = some true := by
  unfold laws_eqRecPhase.f
  simp
theorem eqS_loop (l : List S39) (hl : l.length ≤ 1048576) (d : Nat) : ∀ (i k : Nat), i ≤ l.length → l.length - i = d → d < k → laws_eqRecPhaseS.l0 k l l (i : Int) = some true := by
  induction d with
  | zero =>
    intro i k hi hd hk
    obtain ⟨k, rfl⟩ : ∃ m, k = m + 1 := ⟨k - 1, by omega⟩
    simp only [laws_eqRecPhaseS.l0]
    rw [if_neg (by omega)]
  | succ d ih =>
    intro i k hi hd hk
    obtain ⟨k, rfl⟩ : ∃ m, k = m + 1 := ⟨k - 1, by omega⟩
    simp only [laws_eqRecPhaseS.l0]
    rw [if_pos (by omega), if_pos (by omega), if_pos (by omega), eqP_self, Option.bind_some, if_pos rfl, show wrap64 ((i : Int) + 1) = ((i + 1 : Nat) : Int) from by rw [wrap_id (by omega) (by omega)]; omega]
    exact ih (i + 1) k (by omega) (by omega) (by omega)
theorem eqS (l : List S39) (hl : l.length ≤ 1048576) (k : Nat) (hk : 1048577 < k) : laws_eqRecPhaseS.f k l l = some true := by
  unfold laws_eqRecPhaseS.f
  rw [if_pos rfl]
  exact eqS_loop l hl l.length 0 k (by omega) (by omega) (by omega)

/-! ### The bound -/
/-- How many steps there may be from here. -/
def rk (l : List S39) (a : ByteArray) : Nat := (if atOf l a < 0 then 0 else (l.length : Int) - atOf l a).toNat
def bnd (l : List S39) : Nat → ByteArray → Int
  | 0, _ => 0
  | n + 1, a => if atOf l a < 0 then 0 else (rd_T39 l (atOf l a)).f5 + max (bnd l n (rd_T39 l (atOf l a)).f6) (bnd l n (rd_T39 l (atOf l a)).f7)
/-- RecBound of a recipe that is ok. -/
def boundOf (l : List S39) (a : ByteArray) : Int := bnd l 13 a
theorem end_no (l : List S39) (h : recOk l = true) (a : ByteArray) (ha : ¬ endOf a = 0) : atOf l a < 0 := by
  rcases Int.lt_or_le (atOf l a) 0 with h0 | h0
  · exact h0
  · have hr := atOf_range l a
    obtain ⟨i, hi⟩ := Int.eq_ofNat_of_zero_le h0
    have hn := atOf_name l a h0
    have hok := recOk_at l h i (by omega)
    unfold okAt phOk at hok
    simp only [Bool.and_eq_true, beq_iff_eq] at hok
    have e : endOf (rd_T39 l (atOf l a)).f0 = endOf a := by unfold endOf; rw [hn]
    rw [hi] at e
    omega
theorem ok_ref (l : List S39) (h : recOk l = true) (a : ByteArray) (h0 : ¬ atOf l a < 0) :
    rk l (rd_T39 l (atOf l a)).f6 < rk l a ∧ rk l (rd_T39 l (atOf l a)).f7 < rk l a ∧ 1 ≤ (rd_T39 l (atOf l a)).f5 ∧ (rd_T39 l (atOf l a)).f5 ≤ 1000 := by
  have hr := atOf_range l a
  obtain ⟨i, hi⟩ := Int.eq_ofNat_of_zero_le (show 0 ≤ atOf l a by omega)
  have hok := recOk_at l h i (by omega)
  unfold okAt at hok
  simp only [Bool.and_eq_true] at hok
  obtain ⟨⟨⟨h1, _⟩, h6⟩, h7⟩ := hok
  have key : ∀ n, refOk l (i : Int) n = true → rk l n < rk l a := by
    intro n hn
    have hrn := atOf_range l n
    unfold rk
    rw [if_neg h0]
    unfold refOk at hn
    simp only [Bool.or_eq_true, Bool.not_eq_true', beq_eq_false_iff_ne, decide_eq_true_eq] at hn
    rcases hn with hn | hn
    · rw [if_pos (end_no l h n hn)]; omega
    · rw [if_neg (by omega)]; omega
  rw [hi]
  refine ⟨key _ h6, key _ h7, ?_⟩
  unfold phOk at h1
  simp only [Bool.and_eq_true, inB_iff] at h1
  exact h1.1.1.1.2
theorem bnd_bound (l : List S39) (h : recOk l = true) (n : Nat) : ∀ a, 0 ≤ bnd l n a ∧ bnd l n a ≤ 1000 * (n : Int) := by
  induction n with
  | zero => intro a; simp [bnd]
  | succ n ih =>
    intro a
    simp only [bnd]
    by_cases h0 : atOf l a < 0
    · rw [if_pos h0]; omega
    · rw [if_neg h0]
      have hx := ok_ref l h a h0
      have h6 := ih (rd_T39 l (atOf l a)).f6
      have h7 := ih (rd_T39 l (atOf l a)).f7
      omega
theorem bnd_more (l : List S39) (h : recOk l = true) (n : Nat) : ∀ a m, rk l a < n → rk l a < m → bnd l n a = bnd l m a := by
  induction n with
  | zero => intro a m hn; omega
  | succ n ih =>
    intro a m hn hm
    obtain ⟨m, rfl⟩ : ∃ q, m = q + 1 := ⟨m - 1, by omega⟩
    simp only [bnd]
    by_cases h0 : atOf l a < 0
    · rw [if_pos h0, if_pos h0]
    · rw [if_neg h0, if_neg h0]
      have hx := ok_ref l h a h0
      rw [ih _ m (by omega) (by omega), ih (rd_T39 l (atOf l a)).f7 m (by omega) (by omega)]
theorem rk_le (l : List S39) (h : recOk l = true) (a : ByteArray) : rk l a ≤ 12 := by
  have := recOk_len l h
  unfold rk
  split <;> omega
theorem boundOf_step (l : List S39) (h : recOk l = true) (a : ByteArray) : boundOf l a = if atOf l a < 0 then 0 else (rd_T39 l (atOf l a)).f5 + max (boundOf l (rd_T39 l (atOf l a)).f6) (boundOf l (rd_T39 l (atOf l a)).f7) := by
  unfold boundOf
  rw [bnd_more l h 13 a 14 (by have := rk_le l h a; omega) (by have := rk_le l h a; omega)]
  rfl
theorem boundOf_range (l : List S39) (h : recOk l = true) (a : ByteArray) : 0 ≤ boundOf l a ∧ boundOf l a ≤ 13000 := by
  have := bnd_bound l h 13 a
  unfold boundOf
  omega
theorem mx_eq (a b : Int) : mx a b = max a b := by unfold mx; omega
theorem bound_both (l : List S39) (h : recOk l = true) (n : Nat) : ∀ a k, n ≤ 100 → rk l a < n → n + 14 ≤ k → impl_bound.f k l a = some (bnd l n a) ∧ spec_l2Bound.f k l a = some (bnd l n a) := by
  induction n with
  | zero => intro a k _ hn; omega
  | succ n ih =>
    intro a k hn1 hn hk
    obtain ⟨k, rfl⟩ : ∃ m, k = m + 1 := ⟨k - 1, by omega⟩
    have hlen := recOk_len l h
    have hr := atOf_range l a
    simp only [impl_bound.f, spec_l2Bound.f, impl_at.f, spec_at l a (by omega) k (by omega), Option.bind_some, bnd]
    by_cases h0 : atOf l a < 0
    · rw [if_pos h0, if_pos h0, if_pos h0]; exact ⟨rfl, rfl⟩
    · have hx := ok_ref l h a h0
      obtain ⟨a6, b6⟩ := ih (rd_T39 l (atOf l a)).f6 k (by omega) (by omega) (by omega)
      obtain ⟨a7, b7⟩ := ih (rd_T39 l (atOf l a)).f7 k (by omega) (by omega) (by omega)
      have r6 := bnd_bound l h n (rd_T39 l (atOf l a)).f6
      have r7 := bnd_bound l h n (rd_T39 l (atOf l a)).f7
      rw [if_neg h0, if_neg h0, if_neg h0, if_pos (by omega), if_pos (by omega), if_pos (by omega), if_pos (by omega), a6, a7, b6, b7]
      simp only [Option.bind_some]
      rw [mx_eq]
      refine ⟨by rw [wrap_id (by omega) (by omega)], ?_⟩
      by_cases hlt : bnd l n (rd_T39 l (atOf l a)).f6 < bnd l n (rd_T39 l (atOf l a)).f7
      · rw [if_pos hlt, wrap_id (by omega) (by omega), Int.max_eq_right (by omega), Int.add_comm]
      · rw [if_neg hlt, wrap_id (by omega) (by omega), Int.max_eq_left (by omega), Int.add_comm]
theorem impl_bd (l : List S39) (h : recOk l = true) (a : ByteArray) (k : Nat) (hk : 27 ≤ k) : impl_bound.f k l a = some (boundOf l a) := (bound_both l h 13 a k (by omega) (by have := rk_le l h a; omega) (by omega)).1
theorem spec_bd (l : List S39) (h : recOk l = true) (a : ByteArray) (k : Nat) (hk : 27 ≤ k) : spec_l2Bound.f k l a = some (boundOf l a) := (bound_both l h 13 a k (by omega) (by have := rk_le l h a; omega) (by omega)).2

end Go.Proofs.Ytdkologncoofdaa.P
-- Px45
namespace Go.Proofs.Ytdkologncoofdaa.P
open Go.RowKit Go.Proofs.YtdkologncoofdaaW.PrintWords Go.Proofs.YtdkologncoofdaaW.PrintLast Go.Proofs.YtdkologncoofdaaW.PrintMore
attribute [local go_sem] max2_int min2_int max_two min_two max_three min_three max_four min_four   -- for this text's walks alone
set_option linter.unusedVariables false
set_option linter.unusedSimpArgs false

/-! ### impl_RecBegin: function 27 -/
def impl_RecBegin.f (k : Nat) (l0 : List (S39)) : Option (ByteArray × Int × Int) := (impl_RecOk.f k l0).bind fun t434 => (if t434 = true then (if 0 < (l0.length : Int) then ((impl_bound.f k l0 ((rd_T39 l0 0).f0)).bind fun t437 => (some ((rd_T39 l0 0).f0, 0, t437))) else (none)) else (some ((⟨#[]⟩ : ByteArray), 0, 0)))
theorem impl_RecBegin.mono : ∀ a0 k, LeO (impl_RecBegin.f k a0) (impl_RecBegin.f (k + 1) a0) := by
 intro a0 k
 unfold impl_RecBegin.f
 repeat' first
   | (with_reducible exact impl_RecOk.mono _ _)
   | (with_reducible exact impl_bound.mono _ _ _)
   | (with_reducible exact LeO.refl _)
   | (with_reducible exact LeO.none _)
   | (with_reducible refine LeO.ite ?_ ?_)
   | (with_reducible refine LeO.bind ?_ (fun _ => ?_))
   | exact impl_RecOk.mono _ _
   | exact impl_bound.mono _ _ _
   | exact LeO.none _
   | refine LeO.ite ?_ ?_
   | refine LeO.bind ?_ (fun _ => ?_)
def impl_RecBegin.T3 : Bool × List (List Nat × List Nat) := (true, [([], []), ([0], [0]), ([1], [1]), ([2], [2]), ([], []), ([], []), ([5], [5]), ([6], [6]), ([7], [7]), ([4, 8], [4, 8]), ([3, 9], [3, 9]), ([10, 9, 0, 1, 2, 3, 4, 5, 6, 7, 8, 9, 10], [10])])
def impl_RecBegin.B3 : List Nat := [0, 1, 3, 7, 0, 0, 32, 96, 224, 496, 1023, 2047]
theorem impl_RecBegin.tab3 : rtab .any (opsOf Try.f27 3) = impl_RecBegin.T3 := by kernel_rfl
theorem impl_RecBegin.bits3 : waitsOk impl_RecBegin.T3.2 impl_RecBegin.B3 = true := by kernel_rfl
set_option maxHeartbeats 8000000 in
set_option maxRecDepth 100000 in
theorem impl_RecBegin.calls (k : Nat) (A0 : Option Addr) (c0 : Nat) (l0 : List (S39)) (r1 : ByteArray) (r2 : Int) (r3 : Int) (w : World) (hr0 : Kd.C k39 w A0 l0.length l0) (hc0 : l0.length ≤ c0) (h : impl_RecBegin.f k l0 = some (r1, r2, r3)) :
  Calls Try.prog 27 #[.slice A0 l0.length c0] w fun e w' => e = .returned (.agg #[.string r1, .int .i64 r2, .int .i64 r3]) ∧ Below w.heap.size w w' := by
 have hu31 := Try.underlying31
 have HR0 := Aside0.mk hr0
 have HC0 := Aside0.mk hc0
 clear hr0 hc0
 have HB := Aside0.mk (Below.refl w.heap.size w)
 have H : ((impl_RecOk.f k l0).bind fun t434 => (if t434 = true then (if 0 < (l0.length : Int) then ((impl_bound.f k l0 ((rd_T39 l0 0).f0)).bind fun t437 => (some ((rd_T39 l0 0).f0, 0, t437))) else (none)) else (some ((⟨#[]⟩ : ByteArray), 0, 0)))) = some (r1, r2, r3) := h
 clear h
 replace H := Option.bind_eq_some_iff.mp H
 obtain ⟨t434, A20, H⟩ := H
 replace H : (if t434 = true then (if 0 < (l0.length : Int) then ((impl_bound.f k l0 ((rd_T39 l0 0).f0)).bind fun t437 => (some ((rd_T39 l0 0).f0, 0, t437))) else (none)) else (some ((⟨#[]⟩ : ByteArray), 0, 0))) = some (r1, r2, r3) := H
 have A2 := Aside0.mk A20
 clear A20
 by_cases c3 : t434 = true
 ·subst c3
  have H1 : (if 0 < (l0.length : Int) then ((impl_bound.f k l0 ((rd_T39 l0 0).f0)).bind fun t437 => (some ((rd_T39 l0 0).f0, 0, t437))) else (none)) = some (r1, r2, r3) := by rw [if_pos rfl] at H; exact H
  clear H
  have H := H1
  clear H1
  by_cases c4 : 0 < (l0.length : Int)
  ·rw [if_pos c4] at H
   have c4b0 : decide (0 < (l0.length : Int)) = true := decide_eq_true c4
   have c4b1 : decide (0 < l0.length) = true := decide_eq_true (by omega)
   clear c4
   replace H := Option.bind_eq_some_iff.mp H
   obtain ⟨t437, A50, H⟩ := H
   replace H : (some ((rd_T39 l0 0).f0, 0, t437)) = some (r1, r2, r3) := H
   have A5 := Aside0.mk A50
   clear A50
   simp only [Option.some.injEq, Prod.mk.injEq] at H
   obtain ⟨rfl, rfl, rfl⟩ := H
   go_enter Try.func27, Try.ntmps27
   try go_wp2_with (first | ((with_reducible refine gate_dst (N := 2) rfl ?_); refine box_event ?hg (N := 2) ?hd (cs := #[.string (⟨#[]⟩ : ByteArray), .int .i64 0, .int .i64 0]) (t := 31) ?hr ?_; (case hd => rfl); (case hg => rfl); (case hr => first | (go_simp; done) | (go_simp; rfl)); intro gb433 hg w6 hbox hb; have n0_ := bs HB hb; have n1_ := Aside0.mk (hbox); have n2_ := gh hg HB; have n3_ := gh hg HB; clear HB; have HB := n0_; have BK433 := n1_; have GW433 := n2_; have GE433 := n3_; clear n0_ n1_ n2_ n3_; clear hb hbox hg) | ((with_reducible refine gate_callee (f := 36) rfl ?_); refine goesL_ (some 4) rfl rfl Try.func36 (by kernel_rfl) rfl #[.slice A0 l0.length c0] rfl mxp ?_; (with_reducible refine (impl_RecOk.calls k _ _ l0 true _ ?side1 ?side2 A2.out).mono ?_); (case side1 => exact cx (Kd.C_below HR0.out HB.out)); (case side2 => exact HC0.out); rintro e w7 ⟨rfl, hb⟩; refine ⟨_, rfl, ?_⟩; replace BK433 := up BK433 hb; replace HB := bs HB hb; (try clear hb); (try clear hb2); (try clear hk); (try clear hi)))
   have n0_ := Aside0.mk (blk_drew BK433.out)
   have n1_ := Aside0.mk (below_drew1 HB.out)
   clear BK433
   clear HB
   have BK433 := n0_
   have HB := n1_
   clear n0_ n1_
   have p435 : 0 ≤ (0 : Int) := (by omega)
   have q435 : 0 < (l0.length : Int) := oda
   obtain ⟨ad435, e435, hx435_0, hx435_1, hx435_2, hx435_3, hx435_4, hx435_5, hx435_6, hx435_7⟩ := at_T39 HR0.out 0 p435 q435
   have hw435_7 := hx435_7
   (try rw [show ((0 : Int)).toNat = 0 from rfl] at hw435_7)
   (try rw [show 0 * 8 = 0 from rfl] at hw435_7)
   (try rw [Addr.add_zero'] at hw435_7)
   have hw435_6 := hx435_6
   (try rw [show ((0 : Int)).toNat = 0 from rfl] at hw435_6)
   (try rw [show 0 * 8 = 0 from rfl] at hw435_6)
   (try rw [Addr.add_zero'] at hw435_6)
   have hw435_5 := hx435_5
   (try rw [show ((0 : Int)).toNat = 0 from rfl] at hw435_5)
   (try rw [show 0 * 8 = 0 from rfl] at hw435_5)
   (try rw [Addr.add_zero'] at hw435_5)
   have hw435_4 := hx435_4
   (try rw [show ((0 : Int)).toNat = 0 from rfl] at hw435_4)
   (try rw [show 0 * 8 = 0 from rfl] at hw435_4)
   (try rw [Addr.add_zero'] at hw435_4)
   have hw435_3 := hx435_3
   (try rw [show ((0 : Int)).toNat = 0 from rfl] at hw435_3)
   (try rw [show 0 * 8 = 0 from rfl] at hw435_3)
   (try rw [Addr.add_zero'] at hw435_3)
   have hw435_2 := hx435_2
   (try rw [show ((0 : Int)).toNat = 0 from rfl] at hw435_2)
   (try rw [show 0 * 8 = 0 from rfl] at hw435_2)
   (try rw [Addr.add_zero'] at hw435_2)
   have hw435_1 := hx435_1
   (try rw [show ((0 : Int)).toNat = 0 from rfl] at hw435_1)
   (try rw [show 0 * 8 = 0 from rfl] at hw435_1)
   (try rw [Addr.add_zero'] at hw435_1)
   have hw435_0 := hx435_0
   (try rw [show ((0 : Int)).toNat = 0 from rfl] at hw435_0)
   (try rw [show 0 * 8 = 0 from rfl] at hw435_0)
   (try rw [Addr.add_zero'] at hw435_0)
   cases e435
   have qi435 : (0 < l0.length) = True := eq_true (by omega)
   (try rw [show ((0 : Int)).toNat = 0 from rfl] at hx435_0)
   (try rw [show 0 * 8 = 0 from rfl] at hx435_0)
   (try rw [Addr.add_zero'] at hx435_0)
   (try rw [show ((0 : Int)).toNat = 0 from rfl] at hx435_1)
   (try rw [show 0 * 8 = 0 from rfl] at hx435_1)
   (try rw [Addr.add_zero'] at hx435_1)
   (try rw [show ((0 : Int)).toNat = 0 from rfl] at hx435_2)
   (try rw [show 0 * 8 = 0 from rfl] at hx435_2)
   (try rw [Addr.add_zero'] at hx435_2)
   (try rw [show ((0 : Int)).toNat = 0 from rfl] at hx435_3)
   (try rw [show 0 * 8 = 0 from rfl] at hx435_3)
   (try rw [Addr.add_zero'] at hx435_3)
   (try rw [show ((0 : Int)).toNat = 0 from rfl] at hx435_4)
   (try rw [show 0 * 8 = 0 from rfl] at hx435_4)
   (try rw [Addr.add_zero'] at hx435_4)
   (try rw [show ((0 : Int)).toNat = 0 from rfl] at hx435_5)
   (try rw [show 0 * 8 = 0 from rfl] at hx435_5)
   (try rw [Addr.add_zero'] at hx435_5)
   (try rw [show ((0 : Int)).toNat = 0 from rfl] at hx435_6)
   (try rw [show 0 * 8 = 0 from rfl] at hx435_6)
   (try rw [Addr.add_zero'] at hx435_6)
   (try rw [show ((0 : Int)).toNat = 0 from rfl] at hx435_7)
   (try rw [show 0 * 8 = 0 from rfl] at hx435_7)
   (try rw [Addr.add_zero'] at hx435_7)
   replace hx435_0 := bcl HB hx435_0
   replace hx435_1 := bcl HB hx435_1
   replace hx435_2 := bcl HB hx435_2
   replace hx435_3 := bcl HB hx435_3
   replace hx435_4 := bcl HB hx435_4
   replace hx435_5 := bcl HB hx435_5
   replace hx435_6 := bcl HB hx435_6
   replace hx435_7 := bcl HB hx435_7
   replace p435 := eq_true p435
   replace q435 := eq_true q435
   have p436 : 0 ≤ (0 : Int) := (by omega)
   have q436 : 0 < (l0.length : Int) := oda
   obtain ⟨ad436, e436, hx436_0, hx436_1, hx436_2, hx436_3, hx436_4, hx436_5, hx436_6, hx436_7⟩ := at_T39 HR0.out 0 p436 q436
   have hw436_7 := hx436_7
   (try rw [show ((0 : Int)).toNat = 0 from rfl] at hw436_7)
   (try rw [show 0 * 8 = 0 from rfl] at hw436_7)
   (try rw [Addr.add_zero'] at hw436_7)
   have hw436_6 := hx436_6
   (try rw [show ((0 : Int)).toNat = 0 from rfl] at hw436_6)
   (try rw [show 0 * 8 = 0 from rfl] at hw436_6)
   (try rw [Addr.add_zero'] at hw436_6)
   have hw436_5 := hx436_5
   (try rw [show ((0 : Int)).toNat = 0 from rfl] at hw436_5)
   (try rw [show 0 * 8 = 0 from rfl] at hw436_5)
   (try rw [Addr.add_zero'] at hw436_5)
   have hw436_4 := hx436_4
   (try rw [show ((0 : Int)).toNat = 0 from rfl] at hw436_4)
   (try rw [show 0 * 8 = 0 from rfl] at hw436_4)
   (try rw [Addr.add_zero'] at hw436_4)
   have hw436_3 := hx436_3
   (try rw [show ((0 : Int)).toNat = 0 from rfl] at hw436_3)
   (try rw [show 0 * 8 = 0 from rfl] at hw436_3)
   (try rw [Addr.add_zero'] at hw436_3)
   have hw436_2 := hx436_2
   (try rw [show ((0 : Int)).toNat = 0 from rfl] at hw436_2)
   (try rw [show 0 * 8 = 0 from rfl] at hw436_2)
   (try rw [Addr.add_zero'] at hw436_2)
   have hw436_1 := hx436_1
   (try rw [show ((0 : Int)).toNat = 0 from rfl] at hw436_1)
   (try rw [show 0 * 8 = 0 from rfl] at hw436_1)
   (try rw [Addr.add_zero'] at hw436_1)
   have hw436_0 := hx436_0
   (try rw [show ((0 : Int)).toNat = 0 from rfl] at hw436_0)
   (try rw [show 0 * 8 = 0 from rfl] at hw436_0)
   (try rw [Addr.add_zero'] at hw436_0)
   obtain rfl : ad435 = ad436 := (by injection e436)
   have qi436 : (0 < l0.length) = True := eq_true (by omega)
   (try rw [show ((0 : Int)).toNat = 0 from rfl] at hx436_0)
   (try rw [show 0 * 8 = 0 from rfl] at hx436_0)
   (try rw [Addr.add_zero'] at hx436_0)
   (try rw [show ((0 : Int)).toNat = 0 from rfl] at hx436_1)
   (try rw [show 0 * 8 = 0 from rfl] at hx436_1)
   (try rw [Addr.add_zero'] at hx436_1)
   (try rw [show ((0 : Int)).toNat = 0 from rfl] at hx436_2)
   (try rw [show 0 * 8 = 0 from rfl] at hx436_2)
   (try rw [Addr.add_zero'] at hx436_2)
   (try rw [show ((0 : Int)).toNat = 0 from rfl] at hx436_3)
   (try rw [show 0 * 8 = 0 from rfl] at hx436_3)
   (try rw [Addr.add_zero'] at hx436_3)
   (try rw [show ((0 : Int)).toNat = 0 from rfl] at hx436_4)
   (try rw [show 0 * 8 = 0 from rfl] at hx436_4)
   (try rw [Addr.add_zero'] at hx436_4)
   (try rw [show ((0 : Int)).toNat = 0 from rfl] at hx436_5)
   (try rw [show 0 * 8 = 0 from rfl] at hx436_5)
   (try rw [Addr.add_zero'] at hx436_5)
   (try rw [show ((0 : Int)).toNat = 0 from rfl] at hx436_6)
   (try rw [show 0 * 8 = 0 from rfl] at hx436_6)
   (try rw [Addr.add_zero'] at hx436_6)
   (try rw [show ((0 : Int)).toNat = 0 from rfl] at hx436_7)
   (try rw [show 0 * 8 = 0 from rfl] at hx436_7)
   (try rw [Addr.add_zero'] at hx436_7)
   replace hx436_0 := bcl HB hx436_0
   replace hx436_1 := bcl HB hx436_1
   replace hx436_2 := bcl HB hx436_2
   replace hx436_3 := bcl HB hx436_3
   replace hx436_4 := bcl HB hx436_4
   replace hx436_5 := bcl HB hx436_5
   replace hx436_6 := bcl HB hx436_6
   replace hx436_7 := bcl HB hx436_7
   replace p436 := eq_true p436
   replace q436 := eq_true q436
   refine start_ (n := 12) (S := fun w' => w'.cell? ad435 = some (.string ((rd_T39 l0 0).f0)) ∧ w'.cell? ⟨ad435.block, ad435.off + 1, none⟩ = some (.int .i64 ((rd_T39 l0 0).f1)) ∧ w'.cell? ⟨ad435.block, ad435.off + 2, none⟩ = some (.string ((rd_T39 l0 0).f2)) ∧ w'.cell? ⟨ad435.block, ad435.off + 3, none⟩ = some (.string ((rd_T39 l0 0).f3)) ∧ w'.cell? ⟨ad435.block, ad435.off + 4, none⟩ = some (.int .i64 ((rd_T39 l0 0).f4)) ∧ w'.cell? ⟨ad435.block, ad435.off + 5, none⟩ = some (.int .i64 ((rd_T39 l0 0).f5)) ∧ w'.cell? ⟨ad435.block, ad435.off + 6, none⟩ = some (.string ((rd_T39 l0 0).f6)) ∧ w'.cell? ⟨ad435.block, ad435.off + 7, none⟩ = some (.string ((rd_T39 l0 0).f7)) ∧ w'.cell? ad435 = some (.string ((rd_T39 l0 0).f0)) ∧ w'.cell? ⟨ad435.block, ad435.off + 1, none⟩ = some (.int .i64 ((rd_T39 l0 0).f1)) ∧ w'.cell? ⟨ad435.block, ad435.off + 2, none⟩ = some (.string ((rd_T39 l0 0).f2)) ∧ w'.cell? ⟨ad435.block, ad435.off + 3, none⟩ = some (.string ((rd_T39 l0 0).f3)) ∧ w'.cell? ⟨ad435.block, ad435.off + 4, none⟩ = some (.int .i64 ((rd_T39 l0 0).f4)) ∧ w'.cell? ⟨ad435.block, ad435.off + 5, none⟩ = some (.int .i64 ((rd_T39 l0 0).f5)) ∧ w'.cell? ⟨ad435.block, ad435.off + 6, none⟩ = some (.string ((rd_T39 l0 0).f6)) ∧ w'.cell? ⟨ad435.block, ad435.off + 7, none⟩ = some (.string ((rd_T39 l0 0).f7))) (ds := []) #[false, false, false, false, false, false, false, false, false, false, false, false] (by kernel_rfl) rfl rfl ⟨((HB.out.cell (World.block_lt_of_cell? w _ hw435_0)).trans hw435_0), ((HB.out.cell (World.block_lt_of_cell? w _ hw435_1)).trans hw435_1), ((HB.out.cell (World.block_lt_of_cell? w _ hw435_2)).trans hw435_2), ((HB.out.cell (World.block_lt_of_cell? w _ hw435_3)).trans hw435_3), ((HB.out.cell (World.block_lt_of_cell? w _ hw435_4)).trans hw435_4), ((HB.out.cell (World.block_lt_of_cell? w _ hw435_5)).trans hw435_5), ((HB.out.cell (World.block_lt_of_cell? w _ hw435_6)).trans hw435_6), ((HB.out.cell (World.block_lt_of_cell? w _ hw435_7)).trans hw435_7), ((HB.out.cell (World.block_lt_of_cell? w _ hw436_0)).trans hw436_0), ((HB.out.cell (World.block_lt_of_cell? w _ hw436_1)).trans hw436_1), ((HB.out.cell (World.block_lt_of_cell? w _ hw436_2)).trans hw436_2), ((HB.out.cell (World.block_lt_of_cell? w _ hw436_3)).trans hw436_3), ((HB.out.cell (World.block_lt_of_cell? w _ hw436_4)).trans hw436_4), ((HB.out.cell (World.block_lt_of_cell? w _ hw436_5)).trans hw436_5), ((HB.out.cell (World.block_lt_of_cell? w _ hw436_6)).trans hw436_6), ((HB.out.cell (World.block_lt_of_cell? w _ hw436_7)).trans hw436_7)⟩ (fun hHeld => ?_); refine with_tabW impl_RecBegin.tab3 impl_RecBegin.bits3 (fun HT_ HW_ => ?_)
   generalize w7.drew = w8 at BK433 HB hx435_0 hx435_1 hx435_2 hx435_3 hx435_4 hx435_5 hx435_6 hx435_7 hx436_0 hx436_1 hx436_2 hx436_3 hx436_4 hx436_5 hx436_6 hx436_7 hHeld ⊢
   refine pure_ (i := 0) (N := some 7) (v := ?_) (a' := ?_) #[true, false, false, false, false, false, false, false, false, false, false, false] rfl rfl (any_of HT_.out (by kernel_rfl)) (fun _ _ _ h => h) (Or.inl ⟨by rfl, ?_⟩) ?_ ?_
   rotate_left
   ·intro w'
    go_simp
    with_reducible rfl
   rotate_left
   ·simp only [Act.put, List.setIfInBounds_toArray, List.set_cons_zero, List.set_cons_succ, i64_w, i32_w]
    rfl
   refine pure_ (i := 1) (N := some 8) (v := ?_) (a' := ?_) #[true, true, false, false, false, false, false, false, false, false, false, false] rfl rfl (any_of HT_.out (by kernel_rfl)) (fun _ _ _ h => h) (Or.inl ⟨by rfl, ?_⟩) ?_ ?_
   rotate_left
   ·intro w'
    go_simp
    with_reducible rfl
   rotate_left
   ·simp only [Act.put, List.setIfInBounds_toArray, List.set_cons_zero, List.set_cons_succ, i64_w, i32_w]
    rfl
   refine pure_ (i := 2) (N := some 9) (v := ?_) (a' := ?_) #[true, true, true, false, false, false, false, false, false, false, false, false] rfl rfl (any_of HT_.out (by kernel_rfl)) (fun _ _ _ h => h) (Or.inl ⟨by rfl, ?_⟩) ?_ ?_
   rotate_left
   ·intro w'
    go_simp
    with_reducible rfl
   rotate_left
   ·simp only [Act.put, List.setIfInBounds_toArray, List.set_cons_zero, List.set_cons_succ, i64_w, i32_w]
    rfl
   refine pure_ (i := 4) (N := some 11) (v := ?_) (a' := ?_) #[true, true, true, false, true, false, false, false, false, false, false, false] rfl rfl (any_of HT_.out (by kernel_rfl)) (fun _ _ _ h => h) (Or.inl ⟨by rfl, ?_⟩) ?_ ?_
   rotate_left
   ·intro w'
    go_simp
    with_reducible rfl
   rotate_left
   ·simp only [Act.put, List.setIfInBounds_toArray, List.set_cons_zero, List.set_cons_succ, i64_w, i32_w]
    rfl
   refine pure_ (i := 5) (N := some 12) (v := ?_) (a' := ?_) #[true, true, true, false, true, true, false, false, false, false, false, false] rfl rfl (any_of HT_.out (by kernel_rfl)) (fun _ _ _ h => h) (Or.inl ⟨by rfl, ?_⟩) ?_ ?_
   rotate_left
   ·intro w'
    go_simp
    with_reducible rfl
   rotate_left
   ·simp only [Act.put, List.setIfInBounds_toArray, List.set_cons_zero, List.set_cons_succ, i64_w, i32_w]
    rfl
   refine pure_ (i := 6) (N := some 13) (v := ?_) (a' := ?_) #[true, true, true, false, true, true, true, false, false, false, false, false] rfl rfl (any_of HT_.out (by kernel_rfl)) (fun _ _ _ h => h) (Or.inl ⟨by rfl, ?_⟩) ?_ ?_
   rotate_left
   ·intro w'
    go_simp
    with_reducible rfl
   rotate_left
   ·simp only [Act.put, List.setIfInBounds_toArray, List.set_cons_zero, List.set_cons_succ, i64_w, i32_w]
    rfl
   refine pure_ (i := 7) (N := some 14) (v := ?_) (a' := ?_) #[true, true, true, false, true, true, true, true, false, false, false, false] rfl rfl (any_of HT_.out (by kernel_rfl)) (fun _ _ _ h => h) (Or.inl ⟨by rfl, ?_⟩) ?_ ?_
   rotate_left
   ·intro w'
    go_simp
    with_reducible rfl
   rotate_left
   ·simp only [Act.put, List.setIfInBounds_toArray, List.set_cons_zero, List.set_cons_succ, i64_w, i32_w]
    rfl
   refine take_ (i := 3) (N := some 10) (v := ?_) (a' := ?_) #[true, true, true, true, true, true, true, true, false, false, false, false] rfl rfl (take_ofW HT_.out HW_.out (by kernel_rfl)) (fun _ _ _ h => h) (Or.inl ⟨by rfl, ?_⟩) hHeld ?_ ?_
   rotate_left
   ·rintro w' ⟨s0, s1, s2, s3, s4, s5, s6, s7, s8, s9, s10, s11, s12, s13, s14, s15⟩
    go_simp
    with_reducible rfl
   rotate_left
   ·simp only [Act.put, List.setIfInBounds_toArray, List.set_cons_zero, List.set_cons_succ, i64_w, i32_w]
    rfl
   refine take_ (i := 8) (N := some 15) (v := ?_) (a' := ?_) #[true, true, true, true, true, true, true, true, true, false, false, false] rfl rfl (take_ofW HT_.out HW_.out (by kernel_rfl)) (fun _ _ _ h => h) (Or.inl ⟨by rfl, ?_⟩) hHeld ?_ ?_
   rotate_left
   ·rintro w' ⟨s0, s1, s2, s3, s4, s5, s6, s7, s8, s9, s10, s11, s12, s13, s14, s15⟩
    go_simp
    with_reducible rfl
   rotate_left
   ·simp only [Act.put, List.setIfInBounds_toArray, List.set_cons_zero, List.set_cons_succ, i64_w, i32_w]
    rfl
   refine one_ (i := 9) (N := some 16) #[true, true, true, true, true, true, true, true, true, true, false, false] rfl rfl (one_of HT_.out (by kernel_rfl)) (by decide) (fun K hK => ?_)
   refine goes_ Try.func71 (by kernel_rfl) rfl #[.slice (some ad435) l0.length c0, .string ((rd_T39 l0 0).f0)] (by rfl) rfl rfl mxp ?_
   with_reducible refine (impl_bound.calls k _ _ l0 ((rd_T39 l0 0).f0) t437 _ ?side1 ?side2 A5.out).mono ?_
   (case side1 => exact cx (Kd.C_below HR0.out HB.out))
   (case side2 => exact HC0.out)
   rintro e w9 ⟨rfl, hb⟩
   refine ⟨_, rfl, ?_⟩
   have n0_ := up BK433 hb
   have n1_ := bs HB hb
   clear BK433
   clear HB
   have BK433 := n0_
   have HB := n1_
   clear n0_ n1_
   (try clear hb)
   (try clear hb2)
   (try clear hk)
   (try clear hi)
   refine hK.out _ _ ⟨((HB.out.cell (World.block_lt_of_cell? w _ hw435_0)).trans hw435_0), ((HB.out.cell (World.block_lt_of_cell? w _ hw435_1)).trans hw435_1), ((HB.out.cell (World.block_lt_of_cell? w _ hw435_2)).trans hw435_2), ((HB.out.cell (World.block_lt_of_cell? w _ hw435_3)).trans hw435_3), ((HB.out.cell (World.block_lt_of_cell? w _ hw435_4)).trans hw435_4), ((HB.out.cell (World.block_lt_of_cell? w _ hw435_5)).trans hw435_5), ((HB.out.cell (World.block_lt_of_cell? w _ hw435_6)).trans hw435_6), ((HB.out.cell (World.block_lt_of_cell? w _ hw435_7)).trans hw435_7), ((HB.out.cell (World.block_lt_of_cell? w _ hw436_0)).trans hw436_0), ((HB.out.cell (World.block_lt_of_cell? w _ hw436_1)).trans hw436_1), ((HB.out.cell (World.block_lt_of_cell? w _ hw436_2)).trans hw436_2), ((HB.out.cell (World.block_lt_of_cell? w _ hw436_3)).trans hw436_3), ((HB.out.cell (World.block_lt_of_cell? w _ hw436_4)).trans hw436_4), ((HB.out.cell (World.block_lt_of_cell? w _ hw436_5)).trans hw436_5), ((HB.out.cell (World.block_lt_of_cell? w _ hw436_6)).trans hw436_6), ((HB.out.cell (World.block_lt_of_cell? w _ hw436_7)).trans hw436_7)⟩ (fun hHeld => ?_)
   clear hK K
   refine norm_ (a' := ?_) ?_ ?_
   rotate_left
   ·show Act.put _ (some 16) _ = _
    simp only [Act.put, List.setIfInBounds_toArray, List.set_cons_zero, List.set_cons_succ, i64_w, i32_w]
    rfl
   refine pure_ (i := 10) (N := some 17) (v := ?_) (a' := ?_) #[true, true, true, true, true, true, true, true, true, true, true, false] rfl rfl (any_of HT_.out (by kernel_rfl)) (fun _ _ _ h => h) (Or.inl ⟨by rfl, ?_⟩) ?_ ?_
   rotate_left
   ·intro w'
    go_simp
    with_reducible rfl
   rotate_left
   ·simp only [Act.put, List.setIfInBounds_toArray, List.set_cons_zero, List.set_cons_succ, i64_w, i32_w]
    rfl
   refine one_ (i := 11) (N := none) #[true, true, true, true, true, true, true, true, true, true, true, true] rfl rfl (one_of HT_.out (by kernel_rfl)) (by decide) (fun K hK => ?_)
   have hs10 : w9.cell? ⟨gb433, 0, none⟩ = some (.string (⟨#[]⟩ : ByteArray)) := (blk_cell BK433.out 0).trans rfl
   have hfs10 := blk_frozen BK433.out 0
   have hs11 : w9.cell? ⟨gb433, 1, none⟩ = some (.int .i64 0) := (blk_cell BK433.out 1).trans rfl
   have hfs11 := blk_frozen BK433.out 1
   have hs12 : w9.cell? ⟨gb433, 2, none⟩ = some (.int .i64 0) := (blk_cell BK433.out 2).trans rfl
   have hfs12 := blk_frozen BK433.out 2
   refine skip_ (w1 := ?_) (by rfl) rfl ?_ ?_
   rotate_left
   ·go_simp
    rfl
   refine hK.out _ _ ⟨((cell_far (p := ⟨gb433, _, none⟩) (by first | exact Nat.ne_of_lt (Nat.lt_of_lt_of_le (by have := World.block_lt_of_cell? _ _ hw435_0; first | rwa [add_block] at this | exact this) GW433.out) | (rw [add_block]; exact Nat.ne_of_lt (Nat.lt_of_lt_of_le (by have := World.block_lt_of_cell? _ _ hw435_0; first | rwa [add_block] at this | exact this) GW433.out)) | (show (Addr.add _ _).block ≠ _; rw [add_block]; exact Nat.ne_of_lt (Nat.lt_of_lt_of_le (by have := World.block_lt_of_cell? _ _ hw435_0; first | rwa [add_block] at this | exact this) GW433.out)) | (dsimp only; exact Nat.ne_of_lt (Nat.lt_of_lt_of_le (by have := World.block_lt_of_cell? _ _ hw435_0; first | rwa [add_block] at this | exact this) GW433.out))) _).trans (((cell_far (p := ⟨gb433, _, none⟩) (by first | exact Nat.ne_of_lt (Nat.lt_of_lt_of_le (by have := World.block_lt_of_cell? _ _ hw435_0; first | rwa [add_block] at this | exact this) GW433.out) | (rw [add_block]; exact Nat.ne_of_lt (Nat.lt_of_lt_of_le (by have := World.block_lt_of_cell? _ _ hw435_0; first | rwa [add_block] at this | exact this) GW433.out)) | (show (Addr.add _ _).block ≠ _; rw [add_block]; exact Nat.ne_of_lt (Nat.lt_of_lt_of_le (by have := World.block_lt_of_cell? _ _ hw435_0; first | rwa [add_block] at this | exact this) GW433.out)) | (dsimp only; exact Nat.ne_of_lt (Nat.lt_of_lt_of_le (by have := World.block_lt_of_cell? _ _ hw435_0; first | rwa [add_block] at this | exact this) GW433.out))) _).trans (((cell_far (p := ⟨gb433, _, none⟩) (by first | exact Nat.ne_of_lt (Nat.lt_of_lt_of_le (by have := World.block_lt_of_cell? _ _ hw435_0; first | rwa [add_block] at this | exact this) GW433.out) | (rw [add_block]; exact Nat.ne_of_lt (Nat.lt_of_lt_of_le (by have := World.block_lt_of_cell? _ _ hw435_0; first | rwa [add_block] at this | exact this) GW433.out)) | (show (Addr.add _ _).block ≠ _; rw [add_block]; exact Nat.ne_of_lt (Nat.lt_of_lt_of_le (by have := World.block_lt_of_cell? _ _ hw435_0; first | rwa [add_block] at this | exact this) GW433.out)) | (dsimp only; exact Nat.ne_of_lt (Nat.lt_of_lt_of_le (by have := World.block_lt_of_cell? _ _ hw435_0; first | rwa [add_block] at this | exact this) GW433.out))) _).trans (hHeld.1)))))), ((cell_far (p := ⟨gb433, _, none⟩) (by first | exact Nat.ne_of_lt (Nat.lt_of_lt_of_le (by have := World.block_lt_of_cell? _ _ hw435_1; first | rwa [add_block] at this | exact this) GW433.out) | (rw [add_block]; exact Nat.ne_of_lt (Nat.lt_of_lt_of_le (by have := World.block_lt_of_cell? _ _ hw435_1; first | rwa [add_block] at this | exact this) GW433.out)) | (show (Addr.add _ _).block ≠ _; rw [add_block]; exact Nat.ne_of_lt (Nat.lt_of_lt_of_le (by have := World.block_lt_of_cell? _ _ hw435_1; first | rwa [add_block] at this | exact this) GW433.out)) | (dsimp only; exact Nat.ne_of_lt (Nat.lt_of_lt_of_le (by have := World.block_lt_of_cell? _ _ hw435_1; first | rwa [add_block] at this | exact this) GW433.out))) _).trans (((cell_far (p := ⟨gb433, _, none⟩) (by first | exact Nat.ne_of_lt (Nat.lt_of_lt_of_le (by have := World.block_lt_of_cell? _ _ hw435_1; first | rwa [add_block] at this | exact this) GW433.out) | (rw [add_block]; exact Nat.ne_of_lt (Nat.lt_of_lt_of_le (by have := World.block_lt_of_cell? _ _ hw435_1; first | rwa [add_block] at this | exact this) GW433.out)) | (show (Addr.add _ _).block ≠ _; rw [add_block]; exact Nat.ne_of_lt (Nat.lt_of_lt_of_le (by have := World.block_lt_of_cell? _ _ hw435_1; first | rwa [add_block] at this | exact this) GW433.out)) | (dsimp only; exact Nat.ne_of_lt (Nat.lt_of_lt_of_le (by have := World.block_lt_of_cell? _ _ hw435_1; first | rwa [add_block] at this | exact this) GW433.out))) _).trans (((cell_far (p := ⟨gb433, _, none⟩) (by first | exact Nat.ne_of_lt (Nat.lt_of_lt_of_le (by have := World.block_lt_of_cell? _ _ hw435_1; first | rwa [add_block] at this | exact this) GW433.out) | (rw [add_block]; exact Nat.ne_of_lt (Nat.lt_of_lt_of_le (by have := World.block_lt_of_cell? _ _ hw435_1; first | rwa [add_block] at this | exact this) GW433.out)) | (show (Addr.add _ _).block ≠ _; rw [add_block]; exact Nat.ne_of_lt (Nat.lt_of_lt_of_le (by have := World.block_lt_of_cell? _ _ hw435_1; first | rwa [add_block] at this | exact this) GW433.out)) | (dsimp only; exact Nat.ne_of_lt (Nat.lt_of_lt_of_le (by have := World.block_lt_of_cell? _ _ hw435_1; first | rwa [add_block] at this | exact this) GW433.out))) _).trans (hHeld.2.1)))))), ((cell_far (p := ⟨gb433, _, none⟩) (by first | exact Nat.ne_of_lt (Nat.lt_of_lt_of_le (by have := World.block_lt_of_cell? _ _ hw435_2; first | rwa [add_block] at this | exact this) GW433.out) | (rw [add_block]; exact Nat.ne_of_lt (Nat.lt_of_lt_of_le (by have := World.block_lt_of_cell? _ _ hw435_2; first | rwa [add_block] at this | exact this) GW433.out)) | (show (Addr.add _ _).block ≠ _; rw [add_block]; exact Nat.ne_of_lt (Nat.lt_of_lt_of_le (by have := World.block_lt_of_cell? _ _ hw435_2; first | rwa [add_block] at this | exact this) GW433.out)) | (dsimp only; exact Nat.ne_of_lt (Nat.lt_of_lt_of_le (by have := World.block_lt_of_cell? _ _ hw435_2; first | rwa [add_block] at this | exact this) GW433.out))) _).trans (((cell_far (p := ⟨gb433, _, none⟩) (by first | exact Nat.ne_of_lt (Nat.lt_of_lt_of_le (by have := World.block_lt_of_cell? _ _ hw435_2; first | rwa [add_block] at this | exact this) GW433.out) | (rw [add_block]; exact Nat.ne_of_lt (Nat.lt_of_lt_of_le (by have := World.block_lt_of_cell? _ _ hw435_2; first | rwa [add_block] at this | exact this) GW433.out)) | (show (Addr.add _ _).block ≠ _; rw [add_block]; exact Nat.ne_of_lt (Nat.lt_of_lt_of_le (by have := World.block_lt_of_cell? _ _ hw435_2; first | rwa [add_block] at this | exact this) GW433.out)) | (dsimp only; exact Nat.ne_of_lt (Nat.lt_of_lt_of_le (by have := World.block_lt_of_cell? _ _ hw435_2; first | rwa [add_block] at this | exact this) GW433.out))) _).trans (((cell_far (p := ⟨gb433, _, none⟩) (by first | exact Nat.ne_of_lt (Nat.lt_of_lt_of_le (by have := World.block_lt_of_cell? _ _ hw435_2; first | rwa [add_block] at this | exact this) GW433.out) | (rw [add_block]; exact Nat.ne_of_lt (Nat.lt_of_lt_of_le (by have := World.block_lt_of_cell? _ _ hw435_2; first | rwa [add_block] at this | exact this) GW433.out)) | (show (Addr.add _ _).block ≠ _; rw [add_block]; exact Nat.ne_of_lt (Nat.lt_of_lt_of_le (by have := World.block_lt_of_cell? _ _ hw435_2; first | rwa [add_block] at this | exact this) GW433.out)) | (dsimp only; exact Nat.ne_of_lt (Nat.lt_of_lt_of_le (by have := World.block_lt_of_cell? _ _ hw435_2; first | rwa [add_block] at this | exact this) GW433.out))) _).trans (hHeld.2.2.1)))))), ((cell_far (p := ⟨gb433, _, none⟩) (by first | exact Nat.ne_of_lt (Nat.lt_of_lt_of_le (by have := World.block_lt_of_cell? _ _ hw435_3; first | rwa [add_block] at this | exact this) GW433.out) | (rw [add_block]; exact Nat.ne_of_lt (Nat.lt_of_lt_of_le (by have := World.block_lt_of_cell? _ _ hw435_3; first | rwa [add_block] at this | exact this) GW433.out)) | (show (Addr.add _ _).block ≠ _; rw [add_block]; exact Nat.ne_of_lt (Nat.lt_of_lt_of_le (by have := World.block_lt_of_cell? _ _ hw435_3; first | rwa [add_block] at this | exact this) GW433.out)) | (dsimp only; exact Nat.ne_of_lt (Nat.lt_of_lt_of_le (by have := World.block_lt_of_cell? _ _ hw435_3; first | rwa [add_block] at this | exact this) GW433.out))) _).trans (((cell_far (p := ⟨gb433, _, none⟩) (by first | exact Nat.ne_of_lt (Nat.lt_of_lt_of_le (by have := World.block_lt_of_cell? _ _ hw435_3; first | rwa [add_block] at this | exact this) GW433.out) | (rw [add_block]; exact Nat.ne_of_lt (Nat.lt_of_lt_of_le (by have := World.block_lt_of_cell? _ _ hw435_3; first | rwa [add_block] at this | exact this) GW433.out)) | (show (Addr.add _ _).block ≠ _; rw [add_block]; exact Nat.ne_of_lt (Nat.lt_of_lt_of_le (by have := World.block_lt_of_cell? _ _ hw435_3; first | rwa [add_block] at this | exact this) GW433.out)) | (dsimp only; exact Nat.ne_of_lt (Nat.lt_of_lt_of_le (by have := World.block_lt_of_cell? _ _ hw435_3; first | rwa [add_block] at this | exact this) GW433.out))) _).trans (((cell_far (p := ⟨gb433, _, none⟩) (by first | exact Nat.ne_of_lt (Nat.lt_of_lt_of_le (by have := World.block_lt_of_cell? _ _ hw435_3; first | rwa [add_block] at this | exact this) GW433.out) | (rw [add_block]; exact Nat.ne_of_lt (Nat.lt_of_lt_of_le (by have := World.block_lt_of_cell? _ _ hw435_3; first | rwa [add_block] at this | exact this) GW433.out)) | (show (Addr.add _ _).block ≠ _; rw [add_block]; exact Nat.ne_of_lt (Nat.lt_of_lt_of_le (by have := World.block_lt_of_cell? _ _ hw435_3; first | rwa [add_block] at this | exact this) GW433.out)) | (dsimp only; exact Nat.ne_of_lt (Nat.lt_of_lt_of_le (by have := World.block_lt_of_cell? _ _ hw435_3; first | rwa [add_block] at this | exact this) GW433.out))) _).trans (hHeld.2.2.2.1)))))), ((cell_far (p := ⟨gb433, _, none⟩) (by first | exact Nat.ne_of_lt (Nat.lt_of_lt_of_le (by have := World.block_lt_of_cell? _ _ hw435_4; first | rwa [add_block] at this | exact this) GW433.out) | (rw [add_block]; exact Nat.ne_of_lt (Nat.lt_of_lt_of_le (by have := World.block_lt_of_cell? _ _ hw435_4; first | rwa [add_block] at this | exact this) GW433.out)) | (show (Addr.add _ _).block ≠ _; rw [add_block]; exact Nat.ne_of_lt (Nat.lt_of_lt_of_le (by have := World.block_lt_of_cell? _ _ hw435_4; first | rwa [add_block] at this | exact this) GW433.out)) | (dsimp only; exact Nat.ne_of_lt (Nat.lt_of_lt_of_le (by have := World.block_lt_of_cell? _ _ hw435_4; first | rwa [add_block] at this | exact this) GW433.out))) _).trans (((cell_far (p := ⟨gb433, _, none⟩) (by first | exact Nat.ne_of_lt (Nat.lt_of_lt_of_le (by have := World.block_lt_of_cell? _ _ hw435_4; first | rwa [add_block] at this | exact this) GW433.out) | (rw [add_block]; exact Nat.ne_of_lt (Nat.lt_of_lt_of_le (by have := World.block_lt_of_cell? _ _ hw435_4; first | rwa [add_block] at this | exact this) GW433.out)) | (show (Addr.add _ _).block ≠ _; rw [add_block]; exact Nat.ne_of_lt (Nat.lt_of_lt_of_le (by have := World.block_lt_of_cell? _ _ hw435_4; first | rwa [add_block] at this | exact this) GW433.out)) | (dsimp only; exact Nat.ne_of_lt (Nat.lt_of_lt_of_le (by have := World.block_lt_of_cell? _ _ hw435_4; first | rwa [add_block] at this | exact this) GW433.out))) _).trans (((cell_far (p := ⟨gb433, _, none⟩) (by first | exact Nat.ne_of_lt (Nat.lt_of_lt_of_le (by have := World.block_lt_of_cell? _ _ hw435_4; first | rwa [add_block] at this | exact this) GW433.out) | (rw [add_block]; exact Nat.ne_of_lt (Nat.lt_of_lt_of_le (by have := World.block_lt_of_cell? _ _ hw435_4; first | rwa [add_block] at this | exact this) GW433.out)) | (show (Addr.add _ _).block ≠ _; rw [add_block]; exact Nat.ne_of_lt (Nat.lt_of_lt_of_le (by have := World.block_lt_of_cell? _ _ hw435_4; first | rwa [add_block] at this | exact this) GW433.out)) | (dsimp only; exact Nat.ne_of_lt (Nat.lt_of_lt_of_le (by have := World.block_lt_of_cell? _ _ hw435_4; first | rwa [add_block] at this | exact this) GW433.out))) _).trans (hHeld.2.2.2.2.1)))))), ((cell_far (p := ⟨gb433, _, none⟩) (by first | exact Nat.ne_of_lt (Nat.lt_of_lt_of_le (by have := World.block_lt_of_cell? _ _ hw435_5; first | rwa [add_block] at this | exact this) GW433.out) | (rw [add_block]; exact Nat.ne_of_lt (Nat.lt_of_lt_of_le (by have := World.block_lt_of_cell? _ _ hw435_5; first | rwa [add_block] at this | exact this) GW433.out)) | (show (Addr.add _ _).block ≠ _; rw [add_block]; exact Nat.ne_of_lt (Nat.lt_of_lt_of_le (by have := World.block_lt_of_cell? _ _ hw435_5; first | rwa [add_block] at this | exact this) GW433.out)) | (dsimp only; exact Nat.ne_of_lt (Nat.lt_of_lt_of_le (by have := World.block_lt_of_cell? _ _ hw435_5; first | rwa [add_block] at this | exact this) GW433.out))) _).trans (((cell_far (p := ⟨gb433, _, none⟩) (by first | exact Nat.ne_of_lt (Nat.lt_of_lt_of_le (by have := World.block_lt_of_cell? _ _ hw435_5; first | rwa [add_block] at this | exact this) GW433.out) | (rw [add_block]; exact Nat.ne_of_lt (Nat.lt_of_lt_of_le (by have := World.block_lt_of_cell? _ _ hw435_5; first | rwa [add_block] at this | exact this) GW433.out)) | (show (Addr.add _ _).block ≠ _; rw [add_block]; exact Nat.ne_of_lt (Nat.lt_of_lt_of_le (by have := World.block_lt_of_cell? _ _ hw435_5; first | rwa [add_block] at this | exact this) GW433.out)) | (dsimp only; exact Nat.ne_of_lt (Nat.lt_of_lt_of_le (by have := World.block_lt_of_cell? _ _ hw435_5; first | rwa [add_block] at this | exact this) GW433.out))) _).trans (((cell_far (p := ⟨gb433, _, none⟩) (by first | exact Nat.ne_of_lt (Nat.lt_of_lt_of_le (by have := World.block_lt_of_cell? _ _ hw435_5; first | rwa [add_block] at this | exact this) GW433.out) | (rw [add_block]; exact Nat.ne_of_lt (Nat.lt_of_lt_of_le (by have := World.block_lt_of_cell? _ _ hw435_5; first | rwa [add_block] at this | exact this) GW433.out)) | (show (Addr.add _ _).block ≠ _; rw [add_block]; exact Nat.ne_of_lt (Nat.lt_of_lt_of_le (by have := World.block_lt_of_cell? _ _ hw435_5; first | rwa [add_block] at this | exact this) GW433.out)) | (dsimp only; exact Nat.ne_of_lt (Nat.lt_of_lt_of_le (by have := World.block_lt_of_cell? _ _ hw435_5; first | rwa [add_block] at this | exact this) GW433.out))) _).trans (hHeld.2.2.2.2.2.1)))))), ((cell_far (p := ⟨gb433, _, none⟩) (by first | exact Nat.ne_of_lt (Nat.lt_of_lt_of_le (by have := World.block_lt_of_cell? _ _ hw435_6; first | rwa [add_block] at this | exact this) GW433.out) | (rw [add_block]; exact Nat.ne_of_lt (Nat.lt_of_lt_of_le (by have := World.block_lt_of_cell? _ _ hw435_6; first | rwa [add_block] at this | exact this) GW433.out)) | (show (Addr.add _ _).block ≠ _; rw [add_block]; exact Nat.ne_of_lt (Nat.lt_of_lt_of_le (by have := World.block_lt_of_cell? _ _ hw435_6; first | rwa [add_block] at this | exact this) GW433.out)) | (dsimp only; exact Nat.ne_of_lt (Nat.lt_of_lt_of_le (by have := World.block_lt_of_cell? _ _ hw435_6; first | rwa [add_block] at this | exact this) GW433.out))) _).trans (((cell_far (p := ⟨gb433, _, none⟩) (by first | exact Nat.ne_of_lt (Nat.lt_of_lt_of_le (by have := World.block_lt_of_cell? _ _ hw435_6; first | rwa [add_block] at this | exact this) GW433.out) | (rw [add_block]; exact Nat.ne_of_lt (Nat.lt_of_lt_of_le (by have := World.block_lt_of_cell? _ _ hw435_6; first | rwa [add_block] at this | exact this) GW433.out)) | (show (Addr.add _ _).block ≠ _; rw [add_block]; exact Nat.ne_of_lt (Nat.lt_of_lt_of_le (by have := World.block_lt_of_cell? _ _ hw435_6; first | rwa [add_block] at this | exact this) GW433.out)) | (dsimp only; exact Nat.ne_of_lt (Nat.lt_of_lt_of_le (by have := World.block_lt_of_cell? _ _ hw435_6; first | rwa [add_block] at this | exact this) GW433.out))) _).trans (((cell_far (p := ⟨gb433, _, none⟩) (by first | exact Nat.ne_of_lt (Nat.lt_of_lt_of_le (by have := World.block_lt_of_cell? _ _ hw435_6; first | rwa [add_block] at this | exact this) GW433.out) | (rw [add_block]; exact Nat.ne_of_lt (Nat.lt_of_lt_of_le (by have := World.block_lt_of_cell? _ _ hw435_6; first | rwa [add_block] at this | exact this) GW433.out)) | (show (Addr.add _ _).block ≠ _; rw [add_block]; exact Nat.ne_of_lt (Nat.lt_of_lt_of_le (by have := World.block_lt_of_cell? _ _ hw435_6; first | rwa [add_block] at this | exact this) GW433.out)) | (dsimp only; exact Nat.ne_of_lt (Nat.lt_of_lt_of_le (by have := World.block_lt_of_cell? _ _ hw435_6; first | rwa [add_block] at this | exact this) GW433.out))) _).trans (hHeld.2.2.2.2.2.2.1)))))), ((cell_far (p := ⟨gb433, _, none⟩) (by first | exact Nat.ne_of_lt (Nat.lt_of_lt_of_le (by have := World.block_lt_of_cell? _ _ hw435_7; first | rwa [add_block] at this | exact this) GW433.out) | (rw [add_block]; exact Nat.ne_of_lt (Nat.lt_of_lt_of_le (by have := World.block_lt_of_cell? _ _ hw435_7; first | rwa [add_block] at this | exact this) GW433.out)) | (show (Addr.add _ _).block ≠ _; rw [add_block]; exact Nat.ne_of_lt (Nat.lt_of_lt_of_le (by have := World.block_lt_of_cell? _ _ hw435_7; first | rwa [add_block] at this | exact this) GW433.out)) | (dsimp only; exact Nat.ne_of_lt (Nat.lt_of_lt_of_le (by have := World.block_lt_of_cell? _ _ hw435_7; first | rwa [add_block] at this | exact this) GW433.out))) _).trans (((cell_far (p := ⟨gb433, _, none⟩) (by first | exact Nat.ne_of_lt (Nat.lt_of_lt_of_le (by have := World.block_lt_of_cell? _ _ hw435_7; first | rwa [add_block] at this | exact this) GW433.out) | (rw [add_block]; exact Nat.ne_of_lt (Nat.lt_of_lt_of_le (by have := World.block_lt_of_cell? _ _ hw435_7; first | rwa [add_block] at this | exact this) GW433.out)) | (show (Addr.add _ _).block ≠ _; rw [add_block]; exact Nat.ne_of_lt (Nat.lt_of_lt_of_le (by have := World.block_lt_of_cell? _ _ hw435_7; first | rwa [add_block] at this | exact this) GW433.out)) | (dsimp only; exact Nat.ne_of_lt (Nat.lt_of_lt_of_le (by have := World.block_lt_of_cell? _ _ hw435_7; first | rwa [add_block] at this | exact this) GW433.out))) _).trans (((cell_far (p := ⟨gb433, _, none⟩) (by first | exact Nat.ne_of_lt (Nat.lt_of_lt_of_le (by have := World.block_lt_of_cell? _ _ hw435_7; first | rwa [add_block] at this | exact this) GW433.out) | (rw [add_block]; exact Nat.ne_of_lt (Nat.lt_of_lt_of_le (by have := World.block_lt_of_cell? _ _ hw435_7; first | rwa [add_block] at this | exact this) GW433.out)) | (show (Addr.add _ _).block ≠ _; rw [add_block]; exact Nat.ne_of_lt (Nat.lt_of_lt_of_le (by have := World.block_lt_of_cell? _ _ hw435_7; first | rwa [add_block] at this | exact this) GW433.out)) | (dsimp only; exact Nat.ne_of_lt (Nat.lt_of_lt_of_le (by have := World.block_lt_of_cell? _ _ hw435_7; first | rwa [add_block] at this | exact this) GW433.out))) _).trans (hHeld.2.2.2.2.2.2.2.1)))))), ((cell_far (p := ⟨gb433, _, none⟩) (by first | exact Nat.ne_of_lt (Nat.lt_of_lt_of_le (by have := World.block_lt_of_cell? _ _ hw436_0; first | rwa [add_block] at this | exact this) GW433.out) | (rw [add_block]; exact Nat.ne_of_lt (Nat.lt_of_lt_of_le (by have := World.block_lt_of_cell? _ _ hw436_0; first | rwa [add_block] at this | exact this) GW433.out)) | (show (Addr.add _ _).block ≠ _; rw [add_block]; exact Nat.ne_of_lt (Nat.lt_of_lt_of_le (by have := World.block_lt_of_cell? _ _ hw436_0; first | rwa [add_block] at this | exact this) GW433.out)) | (dsimp only; exact Nat.ne_of_lt (Nat.lt_of_lt_of_le (by have := World.block_lt_of_cell? _ _ hw436_0; first | rwa [add_block] at this | exact this) GW433.out))) _).trans (((cell_far (p := ⟨gb433, _, none⟩) (by first | exact Nat.ne_of_lt (Nat.lt_of_lt_of_le (by have := World.block_lt_of_cell? _ _ hw436_0; first | rwa [add_block] at this | exact this) GW433.out) | (rw [add_block]; exact Nat.ne_of_lt (Nat.lt_of_lt_of_le (by have := World.block_lt_of_cell? _ _ hw436_0; first | rwa [add_block] at this | exact this) GW433.out)) | (show (Addr.add _ _).block ≠ _; rw [add_block]; exact Nat.ne_of_lt (Nat.lt_of_lt_of_le (by have := World.block_lt_of_cell? _ _ hw436_0; first | rwa [add_block] at this | exact this) GW433.out)) | (dsimp only; exact Nat.ne_of_lt (Nat.lt_of_lt_of_le (by have := World.block_lt_of_cell? _ _ hw436_0; first | rwa [add_block] at this | exact this) GW433.out))) _).trans (((cell_far (p := ⟨gb433, _, none⟩) (by first | exact Nat.ne_of_lt (Nat.lt_of_lt_of_le (by have := World.block_lt_of_cell? _ _ hw436_0; first | rwa [add_block] at this | exact this) GW433.out) | (rw [add_block]; exact Nat.ne_of_lt (Nat.lt_of_lt_of_le (by have := World.block_lt_of_cell? _ _ hw436_0; first | rwa [add_block] at this | exact this) GW433.out)) | (show (Addr.add _ _).block ≠ _; rw [add_block]; exact Nat.ne_of_lt (Nat.lt_of_lt_of_le (by have := World.block_lt_of_cell? _ _ hw436_0; first | rwa [add_block] at this | exact this) GW433.out)) | (dsimp only; exact Nat.ne_of_lt (Nat.lt_of_lt_of_le (by have := World.block_lt_of_cell? _ _ hw436_0; first | rwa [add_block] at this | exact this) GW433.out))) _).trans (hHeld.2.2.2.2.2.2.2.2.1)))))), ((cell_far (p := ⟨gb433, _, none⟩) (by first | exact Nat.ne_of_lt (Nat.lt_of_lt_of_le (by have := World.block_lt_of_cell? _ _ hw436_1; first | rwa [add_block] at this | exact this) GW433.out) | (rw [add_block]; exact Nat.ne_of_lt (Nat.lt_of_lt_of_le (by have := World.block_lt_of_cell? _ _ hw436_1; first | rwa [add_block] at this | exact this) GW433.out)) | (show (Addr.add _ _).block ≠ _; rw [add_block]; exact Nat.ne_of_lt (Nat.lt_of_lt_of_le (by have := World.block_lt_of_cell? _ _ hw436_1; first | rwa [add_block] at this | exact this) GW433.out)) | (dsimp only; exact Nat.ne_of_lt (Nat.lt_of_lt_of_le (by have := World.block_lt_of_cell? _ _ hw436_1; first | rwa [add_block] at this | exact this) GW433.out))) _).trans (((cell_far (p := ⟨gb433, _, none⟩) (by first | exact Nat.ne_of_lt (Nat.lt_of_lt_of_le (by have := World.block_lt_of_cell? _ _ hw436_1; first | rwa [add_block] at this | exact this) GW433.out) | (rw [add_block]; exact Nat.ne_of_lt (Nat.lt_of_lt_of_le (by have := World.block_lt_of_cell? _ _ hw436_1; first | rwa [add_block] at this | exact this) GW433.out)) | (show (Addr.add _ _).block ≠ _; rw [add_block]; exact Nat.ne_of_lt (Nat.lt_of_lt_of_le (by have := World.block_lt_of_cell? _ _ hw436_1; first | rwa [add_block] at this | exact this) GW433.out)) | (dsimp only; exact Nat.ne_of_lt (Nat.lt_of_lt_of_le (by have := World.block_lt_of_cell? _ _ hw436_1; first | rwa [add_block] at this | exact this) GW433.out))) _).trans (((cell_far (p := ⟨gb433, _, none⟩) (by first | exact Nat.ne_of_lt (Nat.lt_of_lt_of_le (by have := World.block_lt_of_cell? _ _ hw436_1; first | rwa [add_block] at this | exact this) GW433.out) | (rw [add_block]; exact Nat.ne_of_lt (Nat.lt_of_lt_of_le (by have := World.block_lt_of_cell? _ _ hw436_1; first | rwa [add_block] at this | exact this) GW433.out)) | (show (Addr.add _ _).block ≠ _; rw [add_block]; exact Nat.ne_of_lt (Nat.lt_of_lt_of_le (by have := World.block_lt_of_cell? _ _ hw436_1; first | rwa [add_block] at this | exact this) GW433.out)) | (dsimp only; exact Nat.ne_of_lt (Nat.lt_of_lt_of_le (by have := World.block_lt_of_cell? _ _ hw436_1; first | rwa [add_block] at this | exact this) GW433.out))) _).trans (hHeld.2.2.2.2.2.2.2.2.2.1)))))), ((cell_far (p := ⟨gb433, _, none⟩) (by first | exact Nat.ne_of_lt (Nat.lt_of_lt_of_le (by have := World.block_lt_of_cell? _ _ hw436_2; first | rwa [add_block] at this | exact this) GW433.out) | (rw [add_block]; exact Nat.ne_of_lt (Nat.lt_of_lt_of_le (by have := World.block_lt_of_cell? _ _ hw436_2; first | rwa [add_block] at this | exact this) GW433.out)) | (show (Addr.add _ _).block ≠ _; rw [add_block]; exact Nat.ne_of_lt (Nat.lt_of_lt_of_le (by have := World.block_lt_of_cell? _ _ hw436_2; first | rwa [add_block] at this | exact this) GW433.out)) | (dsimp only; exact Nat.ne_of_lt (Nat.lt_of_lt_of_le (by have := World.block_lt_of_cell? _ _ hw436_2; first | rwa [add_block] at this | exact this) GW433.out))) _).trans (((cell_far (p := ⟨gb433, _, none⟩) (by first | exact Nat.ne_of_lt (Nat.lt_of_lt_of_le (by have := World.block_lt_of_cell? _ _ hw436_2; first | rwa [add_block] at this | exact this) GW433.out) | (rw [add_block]; exact Nat.ne_of_lt (Nat.lt_of_lt_of_le (by have := World.block_lt_of_cell? _ _ hw436_2; first | rwa [add_block] at this | exact this) GW433.out)) | (show (Addr.add _ _).block ≠ _; rw [add_block]; exact Nat.ne_of_lt (Nat.lt_of_lt_of_le (by have := World.block_lt_of_cell? _ _ hw436_2; first | rwa [add_block] at this | exact this) GW433.out)) | (dsimp only; exact Nat.ne_of_lt (Nat.lt_of_lt_of_le (by have := World.block_lt_of_cell? _ _ hw436_2; first | rwa [add_block] at this | exact this) GW433.out))) _).trans (((cell_far (p := ⟨gb433, _, none⟩) (by first | exact Nat.ne_of_lt (Nat.lt_of_lt_of_le (by have := World.block_lt_of_cell? _ _ hw436_2; first | rwa [add_block] at this | exact this) GW433.out) | (rw [add_block]; exact Nat.ne_of_lt (Nat.lt_of_lt_of_le (by have := World.block_lt_of_cell? _ _ hw436_2; first | rwa [add_block] at this | exact this) GW433.out)) | (show (Addr.add _ _).block ≠ _; rw [add_block]; exact Nat.ne_of_lt (Nat.lt_of_lt_of_le (by have := World.block_lt_of_cell? _ _ hw436_2; first | rwa [add_block] at this | exact this) GW433.out)) | (dsimp only; exact Nat.ne_of_lt (Nat.lt_of_lt_of_le (by have := World.block_lt_of_cell? _ _ hw436_2; first | rwa [add_block] at this | exact this) GW433.out))) _).trans (hHeld.2.2.2.2.2.2.2.2.2.2.1)))))), ((cell_far (p := ⟨gb433, _, none⟩) (by first | exact Nat.ne_of_lt (Nat.lt_of_lt_of_le (by have := World.block_lt_of_cell? _ _ hw436_3; first | rwa [add_block] at this | exact this) GW433.out) | (rw [add_block]; exact Nat.ne_of_lt (Nat.lt_of_lt_of_le (by have := World.block_lt_of_cell? _ _ hw436_3; first | rwa [add_block] at this | exact this) GW433.out)) | (show (Addr.add _ _).block ≠ _; rw [add_block]; exact Nat.ne_of_lt (Nat.lt_of_lt_of_le (by have := World.block_lt_of_cell? _ _ hw436_3; first | rwa [add_block] at this | exact this) GW433.out)) | (dsimp only; exact Nat.ne_of_lt (Nat.lt_of_lt_of_le (by have := World.block_lt_of_cell? _ _ hw436_3; first | rwa [add_block] at this | exact this) GW433.out))) _).trans (((cell_far (p := ⟨gb433, _, none⟩) (by first | exact Nat.ne_of_lt (Nat.lt_of_lt_of_le (by have := World.block_lt_of_cell? _ _ hw436_3; first | rwa [add_block] at this | exact this) GW433.out) | (rw [add_block]; exact Nat.ne_of_lt (Nat.lt_of_lt_of_le (by have := World.block_lt_of_cell? _ _ hw436_3; first | rwa [add_block] at this | exact this) GW433.out)) | (show (Addr.add _ _).block ≠ _; rw [add_block]; exact Nat.ne_of_lt (Nat.lt_of_lt_of_le (by have := World.block_lt_of_cell? _ _ hw436_3; first | rwa [add_block] at this | exact this) GW433.out)) | (dsimp only; exact Nat.ne_of_lt (Nat.lt_of_lt_of_le (by have := World.block_lt_of_cell? _ _ hw436_3; first | rwa [add_block] at this | exact this) GW433.out))) _).trans (((cell_far (p := ⟨gb433, _, none⟩) (by first | exact Nat.ne_of_lt (Nat.lt_of_lt_of_le (by have := World.block_lt_of_cell? _ _ hw436_3; first | rwa [add_block] at this | exact this) GW433.out) | (rw [add_block]; exact Nat.ne_of_lt (Nat.lt_of_lt_of_le (by have := World.block_lt_of_cell? _ _ hw436_3; first | rwa [add_block] at this | exact this) GW433.out)) | (show (Addr.add _ _).block ≠ _; rw [add_block]; exact Nat.ne_of_lt (Nat.lt_of_lt_of_le (by have := World.block_lt_of_cell? _ _ hw436_3; first | rwa [add_block] at this | exact this) GW433.out)) | (dsimp only; exact Nat.ne_of_lt (Nat.lt_of_lt_of_le (by have := World.block_lt_of_cell? _ _ hw436_3; first | rwa [add_block] at this | exact this) GW433.out))) _).trans (hHeld.2.2.2.2.2.2.2.2.2.2.2.1)))))), ((cell_far (p := ⟨gb433, _, none⟩) (by first | exact Nat.ne_of_lt (Nat.lt_of_lt_of_le (by have := World.block_lt_of_cell? _ _ hw436_4; first | rwa [add_block] at this | exact this) GW433.out) | (rw [add_block]; exact Nat.ne_of_lt (Nat.lt_of_lt_of_le (by have := World.block_lt_of_cell? _ _ hw436_4; first | rwa [add_block] at this | exact this) GW433.out)) | (show (Addr.add _ _).block ≠ _; rw [add_block]; exact Nat.ne_of_lt (Nat.lt_of_lt_of_le (by have := World.block_lt_of_cell? _ _ hw436_4; first | rwa [add_block] at this | exact this) GW433.out)) | (dsimp only; exact Nat.ne_of_lt (Nat.lt_of_lt_of_le (by have := World.block_lt_of_cell? _ _ hw436_4; first | rwa [add_block] at this | exact this) GW433.out))) _).trans (((cell_far (p := ⟨gb433, _, none⟩) (by first | exact Nat.ne_of_lt (Nat.lt_of_lt_of_le (by have := World.block_lt_of_cell? _ _ hw436_4; first | rwa [add_block] at this | exact this) GW433.out) | (rw [add_block]; exact Nat.ne_of_lt (Nat.lt_of_lt_of_le (by have := World.block_lt_of_cell? _ _ hw436_4; first | rwa [add_block] at this | exact this) GW433.out)) | (show (Addr.add _ _).block ≠ _; rw [add_block]; exact Nat.ne_of_lt (Nat.lt_of_lt_of_le (by have := World.block_lt_of_cell? _ _ hw436_4; first | rwa [add_block] at this | exact this) GW433.out)) | (dsimp only; exact Nat.ne_of_lt (Nat.lt_of_lt_of_le (by have := World.block_lt_of_cell? _ _ hw436_4; first | rwa [add_block] at this | exact this) GW433.out))) _).trans (((cell_far (p := ⟨gb433, _, none⟩) (by first | exact Nat.ne_of_lt (Nat.lt_of_lt_of_le (by have := World.block_lt_of_cell? _ _ hw436_4; first | rwa [add_block] at this | exact this) GW433.out) | (rw [add_block]; exact Nat.ne_of_lt (Nat.lt_of_lt_of_le (by have := World.block_lt_of_cell? _ _ hw436_4; first | rwa [add_block] at this | exact this) GW433.out)) | (show (Addr.add _ _).block ≠ _; rw [add_block]; exact Nat.ne_of_lt (Nat.lt_of_lt_of_le (by have := World.block_lt_of_cell? _ _ hw436_4; first | rwa [add_block] at this | exact this) GW433.out)) | (dsimp only; exact Nat.ne_of_lt (Nat.lt_of_lt_of_le (by have := World.block_lt_of_cell? _ _ hw436_4; first | rwa [add_block] at this | exact this) GW433.out))) _).trans (hHeld.2.2.2.2.2.2.2.2.2.2.2.2.1)))))), ((cell_far (p := ⟨gb433, _, none⟩) (by first | exact Nat.ne_of_lt (Nat.lt_of_lt_of_le (by have := World.block_lt_of_cell? _ _ hw436_5; first | rwa [add_block] at this | exact this) GW433.out) | (rw [add_block]; exact Nat.ne_of_lt (Nat.lt_of_lt_of_le (by have := World.block_lt_of_cell? _ _ hw436_5; first | rwa [add_block] at this | exact this) GW433.out)) | (show (Addr.add _ _).block ≠ _; rw [add_block]; exact Nat.ne_of_lt (Nat.lt_of_lt_of_le (by have := World.block_lt_of_cell? _ _ hw436_5; first | rwa [add_block] at this | exact this) GW433.out)) | (dsimp only; exact Nat.ne_of_lt (Nat.lt_of_lt_of_le (by have := World.block_lt_of_cell? _ _ hw436_5; first | rwa [add_block] at this | exact this) GW433.out))) _).trans (((cell_far (p := ⟨gb433, _, none⟩) (by first | exact Nat.ne_of_lt (Nat.lt_of_lt_of_le (by have := World.block_lt_of_cell? _ _ hw436_5; first | rwa [add_block] at this | exact this) GW433.out) | (rw [add_block]; exact Nat.ne_of_lt (Nat.lt_of_lt_of_le (by have := World.block_lt_of_cell? _ _ hw436_5; first | rwa [add_block] at this | exact this) GW433.out)) | (show (Addr.add _ _).block ≠ _; rw [add_block]; exact Nat.ne_of_lt (Nat.lt_of_lt_of_le (by have := World.block_lt_of_cell? _ _ hw436_5; first | rwa [add_block] at this | exact this) GW433.out)) | (dsimp only; exact Nat.ne_of_lt (Nat.lt_of_lt_of_le (by have := World.block_lt_of_cell? _ _ hw436_5; first | rwa [add_block] at this | exact this) GW433.out))) _).trans (((cell_far (p := ⟨gb433, _, none⟩) (by first | exact Nat.ne_of_lt (Nat.lt_of_lt_of_le (by have := World.block_lt_of_cell? _ _ hw436_5; first | rwa [add_block] at this | exact this) GW433.out) | (rw [add_block]; exact Nat.ne_of_lt (Nat.lt_of_lt_of_le (by have := World.block_lt_of_cell? _ _ hw436_5; first | rwa [add_block] at this | exact this) GW433.out)) | (show (Addr.add _ _).block ≠ _; rw [add_block]; exact Nat.ne_of_lt (Nat.lt_of_lt_of_le (by have := World.block_lt_of_cell? _ _ hw436_5; first | rwa [add_block] at this | exact this) GW433.out)) | (dsimp only; exact Nat.ne_of_lt (Nat.lt_of_lt_of_le (by have := World.block_lt_of_cell? _ _ hw436_5; first | rwa [add_block] at this | exact this) GW433.out))) _).trans (hHeld.2.2.2.2.2.2.2.2.2.2.2.2.2.1)))))), ((cell_far (p := ⟨gb433, _, none⟩) (by first | exact Nat.ne_of_lt (Nat.lt_of_lt_of_le (by have := World.block_lt_of_cell? _ _ hw436_6; first | rwa [add_block] at this | exact this) GW433.out) | (rw [add_block]; exact Nat.ne_of_lt (Nat.lt_of_lt_of_le (by have := World.block_lt_of_cell? _ _ hw436_6; first | rwa [add_block] at this | exact this) GW433.out)) | (show (Addr.add _ _).block ≠ _; rw [add_block]; exact Nat.ne_of_lt (Nat.lt_of_lt_of_le (by have := World.block_lt_of_cell? _ _ hw436_6; first | rwa [add_block] at this | exact this) GW433.out)) | (dsimp only; exact Nat.ne_of_lt (Nat.lt_of_lt_of_le (by have := World.block_lt_of_cell? _ _ hw436_6; first | rwa [add_block] at this | exact this) GW433.out))) _).trans (((cell_far (p := ⟨gb433, _, none⟩) (by first | exact Nat.ne_of_lt (Nat.lt_of_lt_of_le (by have := World.block_lt_of_cell? _ _ hw436_6; first | rwa [add_block] at this | exact this) GW433.out) | (rw [add_block]; exact Nat.ne_of_lt (Nat.lt_of_lt_of_le (by have := World.block_lt_of_cell? _ _ hw436_6; first | rwa [add_block] at this | exact this) GW433.out)) | (show (Addr.add _ _).block ≠ _; rw [add_block]; exact Nat.ne_of_lt (Nat.lt_of_lt_of_le (by have := World.block_lt_of_cell? _ _ hw436_6; first | rwa [add_block] at this | exact this) GW433.out)) | (dsimp only; exact Nat.ne_of_lt (Nat.lt_of_lt_of_le (by have := World.block_lt_of_cell? _ _ hw436_6; first | rwa [add_block] at this | exact this) GW433.out))) _).trans (((cell_far (p := ⟨gb433, _, none⟩) (by first | exact Nat.ne_of_lt (Nat.lt_of_lt_of_le (by have := World.block_lt_of_cell? _ _ hw436_6; first | rwa [add_block] at this | exact this) GW433.out) | (rw [add_block]; exact Nat.ne_of_lt (Nat.lt_of_lt_of_le (by have := World.block_lt_of_cell? _ _ hw436_6; first | rwa [add_block] at this | exact this) GW433.out)) | (show (Addr.add _ _).block ≠ _; rw [add_block]; exact Nat.ne_of_lt (Nat.lt_of_lt_of_le (by have := World.block_lt_of_cell? _ _ hw436_6; first | rwa [add_block] at this | exact this) GW433.out)) | (dsimp only; exact Nat.ne_of_lt (Nat.lt_of_lt_of_le (by have := World.block_lt_of_cell? _ _ hw436_6; first | rwa [add_block] at this | exact this) GW433.out))) _).trans (hHeld.2.2.2.2.2.2.2.2.2.2.2.2.2.2.1)))))), ((cell_far (p := ⟨gb433, _, none⟩) (by first | exact Nat.ne_of_lt (Nat.lt_of_lt_of_le (by have := World.block_lt_of_cell? _ _ hw436_7; first | rwa [add_block] at this | exact this) GW433.out) | (rw [add_block]; exact Nat.ne_of_lt (Nat.lt_of_lt_of_le (by have := World.block_lt_of_cell? _ _ hw436_7; first | rwa [add_block] at this | exact this) GW433.out)) | (show (Addr.add _ _).block ≠ _; rw [add_block]; exact Nat.ne_of_lt (Nat.lt_of_lt_of_le (by have := World.block_lt_of_cell? _ _ hw436_7; first | rwa [add_block] at this | exact this) GW433.out)) | (dsimp only; exact Nat.ne_of_lt (Nat.lt_of_lt_of_le (by have := World.block_lt_of_cell? _ _ hw436_7; first | rwa [add_block] at this | exact this) GW433.out))) _).trans (((cell_far (p := ⟨gb433, _, none⟩) (by first | exact Nat.ne_of_lt (Nat.lt_of_lt_of_le (by have := World.block_lt_of_cell? _ _ hw436_7; first | rwa [add_block] at this | exact this) GW433.out) | (rw [add_block]; exact Nat.ne_of_lt (Nat.lt_of_lt_of_le (by have := World.block_lt_of_cell? _ _ hw436_7; first | rwa [add_block] at this | exact this) GW433.out)) | (show (Addr.add _ _).block ≠ _; rw [add_block]; exact Nat.ne_of_lt (Nat.lt_of_lt_of_le (by have := World.block_lt_of_cell? _ _ hw436_7; first | rwa [add_block] at this | exact this) GW433.out)) | (dsimp only; exact Nat.ne_of_lt (Nat.lt_of_lt_of_le (by have := World.block_lt_of_cell? _ _ hw436_7; first | rwa [add_block] at this | exact this) GW433.out))) _).trans (((cell_far (p := ⟨gb433, _, none⟩) (by first | exact Nat.ne_of_lt (Nat.lt_of_lt_of_le (by have := World.block_lt_of_cell? _ _ hw436_7; first | rwa [add_block] at this | exact this) GW433.out) | (rw [add_block]; exact Nat.ne_of_lt (Nat.lt_of_lt_of_le (by have := World.block_lt_of_cell? _ _ hw436_7; first | rwa [add_block] at this | exact this) GW433.out)) | (show (Addr.add _ _).block ≠ _; rw [add_block]; exact Nat.ne_of_lt (Nat.lt_of_lt_of_le (by have := World.block_lt_of_cell? _ _ hw436_7; first | rwa [add_block] at this | exact this) GW433.out)) | (dsimp only; exact Nat.ne_of_lt (Nat.lt_of_lt_of_le (by have := World.block_lt_of_cell? _ _ hw436_7; first | rwa [add_block] at this | exact this) GW433.out))) _).trans (hHeld.2.2.2.2.2.2.2.2.2.2.2.2.2.2.2))))))⟩ (fun hHeld => ?_)
   clear hK K
   refine done_ (done_of HT_.out (by kernel_rfl)) ?_
   try go_wp2
   refine bodyPost_ret (results_cell_row rfl _ _ gb433 31 #[.string ((rd_T39 l0 0).f0), .int .i64 0, .int .i64 t437] (0, 0) _ rfl (by refine bx ?_; refine blk_put (cs := #[.string ((rd_T39 l0 0).f0), .int .i64 0, .int .i64 0]) ?_ 2 _ rfl; refine bx ?_; refine blk_put (cs := #[.string ((rd_T39 l0 0).f0), .int .i64 0, .int .i64 0]) ?_ 1 _ rfl; refine bx ?_; refine blk_put (cs := #[.string (⟨#[]⟩ : ByteArray), .int .i64 0, .int .i64 0]) ?_ 0 _ rfl; refine bx ?_; exact BK433.out) Try.underlying31 rfl (by kernel_rfl)) rfl ?_
   exact ⟨exq, bw HB.out⟩
  ·rw [if_neg c4] at H
   exact absurd H (by simp)
 ·replace c3 := Bool.eq_false_iff.mpr c3
  subst c3
  have H1 : (some ((⟨#[]⟩ : ByteArray), 0, 0)) = some (r1, r2, r3) := by rw [if_neg (show ¬ (false = true) by decide)] at H; exact H
  clear H
  have H := H1
  clear H1
  simp only [Option.some.injEq, Prod.mk.injEq] at H
  obtain ⟨rfl, rfl, rfl⟩ := H
  go_enter Try.func27, Try.ntmps27
  go_wp2_with (first | ((with_reducible refine gate_dst (N := 2) rfl ?_); refine box_event ?hg (N := 2) ?hd (cs := #[.string (⟨#[]⟩ : ByteArray), .int .i64 0, .int .i64 0]) (t := 31) ?hr ?_; (case hd => rfl); (case hg => rfl); (case hr => first | (go_simp; done) | (go_simp; rfl)); intro gb433 hg w13 hbox hb; have n0_ := bs HB hb; have n1_ := Aside0.mk (hbox); have n2_ := gh hg HB; have n3_ := gh hg HB; clear HB; have HB := n0_; have BK433 := n1_; have GW433 := n2_; have GE433 := n3_; clear n0_ n1_ n2_ n3_; clear hb hbox hg) | ((with_reducible refine gate_callee (f := 36) rfl ?_); refine goesL_ (some 4) rfl rfl Try.func36 (by kernel_rfl) rfl #[.slice A0 l0.length c0] rfl mxp ?_; (with_reducible refine (impl_RecOk.calls k _ _ l0 false _ ?side1 ?side2 A2.out).mono ?_); (case side1 => exact cx (Kd.C_below HR0.out HB.out)); (case side2 => exact HC0.out); rintro e w14 ⟨rfl, hb⟩; refine ⟨_, rfl, ?_⟩; replace BK433 := up BK433 hb; replace HB := bs HB hb; (try clear hb); (try clear hb2); (try clear hk); (try clear hi); have hcz15_0 := b0 BK433; have hcz15_1 := b1 BK433; have hcz15_2 := b2 BK433; have hfz15_0 := fz BK433 0; have hfz15_1 := fz BK433 1; have hfz15_2 := fz BK433 2))
  refine bodyPost_ret (results_cell_row rfl _ _ gb433 31 #[.string (⟨#[]⟩ : ByteArray), .int .i64 0, .int .i64 0] (0, 0) _ rfl (by refine bx ?_; refine blk_put (cs := #[.string (⟨#[]⟩ : ByteArray), .int .i64 0, .int .i64 0]) ?_ 2 _ rfl; refine bx ?_; refine blk_put (cs := #[.string (⟨#[]⟩ : ByteArray), .int .i64 0, .int .i64 0]) ?_ 1 _ rfl; refine bx ?_; refine blk_put (cs := #[.string (⟨#[]⟩ : ByteArray), .int .i64 0, .int .i64 0]) ?_ 0 _ rfl; refine bx ?_; exact BK433.out) Try.underlying31 rfl (by kernel_rfl)) rfl ?_
  exact ⟨exq, bw HB.out⟩


/-! ### laws_eqRecState: function 43 -/
def laws_eqRecState.f (a0_0 : ByteArray) (a0_1 : Int) (a0_2 : Int) (a1_0 : ByteArray) (a1_1 : Int) (a1_2 : Int) : Option (Bool) := if a0_0.toList = a1_0.toList then (if a0_1 = a1_1 then (if a0_2 = a1_2 then (some true) else (some false)) else (some false)) else (some false)
set_option maxHeartbeats 8000000 in
set_option maxRecDepth 100000 in
theorem laws_eqRecState.calls (a0_0 : ByteArray) (a0_1 : Int) (a0_2 : Int) (a1_0 : ByteArray) (a1_1 : Int) (a1_2 : Int) (r : Bool) (w : World) (h : laws_eqRecState.f a0_0 a0_1 a0_2 a1_0 a1_1 a1_2 = some r) :
  Calls Try.prog 43 #[.agg #[.string a0_0, .int .i64 a0_1, .int .i64 a0_2], .agg #[.string a1_0, .int .i64 a1_1, .int .i64 a1_2]] w fun e w' => e = .returned (.bool r) ∧ Below w.heap.size w w' := by
 have H := Aside0.mk h
 clear h
 go_enter Try.func43, Try.ntmps43
 go_wp2
 all_goals
  go_ret
  refine ⟨?_, by repeat (first | exact Below.refl _ _ | apply below_alloc | apply pw_below_drewN | apply below_drew1)⟩
  have h := H.out
  simp_all [laws_eqRecState.f]

end Go.Proofs.Ytdkologncoofdaa.P
-- Q5
namespace Go.Proofs.Ytdkologncoofdaa.P
open Go.RowKit Go.Proofs.YtdkologncoofdaaW.PrintWords Go.Proofs.YtdkologncoofdaaW.PrintLast
set_option linter.unusedVariables false
set_option linter.unusedSimpArgs false

theorem map_le2 (l : List S48) (h : l.length ≤ 1048576) : (l.map to39).length ≤ 1048576 := by rw [List.length_map]; exact h

/-! ### The begin -/
def beginOf (l : List S39) : ByteArray × Int × Int := if recOk l = true then ((rd_T39 l 0).f0, 0, boundOf l (rd_T39 l 0).f0) else (⟨#[]⟩, 0, 0)
theorem spec_bg (l : List S39) (k : Nat) (hk : 80 ≤ k) : spec_RecBegin.f k l = some (beginOf l) := by
  unfold spec_RecBegin.f beginOf spec_l4At.f
  rw [spec_ok l k (by omega), Option.bind_some]
  by_cases h : recOk l = true
  · have := recOk_len l h
    rw [if_pos h, if_pos h, if_pos (by omega), spec_bd l h _ k (by omega)]; rfl
  · rw [if_neg h, if_neg h]
theorem impl_bg (l : List S39) (k : Nat) (hk : 80 ≤ k) : impl_RecBegin.f k l = some (beginOf l) := by
  unfold impl_RecBegin.f beginOf
  rw [impl_ok l k (by omega), Option.bind_some]
  by_cases h : recOk l = true
  · have := recOk_len l h
    rw [if_pos h, if_pos h, if_pos (by omega), impl_bd l h _ k (by omega)]; rfl
  · rw [if_neg h, if_neg h]
theorem eqState_self (a : ByteArray) (b c : Int) : laws_eqRecState.f a b c a b c = some true := by
  unfold laws_eqRecState.f
  simp

end Go.Proofs.Ytdkologncoofdaa.P
-- Q6
namespace Go.Proofs.Ytdkologncoofdaa.P
open Go.RowKit Go.Proofs.YtdkologncoofdaaW.PrintWords Go.Proofs.YtdkologncoofdaaW.PrintLast
set_option linter.unusedVariables false
set_option linter.unusedSimpArgs false

/-- How long a phase takes, and whether it goes well. -/
def tickOf (p : S39) (t : Int) (w : Bool) : Int := if max t 0 > p.f5 then p.f5 else if w = true ∧ p.f1 = 3 then max (max t 0) p.f4 else max t 0
def wellOf (p : S39) (t : Int) (w : Bool) : Bool := if max t 0 > p.f5 then false else w
def nextOf (p : S39) (t : Int) (w : Bool) : ByteArray := if wellOf p t w = true then p.f6 else p.f7
def canGo (l : List S39) (a : ByteArray) (now : Int) : Bool := recOk l && !(decide (atOf l a < 0)) && inB now 0 12000
def goOf (l : List S39) (a : ByteArray) (now left : Int) (t : Int) (w : Bool) : ByteArray × Int × Int × Bool :=
  if canGo l a now = true then (nextOf (rd_T39 l (atOf l a)) t w, now + tickOf (rd_T39 l (atOf l a)) t w, boundOf l (nextOf (rd_T39 l (atOf l a)) t w), true) else (a, now, left, false)

theorem phase_of (l : List S39) (h : recOk l = true) (a : ByteArray) (h0 : ¬ atOf l a < 0) : phOk (rd_T39 l (atOf l a)) = true := by
  have hr := atOf_range l a
  obtain ⟨i, hi⟩ := Int.eq_ofNat_of_zero_le (show 0 ≤ atOf l a by omega)
  have hok := recOk_at l h i (by omega)
  unfold okAt at hok
  simp only [Bool.and_eq_true] at hok
  rw [hi]
  exact hok.1.1.1
theorem ph_within (p : S39) (h : phOk p = true) : 1 ≤ p.f5 ∧ p.f5 ≤ 1000 := by
  unfold phOk at h
  simp only [Bool.and_eq_true, inB_iff] at h
  exact h.1.1.1.2
theorem ph_hold (p : S39) (h : phOk p = true) (h3 : p.f1 = 3) : 1 ≤ p.f4 ∧ p.f4 ≤ p.f5 := by
  unfold phOk argsOk at h
  rw [if_neg (by omega), if_neg (by omega), if_pos h3] at h
  simp only [Bool.and_eq_true, inB_iff] at h
  exact h.1.1.2.2
theorem tick_range (p : S39) (h : phOk p = true) (t : Int) (w : Bool) : 0 ≤ tickOf p t w ∧ tickOf p t w ≤ p.f5 := by
  have := ph_within p h
  unfold tickOf
  split
  · omega
  · split
    · rename_i h3
      have := ph_hold p h h3.2
      omega
    · omega

theorem impl_go_j1 (l : List S39) (h : recOk l = true) (t : Int) (w : Bool) (a : ByteArray) (now left : Int) (p : S39) (k : Nat) (hk : 28 ≤ k) (hp : phOk p = true) (ht : 0 ≤ t ∧ t ≤ 1000) (hn : 0 ≤ now ∧ now ≤ 12000) :
    impl_RecGo.j1 k l t w a now left p.f0 p.f1 p.f2 p.f3 p.f4 p.f5 p.f6 p.f7 = some (if w = true then p.f6 else p.f7, now + (if w = true ∧ p.f1 = 3 then max t p.f4 else t), boundOf l (if w = true then p.f6 else p.f7), true) := by
  obtain ⟨k, rfl⟩ : ∃ m, k = m + 1 := ⟨k - 1, by omega⟩
  simp only [impl_RecGo.j1, impl_bd l h _ k (by omega), Option.bind_some]
  cases w
  · rw [if_neg (by decide), if_neg (by decide), if_neg (by simp), wrap_id (by omega) (by omega)]
  · by_cases h3 : p.f1 = 3
    · have := ph_hold p hp h3
      have := ph_within p hp
      rw [if_pos rfl, if_pos h3, if_pos rfl, if_pos ⟨rfl, h3⟩, mx_eq, wrap_id (by omega) (by omega)]
    · rw [if_pos rfl, if_neg h3, if_pos rfl, if_neg (fun z => h3 z.2), wrap_id (by omega) (by omega)]
theorem impl_go_j0 (l : List S39) (h : recOk l = true) (t : Int) (w : Bool) (a : ByteArray) (now left : Int) (k : Nat) (hk : 29 ≤ k) (h0 : ¬ atOf l a < 0) (hn : 0 ≤ now ∧ now ≤ 12000) :
    impl_RecGo.j0 k l false a now left t w = some (nextOf (rd_T39 l (atOf l a)) t w, now + tickOf (rd_T39 l (atOf l a)) t w, boundOf l (nextOf (rd_T39 l (atOf l a)) t w), true) := by
  obtain ⟨k, rfl⟩ : ∃ m, k = m + 1 := ⟨k - 1, by omega⟩
  have hp := phase_of l h a h0
  have hr := atOf_range l a
  have hw := ph_within _ hp
  simp only [impl_RecGo.j0, impl_at.f, Option.bind_some, mx_eq]
  rw [if_neg (by decide), if_pos (by omega), if_pos (by omega)]
  unfold nextOf wellOf tickOf
  by_cases c : max t 0 > (rd_T39 l (atOf l a)).f5
  · rw [if_pos c, if_pos c, if_pos c, impl_go_j1 l h _ _ a now left _ k (by omega) hp (by omega) hn]
    simp
  · rw [if_neg c, if_neg c, if_neg c, impl_go_j1 l h _ _ a now left _ k (by omega) hp (by omega) hn]
theorem impl_go (l : List S39) (a : ByteArray) (now left : Int) (t : Int) (w : Bool) (k : Nat) (hk : 80 ≤ k) : impl_RecGo.f k l a now left t w = some (goOf l a now left t w) := by
  have hj : impl_RecGo.j0 k l true a now left t w = some (a, now, left, false) := by
    obtain ⟨k, rfl⟩ : ∃ m, k = m + 1 := ⟨k - 1, by omega⟩
    simp [impl_RecGo.j0]
  unfold impl_RecGo.f goOf canGo
  rw [impl_ok l k (by omega), Option.bind_some]
  cases h : recOk l
  · rw [if_neg (by decide), hj]; simp
  · rw [if_pos rfl]
    simp only [impl_at.f, Option.bind_some, impl_in']
    by_cases h0 : atOf l a < 0
    · rw [if_pos h0, hj]; simp [h0]
    · rw [if_neg h0]
      cases hn : inB now 0 12000
      · simp only [Bool.not_false]; rw [hj]; simp
      · simp only [Bool.not_true]
        rw [impl_go_j0 l h t w a now left k (by omega) h0 (by simpa using inB_iff.1 hn)]
        simp [h0]

theorem spec_at4 (l : List S39) (h : recOk l = true) (a : ByteArray) (n : Int) (k : Nat) (hk : 27 ≤ k) : spec_l4At.f k l a n = some (a, n, boundOf l a) := by
  unfold spec_l4At.f
  rw [spec_bd l h a k hk]; rfl
theorem spec_go_j3 (l : List S39) (h : recOk l = true) (t : Int) (w : Bool) (a : ByteArray) (now left : Int) (p : S39) (k : Nat) (hk : 28 ≤ k) (ht : 0 ≤ t ∧ t ≤ 1000) (hn : 0 ≤ now ∧ now ≤ 12000) :
    spec_l4Go.j3 k l t w a now left p.f0 p.f1 p.f2 p.f3 p.f4 p.f5 p.f6 p.f7 = some (if w = true then p.f6 else p.f7, now + t, boundOf l (if w = true then p.f6 else p.f7)) := by
  obtain ⟨k, rfl⟩ : ∃ m, k = m + 1 := ⟨k - 1, by omega⟩
  simp only [spec_l4Go.j3, spec_at4 l h _ _ k (show 27 ≤ k by omega), Option.bind_some]
  cases w
  · rw [if_neg (by decide), if_neg (by decide), wrap_id (by omega) (by omega)]
  · rw [if_pos rfl, if_pos rfl, wrap_id (by omega) (by omega)]
theorem spec_go_j0 (l : List S39) (h : recOk l = true) (t : Int) (w : Bool) (a : ByteArray) (now left : Int) (p : S39) (k : Nat) (hk : 40 ≤ k) (hp : phOk p = true) (hn : 0 ≤ now ∧ now ≤ 12000) :
    spec_l4Go.j0 k l t w (decide (w = true ∧ p.f1 = 3 ∧ t < p.f4)) a now left p.f0 p.f1 p.f2 p.f3 p.f4 p.f5 p.f6 p.f7 = some (nextOf p t w, now + tickOf p t w, boundOf l (nextOf p t w)) := by
  obtain ⟨k, rfl⟩ : ∃ m, k = m + 3 := ⟨k - 3, by omega⟩
  have hw := ph_within p hp
  have hj : ∀ (x : Int) (b : Bool), (x > p.f5 → spec_l4Go.j1 (k + 2) l x b a now left p.f0 p.f1 p.f2 p.f3 p.f4 p.f5 p.f6 p.f7 = some (p.f7, now + p.f5, boundOf l p.f7)) ∧
      (¬ x > p.f5 → spec_l4Go.j1 (k + 2) l x b a now left p.f0 p.f1 p.f2 p.f3 p.f4 p.f5 p.f6 p.f7 = some (if b = true then p.f6 else p.f7, now + max x 0, boundOf l (if b = true then p.f6 else p.f7))) := by
    intro x b
    refine ⟨fun hx => ?_, fun hx => ?_⟩
    · simp only [spec_l4Go.j1, spec_l4Go.j2]
      rw [if_pos hx, if_neg (by omega), spec_go_j3 l h p.f5 false a now left p k (by omega) (by omega) hn, if_neg (by decide)]
    · simp only [spec_l4Go.j1, spec_l4Go.j2]
      rw [if_neg hx]
      by_cases h0 : x < 0
      · rw [if_pos h0, spec_go_j3 l h 0 b a now left p k (by omega) (by omega) hn, Int.max_eq_right (by omega)]
      · rw [if_neg h0, spec_go_j3 l h x b a now left p k (by omega) (by omega) hn, Int.max_eq_left (by omega)]
  simp only [spec_l4Go.j0]
  unfold nextOf wellOf tickOf
  by_cases c : w = true ∧ p.f1 = 3 ∧ t < p.f4
  · obtain ⟨rfl, h3, h4⟩ := c
    have hh := ph_hold p hp h3
    rw [if_pos (by simp [h3, h4]), (hj p.f4 true).2 (by omega)]
    have e1 : ¬ max t 0 > p.f5 := by omega
    rw [if_neg e1, if_neg e1, if_pos rfl, if_pos (⟨rfl, h3⟩ : true = true ∧ p.f1 = 3), Int.max_eq_left (by omega), Int.max_eq_right (by omega)]
  · rw [if_neg (by simpa using c)]
    by_cases e1 : max t 0 > p.f5
    · rw [(hj t w).1 (by omega), if_pos e1, if_pos e1, if_neg (by decide)]
    · rw [(hj t w).2 (by omega), if_neg e1, if_neg e1]
      by_cases c2 : w = true ∧ p.f1 = 3
      · have : ¬ t < p.f4 := fun z => c ⟨c2.1, c2.2, z⟩
        have hh := ph_hold p hp c2.2
        rw [if_pos c2, Int.max_eq_left (show 0 ≤ t by omega), Int.max_eq_left (by omega)]
      · rw [if_neg c2]
theorem spec_l4 (l : List S39) (h : recOk l = true) (t : Int) (w : Bool) (a : ByteArray) (now left : Int) (k : Nat) (hk : 40 ≤ k) (h0 : ¬ atOf l a < 0) (hn : 0 ≤ now ∧ now ≤ 12000) :
    spec_l4Go.f k l a now left (atOf l a) t w = some (nextOf (rd_T39 l (atOf l a)) t w, now + tickOf (rd_T39 l (atOf l a)) t w, boundOf l (nextOf (rd_T39 l (atOf l a)) t w)) := by
  have hp := phase_of l h a h0
  have hr := atOf_range l a
  rw [← spec_go_j0 l h t w a now left _ k hk hp hn]
  unfold spec_l4Go.f
  rw [if_pos (by omega), if_pos (by omega)]
  by_cases h3 : (rd_T39 l (atOf l a)).f1 = 3
  · rw [if_pos h3]
    cases w
    · rw [if_neg (by decide)]; simp
    · rw [if_pos rfl]; simp [h3]
  · rw [if_neg h3]; simp [h3]
theorem spec_go (l : List S39) (hl : l.length ≤ 1048576) (a : ByteArray) (now left : Int) (t : Int) (w : Bool) (k : Nat) (hk : 1048577 < k) : spec_RecGo.f k l a now left t w = some (goOf l a now left t w) := by
  unfold spec_RecGo.f goOf canGo
  rw [spec_at l a (by omega) k (by omega), Option.bind_some, spec_ok l k (by omega), Option.bind_some]
  cases h : recOk l
  · rw [if_neg (by decide)]; simp
  · rw [if_pos rfl]
    by_cases h0 : atOf l a < 0
    · rw [if_pos h0]; simp [h0]
    · rw [if_neg h0, spec_in, Option.bind_some]
      cases hn : inB now 0 12000
      · rw [if_neg (by decide)]; simp
      · rw [if_pos rfl, spec_l4 l h t w a now left k (by omega) h0 (by simpa using inB_iff.1 hn)]
        simp [h0]

end Go.Proofs.Ytdkologncoofdaa.P
-- PureFnGo
namespace Go.Proofs.Ytdkologncoofdaa.Pure
open Go.RowKit Go.Proofs.Ytdkologncoofdaa.P Go.Proofs.YtdkologncoofdaaW.PrintWords Go.Proofs.YtdkologncoofdaaW.PrintLast
set_option linter.unusedVariables false
set_option linter.unusedSimpArgs false

theorem go_l0 {b : List Int} (hb : Bytes b) (l : List S39) (hl : l.length ≤ 1000) (n : Nat) : ∀ (a : ByteArray) (now left p : Int) (k : Nat), n ≤ 10 → 0 ≤ p → p ≤ 400000000 - 10 * n → 1048600 + n ≤ k →
    ∃ a2 now2 left2 t w, spec_DrawRecGo.l0 k l (n : Int) b p a now left = some (l, a2, now2, left2, t, w) := by
  induction n with
  | zero =>
    intro a now left p k _ h0 h1 hk
    obtain ⟨k, rfl⟩ : ∃ m, k = m + 1 := ⟨k - 1, by omega⟩
    rw [spec_DrawRecGo.l0, if_neg (by omega)]
    obtain ⟨v, ev, _, _⟩ := pick_ok hb h0 (show p ≤ 1000000000 by omega) 16 k (by omega)
    simp only [ev, Option.bind_some]
    split
    · obtain ⟨u, eu, _⟩ := of_ok hb (show 0 ≤ p + 1 by omega) (by omega) ([(⟨#[]⟩ : ByteArray), (⟨#[110, 111, 110, 101]⟩ : ByteArray), (⟨#[103, 111, 111, 100]⟩ : ByteArray)] : List ByteArray) (by simp) k (by omega)
      obtain ⟨t, w, q, es, _, _⟩ := say_ok hb (show 0 ≤ p + 1 + 1 by omega) (by omega) k (by omega)
      simp only [eu, es, Option.bind_some]
      exact ⟨_, _, _, _, _, rfl⟩
    · split
      · obtain ⟨u, eu, u0, u1⟩ := pick_ok hb (show 0 ≤ p + 1 by omega) (by omega) 3 k (by omega)
        obtain ⟨t, w, q, es, _, _⟩ := say_ok hb (show 0 ≤ p + 1 + 1 by omega) (by omega) k (by omega)
        have := u1 (by omega)
        simp only [eu, es, Option.bind_some]
        (try rw [if_pos u0]); rw [if_pos (by simpa using this)]
        exact ⟨_, _, _, _, _, rfl⟩
      · obtain ⟨t, w, q, es, _, _⟩ := say_ok hb (show 0 ≤ p + 1 by omega) (by omega) k (by omega)
        simp only [es, Option.bind_some]
        exact ⟨_, _, _, _, _, rfl⟩
  | succ n ih =>
    intro a now left p k hn h0 h1 hk
    obtain ⟨k, rfl⟩ : ∃ m, k = m + 1 := ⟨k - 1, by omega⟩
    rw [spec_DrawRecGo.l0, if_pos (by omega)]
    obtain ⟨t, w, q, es, q0, q1⟩ := say_ok hb h0 (by omega) k (by omega)
    have hw : wrap64 (((n + 1 : Nat) : Int) - 1) = (n : Int) := by rw [wrap_id (by omega) (by omega)]; omega
    simp only [es, Option.bind_some, spec_go l (by omega) a now left t w k (by omega), hw]
    split
    · exact ih _ _ _ q k (by omega) (by omega) (by omega) (by omega)
    · exact ih _ _ _ q k (by omega) (by omega) (by omega) (by omega)
theorem drawnGo (l : List Int) (hb : ∀ x ∈ l, 0 ≤ x ∧ x ≤ 255) (k : Nat) (hk : 1048700 ≤ k) : ∃ x a now left t w, spec_DrawRecGo.f k l = some (x, a, now, left, t, w) ∧ x.length ≤ 1000 := by
  unfold spec_DrawRecGo.f
  obtain ⟨b, e0, hB⟩ := open_ok l hb
  rw [e0, Option.bind_some]
  obtain ⟨x, q, ex, x1, x2, x3⟩ := any_ok hB (p := 0) (by omega) (by omega) k (by omega)
  simp only [ex, Option.bind_some, spec_bg x k (by omega)]
  obtain ⟨v, ev, v0, v1⟩ := pick_ok hB (p := q) (by omega) (by omega) 5 k (by omega)
  simp only [ev, Option.bind_some]
  have := v1 (by omega)
  obtain ⟨m, rfl⟩ := Int.eq_ofNat_of_zero_le v0
  obtain ⟨a2, now2, left2, t, w, e⟩ := go_l0 hB x (by omega) m (beginOf x).1 (beginOf x).2.1 (beginOf x).2.2 (q + 1) k (by omega) (by omega) (by omega) (by omega)
  exact ⟨x, a2, now2, left2, t, w, e, by omega⟩

/-- The loop that looks for the phase. -/
theorem find (l : List S39) (h : recOk l = true) (a : ByteArray) (h0 : ¬ atOf l a < 0) (now left : Int) (hn : 0 ≤ now ∧ now ≤ 12000) (t : Int) (w : Bool) (left2 : Int) (d : Nat) :
    ∀ (i k : Nat), i ≤ l.length → l.length - i = d → (∀ j, j < i → ((l.getD j z39).f0.toList == a.toList) = false) → d + 2 ≤ k →
      laws_FnGo.l0 k l (i : Int) a now left t w (nextOf (rd_T39 l (atOf l a)) t w) (now + tickOf (rd_T39 l (atOf l a)) t w) left2 = some true := by
  have hlen := recOk_len l h
  induction d with
  | zero =>
    intro i k hi hd hb hk
    exact absurd (show atOf l a < 0 by rw [atOf_miss l a (fun j hj => hb j (by omega))]; decide) h0
  | succ d ih =>
    intro i k hi hd hb hk
    obtain ⟨k, rfl⟩ : ∃ m, k = m + 1 := ⟨k - 1, by omega⟩
    by_cases he : (rd_T39 l (i : Int)).f0.toList = a.toList
    · have ha := atOf_hit l a i (by omega) (by simpa [rd_T39] using he) hb
      have hp := phase_of l h a h0
      rw [laws_FnGo.l0, if_pos (by omega), if_pos (by omega), if_pos he]
      rw [ha] at hp ⊢
      have h5 := ph_within _ hp
      have h3 := ph_hold _ hp
      generalize rd_T39 l (i : Int) = p at *
      clear hb ih h he ha
      by_cases hm : max t 0 > p.f5
      · have ht : t > p.f5 := by omega
        have ht2 : ¬ t ≤ p.f5 := by omega
        have hnx : nextOf p t w = p.f7 := by simp [nextOf, wellOf, hm]
        have htk : tickOf p t w = p.f5 := by simp [tickOf, hm]
        have hww : wrap64 (now + p.f5 - now) = p.f5 := by rw [show now + p.f5 - now = p.f5 by omega]; exact wrap_id (by omega) (by omega)
        rw [hnx, htk, hww, if_neg (by omega), if_neg (by omega)]
        by_cases c : p.f7.toList = p.f6.toList <;> cases w <;> by_cases c3 : p.f1 = 3 <;> simp [c, ht, ht2, c3]
      · have ht : ¬ t > p.f5 := by omega
        have ht2 : t ≤ p.f5 := by omega
        cases w with
        | true =>
          have hnx : nextOf p t true = p.f6 := by simp [nextOf, wellOf, hm]
          by_cases c3 : p.f1 = 3
          · have h4 := h3 c3
            have htk : tickOf p t true = max (max t 0) p.f4 := by simp [tickOf, hm, c3]
            have hww : wrap64 (now + max (max t 0) p.f4 - now) = max (max t 0) p.f4 := by rw [show now + max (max t 0) p.f4 - now = max (max t 0) p.f4 by omega]; exact wrap_id (by omega) (by omega)
            rw [hnx, htk, hww, if_neg (by omega), if_neg (by omega), if_pos rfl, if_neg ht, if_pos rfl, if_pos c3, if_pos ht2]
            simp; omega
          · have htk : tickOf p t true = max t 0 := by simp [tickOf, hm, c3]
            have hww : wrap64 (now + max t 0 - now) = max t 0 := by rw [show now + max t 0 - now = max t 0 by omega]; exact wrap_id (by omega) (by omega)
            rw [hnx, htk, hww, if_neg (by omega), if_neg (by omega), if_pos rfl, if_neg ht, if_pos rfl, if_neg c3]
        | false =>
          have hnx : nextOf p t false = p.f7 := by simp [nextOf, wellOf, hm]
          have htk : tickOf p t false = max t 0 := by simp [tickOf, hm]
          have hww : wrap64 (now + max t 0 - now) = max t 0 := by rw [show now + max t 0 - now = max t 0 by omega]; exact wrap_id (by omega) (by omega)
          rw [hnx, htk, hww, if_neg (by omega), if_neg (by omega)]
          by_cases c : p.f7.toList = p.f6.toList <;> by_cases c3 : p.f1 = 3 <;> simp [c, ht, ht2, c3]
    · rw [laws_FnGo.l0, if_pos (by omega), if_pos (by omega), if_neg he, wrap_id (by omega) (by omega)]
      refine ih (i + 1) k (by omega) (by omega) (fun j hj => ?_) (by omega)
      by_cases e : j = i
      · subst e; simpa [rd_T39] using he
      · exact hb j (by omega)

theorem FnGo : laws_FnGo.Pure := by
  intro l _ _ hw
  have hb : ∀ x ∈ l, 0 ≤ x ∧ x ≤ 255 := by
    intro x hx
    have := hw x hx
    simp [Lit.wf, IntKind.min, IntKind.max, IntKind.signed, IntKind.bits] at this
    omega
  refine ⟨1048700, ?_⟩
  unfold laws_FnGo.f
  by_cases h0 : (l.length : Int) > 1048576
  · rw [if_pos h0]
  · rw [if_neg h0]
    obtain ⟨x, a, now, left, t, w, hx, hl⟩ := drawnGo l hb 1048700 (by omega)
    rw [hx, Option.bind_some]
    simp only [impl_go x a now left t w 1048700 (by omega), spec_go x (by omega) a now left t w 1048700 (by omega), Option.bind_some, bne_self_eq_false, Bool.false_eq_true, if_false, beq_self_eq_true, Bool.not_true, Bool.or_false]
    rw [laws_FnGo.j0, if_neg (by decide)]
    unfold goOf
    by_cases hc : canGo x a now = true
    · rw [if_pos hc]
      rw [if_pos rfl]
      unfold canGo at hc
      simp only [Bool.and_eq_true, Bool.not_eq_true', decide_eq_false_iff_not, inB_iff] at hc
      exact find x hc.1.1 a hc.1.2 now left hc.2 t w _ x.length 0 _ (by omega) (by omega) (fun j hj => absurd hj (Nat.not_lt_zero _)) (by omega)
    · rw [if_neg hc]
      simp
end Go.Proofs.Ytdkologncoofdaa.Pure
