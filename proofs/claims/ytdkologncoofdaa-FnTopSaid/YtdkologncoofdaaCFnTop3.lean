/- Part 3 of the texts that the law FnTop reaches: contracts of the functions and plain lemmas. -/
import Derived.Test.YtdkologncoofdaaCFnTop2
-- Px58
namespace Go.Proofs.Ytdkologncoofdaa.P
open Go.RowKit Go.Proofs.YtdkologncoofdaaW.PrintWords Go.Proofs.YtdkologncoofdaaW.PrintLast Go.Proofs.YtdkologncoofdaaW.PrintMore
attribute [local go_sem] max2_int min2_int max_two min_two max_three min_three max_four min_four   -- for this text's walks alone
set_option linter.unusedVariables false
set_option linter.unusedSimpArgs false

/-! ### impl_RecGo: function 28 -/
mutual
def impl_RecGo.j0 : Nat → List (S39) → Bool → ByteArray → Int → Int → Int → Bool → Option (ByteArray × Int × Int × Bool)
 | 0, _, _, _, _, _, _, _ => none
 | k + 1, x0, x27, x629000, x629001, x629002, x630000, x630001 => if x27 = true then (some (x629000, x629001, x629002, false)) else ((impl_at.f x0 x629000).bind fun t634 => (if 0 ≤ t634 then (if t634 < (x0.length : Int) then (if (mx x630000 0) > ((rd_T39 x0 t634).f5) then (impl_RecGo.j1 k x0 ((rd_T39 x0 t634).f5) false x629000 x629001 x629002 ((rd_T39 x0 t634).f0) ((rd_T39 x0 t634).f1) ((rd_T39 x0 t634).f2) ((rd_T39 x0 t634).f3) ((rd_T39 x0 t634).f4) ((rd_T39 x0 t634).f5) ((rd_T39 x0 t634).f6) ((rd_T39 x0 t634).f7)) else (impl_RecGo.j1 k x0 (mx x630000 0) x630001 x629000 x629001 x629002 ((rd_T39 x0 t634).f0) ((rd_T39 x0 t634).f1) ((rd_T39 x0 t634).f2) ((rd_T39 x0 t634).f3) ((rd_T39 x0 t634).f4) ((rd_T39 x0 t634).f5) ((rd_T39 x0 t634).f6) ((rd_T39 x0 t634).f7))) else (none)) else (none)))
def impl_RecGo.j1 : Nat → List (S39) → Int → Bool → ByteArray → Int → Int → ByteArray → Int → ByteArray → ByteArray → Int → Int → ByteArray → ByteArray → Option (ByteArray × Int × Int × Bool)
 | 0, _, _, _, _, _, _, _, _, _, _, _, _, _, _ => none
 | k + 1, x0, x9, x10, x629000, x629001, x629002, x637000, x637001, x637002, x637003, x637004, x637005, x637006, x637007 => if x10 = true then (if x637001 = 3 then ((impl_bound.f k x0 x637006).bind fun t637 => (some (x637006, wrap64 (x629001 + (mx x9 x637004)), t637, true))) else ((impl_bound.f k x0 x637006).bind fun t638 => (some (x637006, wrap64 (x629001 + x9), t638, true)))) else ((impl_bound.f k x0 x637007).bind fun t639 => (some (x637007, wrap64 (x629001 + x9), t639, true)))
end
def impl_RecGo.f (k : Nat) (l0 : List (S39)) (a1_0 : ByteArray) (a1_1 : Int) (a1_2 : Int) (a2_0 : Int) (a2_1 : Bool) : Option (ByteArray × Int × Int × Bool) := (impl_RecOk.f k l0).bind fun t631 => (if t631 = true then ((impl_at.f l0 a1_0).bind fun t632 => (if t632 < 0 then (impl_RecGo.j0 k l0 true a1_0 a1_1 a1_2 a2_0 a2_1) else ((impl_in.f a1_1 0 12000).bind fun t633 => (impl_RecGo.j0 k l0 (!t633) a1_0 a1_1 a1_2 a2_0 a2_1)))) else (impl_RecGo.j0 k l0 true a1_0 a1_1 a1_2 a2_0 a2_1))
theorem impl_RecGo.mono_l : ∀ k, (∀ y0 y1 y2 y3 y4 y5 y6, LeO (impl_RecGo.j0 k y0 y1 y2 y3 y4 y5 y6) (impl_RecGo.j0 (k + 1) y0 y1 y2 y3 y4 y5 y6)) ∧ (∀ y0 y1 y2 y3 y4 y5 y6 y7 y8 y9 y10 y11 y12 y13, LeO (impl_RecGo.j1 k y0 y1 y2 y3 y4 y5 y6 y7 y8 y9 y10 y11 y12 y13) (impl_RecGo.j1 (k + 1) y0 y1 y2 y3 y4 y5 y6 y7 y8 y9 y10 y11 y12 y13))
 | 0 => ⟨fun _ _ _ _ _ _ _ r h => by simp [impl_RecGo.j0] at h, fun _ _ _ _ _ _ _ _ _ _ _ _ _ _ r h => by simp [impl_RecGo.j1] at h⟩
 | k + 1 => by
  obtain ⟨ih0, ih1⟩ := impl_RecGo.mono_l k
  refine ⟨?_, ?_⟩
  ·intro y0 y1 y2 y3 y4 y5 y6
   unfold impl_RecGo.j0
   repeat' first
   | (with_reducible exact ih0 _ _ _ _ _ _ _)
   | (with_reducible exact ih1 _ _ _ _ _ _ _ _ _ _ _ _ _ _)
   | (with_reducible exact impl_RecOk.mono _ _)
   | (with_reducible exact impl_bound.mono _ _ _)
   | (with_reducible exact LeO.refl _)
   | (with_reducible exact LeO.none _)
   | (with_reducible refine LeO.ite ?_ ?_)
   | (with_reducible refine LeO.bind ?_ (fun _ => ?_))
   | exact ih0 _ _ _ _ _ _ _
   | exact ih1 _ _ _ _ _ _ _ _ _ _ _ _ _ _
   | exact impl_RecOk.mono _ _
   | exact impl_bound.mono _ _ _
   | exact LeO.none _
   | refine LeO.ite ?_ ?_
   | refine LeO.bind ?_ (fun _ => ?_)
  ·intro y0 y1 y2 y3 y4 y5 y6 y7 y8 y9 y10 y11 y12 y13
   unfold impl_RecGo.j1
   repeat' first
   | (with_reducible exact ih0 _ _ _ _ _ _ _)
   | (with_reducible exact ih1 _ _ _ _ _ _ _ _ _ _ _ _ _ _)
   | (with_reducible exact impl_RecOk.mono _ _)
   | (with_reducible exact impl_bound.mono _ _ _)
   | (with_reducible exact LeO.refl _)
   | (with_reducible exact LeO.none _)
   | (with_reducible refine LeO.ite ?_ ?_)
   | (with_reducible refine LeO.bind ?_ (fun _ => ?_))
   | exact ih0 _ _ _ _ _ _ _
   | exact ih1 _ _ _ _ _ _ _ _ _ _ _ _ _ _
   | exact impl_RecOk.mono _ _
   | exact impl_bound.mono _ _ _
   | exact LeO.none _
   | refine LeO.ite ?_ ?_
   | refine LeO.bind ?_ (fun _ => ?_)
theorem impl_RecGo.mono : ∀ a0 a1 a2 a3 a4 a5 k, LeO (impl_RecGo.f k a0 a1 a2 a3 a4 a5) (impl_RecGo.f (k + 1) a0 a1 a2 a3 a4 a5) := by
 intro a0 a1 a2 a3 a4 a5 k
 obtain ⟨ih0, ih1⟩ := impl_RecGo.mono_l k
 unfold impl_RecGo.f
 repeat' first
   | (with_reducible exact ih0 _ _ _ _ _ _ _)
   | (with_reducible exact ih1 _ _ _ _ _ _ _ _ _ _ _ _ _ _)
   | (with_reducible exact impl_RecOk.mono _ _)
   | (with_reducible exact impl_bound.mono _ _ _)
   | (with_reducible exact LeO.refl _)
   | (with_reducible exact LeO.none _)
   | (with_reducible refine LeO.ite ?_ ?_)
   | (with_reducible refine LeO.bind ?_ (fun _ => ?_))
   | exact ih0 _ _ _ _ _ _ _
   | exact ih1 _ _ _ _ _ _ _ _ _ _ _ _ _ _
   | exact impl_RecOk.mono _ _
   | exact impl_bound.mono _ _ _
   | exact LeO.none _
   | refine LeO.ite ?_ ?_
   | refine LeO.bind ?_ (fun _ => ?_)
def impl_RecGo.T12 : Bool × List (List Nat × List Nat) := (true, [([], []), ([], []), ([1], [1]), ([], []), ([2, 3], [2, 3]), ([], []), ([], []), ([5, 6], [5, 6]), ([0, 4, 7], [0, 4, 7]), ([8, 7, 0, 1, 2, 3, 4, 5, 6, 7, 8], [8]), ([9, 0, 1, 2, 3, 4, 5, 6, 7, 8, 9], [])])
def impl_RecGo.B12 : List Nat := [0, 0, 2, 0, 14, 0, 0, 96, 255, 511, 1023]
theorem impl_RecGo.tab12 : rtab .any (opsOf Try.f28 12) = impl_RecGo.T12 := by kernel_rfl
theorem impl_RecGo.bits12 : waitsOk impl_RecGo.T12.2 impl_RecGo.B12 = true := by kernel_rfl
set_option maxHeartbeats 8000000 in
set_option maxRecDepth 100000 in
theorem impl_RecGo.calls (k : Nat) (A0 : Option Addr) (c0 : Nat) (l0 : List (S39)) (a1_0 : ByteArray) (a1_1 : Int) (a1_2 : Int) (a2_0 : Int) (a2_1 : Bool) (r1 : ByteArray) (r2 : Int) (r3 : Int) (r4 : Bool) (w : World) (hr0 : Kd.C k39 w A0 l0.length l0) (hc0 : l0.length ≤ c0) (h : impl_RecGo.f k l0 a1_0 a1_1 a1_2 a2_0 a2_1 = some (r1, r2, r3, r4)) :
  Calls Try.prog 28 #[.slice A0 l0.length c0, .agg #[.string a1_0, .int .i64 a1_1, .int .i64 a1_2], .agg #[.int .i64 a2_0, .bool a2_1]] w fun e w' => e = .returned (.tuple #[.agg #[.string r1, .int .i64 r2, .int .i64 r3], .bool r4]) ∧ Below w.heap.size w w' := by
 have hu31 := Try.underlying31
 have hu43 := Try.underlying43
 have hu39 := Try.underlying39
 have HR0 := Aside0.mk hr0
 have HC0 := Aside0.mk hc0
 clear hr0 hc0
 have HB := Aside0.mk (Below.refl w.heap.size w)
 have H : ((impl_RecOk.f k l0).bind fun t631 => (if t631 = true then ((impl_at.f l0 a1_0).bind fun t632 => (if t632 < 0 then (impl_RecGo.j0 k l0 true a1_0 a1_1 a1_2 a2_0 a2_1) else ((impl_in.f a1_1 0 12000).bind fun t633 => (impl_RecGo.j0 k l0 (!t633) a1_0 a1_1 a1_2 a2_0 a2_1)))) else (impl_RecGo.j0 k l0 true a1_0 a1_1 a1_2 a2_0 a2_1))) = some (r1, r2, r3, r4) := h
 clear h
 have HC4 := Aside0.mk H
 clear H
 go_enter Try.func28, Try.ntmps28
 go_upto_region 1 with (first | ((with_reducible refine gate_dst (N := 4) rfl ?_); refine box_event ?hg (N := 4) ?hd (cs := #[.string a1_0, .int .i64 a1_1, .int .i64 a1_2]) (t := 31) ?hr ?_; (case hd => rfl); (case hg => rfl); (case hr => first | (go_simp; done) | (go_simp; rfl)); intro gb628 hg w5 hbox hb; have t_ := And.intro (bs HB hb) <| And.intro (Aside0.mk (hbox)) <| And.intro (gh hg HB) <| (gh hg HB); clear HB; obtain ⟨HB, BK628, GW628, GE628⟩ := t_; clear hb hbox hg) | ((with_reducible refine gate_dst (N := 5) rfl ?_); refine box_event ?hg (N := 5) ?hd (cs := #[.int .i64 a2_0, .bool a2_1]) (t := 43) ?hr ?_; (case hd => rfl); (case hg => rfl); (case hr => first | (go_simp; done) | (go_simp; rfl)); intro gb629 hg w6 hbox hb; have t_ := And.intro (up BK628 hb) <| And.intro (bs HB hb) <| And.intro (Aside0.mk (hbox)) <| And.intro (gh hg HB) <| And.intro (gh hg HB) <| And.intro (nlt' hg BK628) <| (ngt' hg BK628); clear BK628 HB; obtain ⟨BK628, HB, BK629, GW629, GE629, NB628_629, NB629_628⟩ := t_; clear hb hbox hg) | ((with_reducible refine gate_dst (N := 6) rfl ?_); refine box_event ?hg (N := 6) ?hd (cs := #[.string (⟨#[]⟩ : ByteArray), .int .i64 0, .int .i64 0]) (t := 31) ?hr ?_; (case hd => rfl); (case hg => rfl); (case hr => first | (go_simp; done) | (go_simp; rfl)); intro gb630 hg w7 hbox hb; have t_ := And.intro (up BK628 hb) <| And.intro (up BK629 hb) <| And.intro (bs HB hb) <| And.intro (Aside0.mk (hbox)) <| And.intro (gh hg HB) <| And.intro (gh hg HB) <| And.intro (nlt' hg BK628) <| And.intro (ngt' hg BK628) <| And.intro (nlt' hg BK629) <| (ngt' hg BK629); clear BK628 BK629 HB; obtain ⟨BK628, BK629, HB, BK630, GW630, GE630, NB628_630, NB630_628, NB629_630, NB630_629⟩ := t_; clear hb hbox hg))
 (try simp only [Act.put, List.setIfInBounds_toArray, List.set_cons_zero, List.set_cons_succ])
 go_cut [27] (fun v27 wc => ∃ (kq : Nat) (x27_3 : Bool), v27 = .bool x27_3 ∧ Aside0 (impl_RecGo.j0 kq l0 x27_3 a1_0 a1_1 a1_2 a2_0 a2_1 = some (r1, r2, r3, r4)) ∧ Aside0 (kq ≤ k) ∧ Aside0 (wc.heap[gb628]? = some (.cells #[.string a1_0, .int .i64 a1_1, .int .i64 a1_2] 31 (0, 0))) ∧ Aside0 (wc.heap[gb629]? = some (.cells #[.int .i64 a2_0, .bool a2_1] 43 (0, 0))) ∧ Aside0 (wc.heap[gb630]? = some (.cells #[.string (⟨#[]⟩ : ByteArray), .int .i64 0, .int .i64 0] 31 (0, 0))) ∧ Aside0 (Below w.heap.size w wc))
 case first =>
  have H := HC4.out
  clear HC4
  replace H := Option.bind_eq_some_iff.mp H
  obtain ⟨t631, A80, H⟩ := H
  try dsimp only at H
  have A8 := Aside0.mk A80
  clear A80
  by_cases c9 : t631 = true
  ·subst c9
   rw [if_pos rfl] at H
   replace H := Option.bind_eq_some_iff.mp H
   obtain ⟨t632, A100, H⟩ := H
   try dsimp only at H
   have A10 := Aside0.mk A100
   clear A100
   by_cases c11 : t632 < 0
   ·rw [if_pos c11] at H
    have c11b0 : decide (t632 < 0) = true := decide_eq_true c11
    clear c11
    (first | rw [c11b0] | (simp only [i64_w, i32_w]; rw [c11b0]) | skip)
    have H' := Aside0.mk H
    clear H
    go_wp2_with (first | ((with_reducible refine gate_callee (f := 36) rfl ?_); refine goesL_ (some 13) rfl rfl Try.func36 (by kernel_rfl) rfl #[.slice A0 l0.length c0] rfl mxp ?_; (with_reducible refine (impl_RecOk.calls k _ _ l0 true _ ?side1 ?side2 A8.out).mono ?_); (case side1 => exact cx (Kd.C_below HR0.out HB.out)); (case side2 => exact HC0.out); rintro e w12 ⟨rfl, hb⟩; refine ⟨_, rfl, ?_⟩; replace BK628 := up BK628 hb; replace BK629 := up BK629 hb; replace BK630 := up BK630 hb; replace HB := bs HB hb; (try clear hb); (try clear hb2); (try clear hk); (try clear hi); have hnb13 := NB628_629.out; have hnc13 := NB629_628.out; have hnb14 := NB628_630.out; have hnc14 := NB630_628.out; have hcz15_0 := b0 BK628; have hcz15_1 := b1 BK628; have hcz15_2 := b2 BK628; have hfz15_0 := fz BK628 0; have hfz15_1 := fz BK628 1; have hfz15_2 := fz BK628 2) | (go_at_call 69; (with_reducible refine (impl_at.calls _ _ l0 a1_0 t632 _ ?side1 ?side2 A10.out).mono ?_); (case side1 => exact cx (Kd.C_below HR0.out HB.out)); (case side2 => exact HC0.out); rintro e w16 ⟨rfl, hb⟩; replace BK628 := up BK628 hb; replace BK629 := up BK629 hb; replace BK630 := up BK630 hb; replace HB := bs HB hb; (try clear hb); (try clear hb2); (try clear hk); (try clear hi)))
    go_meet
    case rel => exact ⟨_, (true), (by first | rfl | (simp; done) | (simp [*]; done)), H', ⟨by first | omega | exact Nat.le_refl _⟩, (bk BK628), (bk BK629), (bk BK630), (hbw HB)⟩
   ·rw [if_neg c11] at H
    have c11b0 : decide (t632 < 0) = false := decide_eq_false c11
    clear c11
    (first | rw [c11b0] | (simp only [i64_w, i32_w]; rw [c11b0]) | skip)
    replace H := Option.bind_eq_some_iff.mp H
    obtain ⟨t633, A170, H⟩ := H
    try dsimp only at H
    have A17 := Aside0.mk A170
    clear A170
    have H' := Aside0.mk H
    clear H
    go_wp2_with (first | ((with_reducible refine gate_callee (f := 36) rfl ?_); refine goesL_ (some 13) rfl rfl Try.func36 (by kernel_rfl) rfl #[.slice A0 l0.length c0] rfl mxp ?_; (with_reducible refine (impl_RecOk.calls k _ _ l0 true _ ?side1 ?side2 A8.out).mono ?_); (case side1 => exact cx (Kd.C_below HR0.out HB.out)); (case side2 => exact HC0.out); rintro e w18 ⟨rfl, hb⟩; refine ⟨_, rfl, ?_⟩; replace BK628 := up BK628 hb; replace BK629 := up BK629 hb; replace BK630 := up BK630 hb; replace HB := bs HB hb; (try clear hb); (try clear hb2); (try clear hk); (try clear hi); have hnb19 := NB628_629.out; have hnc19 := NB629_628.out; have hnb20 := NB628_630.out; have hnc20 := NB630_628.out; have hcz21_0 := b0 BK628; have hcz21_1 := b1 BK628; have hcz21_2 := b2 BK628; have hfz21_0 := fz BK628 0; have hfz21_1 := fz BK628 1; have hfz21_2 := fz BK628 2) | (go_at_call 69; (with_reducible refine (impl_at.calls _ _ l0 a1_0 t632 _ ?side1 ?side2 A10.out).mono ?_); (case side1 => exact cx (Kd.C_below HR0.out HB.out)); (case side2 => exact HC0.out); rintro e w22 ⟨rfl, hb⟩; replace BK628 := up BK628 hb; replace BK629 := up BK629 hb; replace BK630 := up BK630 hb; replace HB := bs HB hb; (try clear hb); (try clear hb2); (try clear hk); (try clear hi); have hcz23_0 := b0 BK628; have hcz23_1 := b1 BK628; have hcz23_2 := b2 BK628; have hfz23_0 := fz BK628 0; have hfz23_1 := fz BK628 1; have hfz23_2 := fz BK628 2) | (go_at_call 68; (with_reducible refine (impl_in.calls a1_1 0 12000 t633 _ A17.out).mono ?_); rintro e w' ⟨rfl, ⟨nd, rfl⟩⟩))
    go_meet
    case rel => exact ⟨_, (!t633), (by first | rfl | (simp; done) | (simp [*]; done)), H', ⟨by first | omega | exact Nat.le_refl _⟩, (bk BK628), (bk BK629), (bk BK630), (hbw HB)⟩
  ·replace c9 := Bool.eq_false_iff.mpr c9
   subst c9
   rw [if_neg (show ¬ (false = true) by decide)] at H
   have H' := Aside0.mk H
   clear H
   go_wp2_with (first | ((with_reducible refine gate_callee (f := 36) rfl ?_); refine goesL_ (some 13) rfl rfl Try.func36 (by kernel_rfl) rfl #[.slice A0 l0.length c0] rfl mxp ?_; (with_reducible refine (impl_RecOk.calls k _ _ l0 false _ ?side1 ?side2 A8.out).mono ?_); (case side1 => exact cx (Kd.C_below HR0.out HB.out)); (case side2 => exact HC0.out); rintro e w24 ⟨rfl, hb⟩; refine ⟨_, rfl, ?_⟩; replace BK628 := up BK628 hb; replace BK629 := up BK629 hb; replace BK630 := up BK630 hb; replace HB := bs HB hb; (try clear hb); (try clear hb2); (try clear hk); (try clear hi)))
   go_meet
   case rel => exact ⟨_, (true), (by first | rfl | (simp; done) | (simp [*]; done)), H', ⟨by first | omega | exact Nat.le_refl _⟩, (bk BK628), (bk BK629), (bk BK630), (hbw HB)⟩
 case rest =>
  clear HC4
  obtain ⟨kq, x27_3, rfl, HA, HJ3, BK628, BK629, BK630, HB⟩ := hcut
  cases kq with
  | zero => exact absurd HA.out (by simp [impl_RecGo.j0])
  | succ kj3 =>
   have H := HA.out
   clear HA
   simp only [impl_RecGo.j0] at H
   by_cases c25 : x27_3 = true
   ·subst c25
    rw [if_pos rfl] at H
    simp only [Option.some.injEq, Prod.mk.injEq] at H
    obtain ⟨rfl, rfl, rfl, rfl⟩ := H
    have hnb26 := NB628_629.out
    have hnc26 := NB629_628.out
    have hnb27 := NB628_630.out
    have hnc27 := NB630_628.out
    have hcz28_0 := b0 BK628
    have hcz28_1 := b1 BK628
    have hcz28_2 := b2 BK628
    have hfz28_0 := fz BK628 0
    have hfz28_1 := fz BK628 1
    have hfz28_2 := fz BK628 2
    have hnb29 := NB630_629.out
    have hnc29 := NB629_630.out
    have hcz30_0 := b0 BK630
    have hcz30_1 := b1 BK630
    have hcz30_2 := b2 BK630
    have hfz30_0 := fz BK630 0
    have hfz30_1 := fz BK630 1
    have hfz30_2 := fz BK630 2
    go_wp2
    refine bodyPost_ret (results_ct rfl _ _ gb630 31 #[.string a1_0, .int .i64 a1_1, .int .i64 a1_2] (0, 0) _ rfl (by refine bx ?_; refine blk_put (cs := #[.string a1_0, .int .i64 a1_1, .int .i64 0]) ?_ 2 _ rfl; refine bx ?_; refine blk_put (cs := #[.string a1_0, .int .i64 0, .int .i64 0]) ?_ 1 _ rfl; refine bx ?_; refine blk_put (cs := #[.string (⟨#[]⟩ : ByteArray), .int .i64 0, .int .i64 0]) ?_ 0 _ rfl; refine bx ?_; exact BK630.out) Try.underlying31 rfl (by kernel_rfl)) rfl ?_
    exact ⟨exq, bw HB.out⟩
   ·replace c25 := Bool.eq_false_iff.mpr c25
    subst c25
    rw [if_neg (show ¬ (false = true) by decide)] at H
    replace H := Option.bind_eq_some_iff.mp H
    obtain ⟨t634, A310, H⟩ := H
    try dsimp only at H
    have A31 := Aside0.mk A310
    clear A310
    by_cases c32 : 0 ≤ t634
    ·rw [if_pos c32] at H
     have c32b0 : decide (0 ≤ t634) = true := decide_eq_true c32
     clear c32
     by_cases c33 : t634 < (l0.length : Int)
     ·rw [if_pos c33] at H
      have c33b0 : decide (t634 < (l0.length : Int)) = true := decide_eq_true c33
      clear c33
      obtain ⟨ji34, hji34⟩ : ∃ j_ : Int, (mx a2_0 0) = j_ := ⟨_, rfl⟩
      replace H : (if (ji34) > ((rd_T39 l0 t634).f5) then (impl_RecGo.j1 kj3 l0 ((rd_T39 l0 t634).f5) false a1_0 a1_1 a1_2 ((rd_T39 l0 t634).f0) ((rd_T39 l0 t634).f1) ((rd_T39 l0 t634).f2) ((rd_T39 l0 t634).f3) ((rd_T39 l0 t634).f4) ((rd_T39 l0 t634).f5) ((rd_T39 l0 t634).f6) ((rd_T39 l0 t634).f7)) else (impl_RecGo.j1 kj3 l0 ji34 a2_1 a1_0 a1_1 a1_2 ((rd_T39 l0 t634).f0) ((rd_T39 l0 t634).f1) ((rd_T39 l0 t634).f2) ((rd_T39 l0 t634).f3) ((rd_T39 l0 t634).f4) ((rd_T39 l0 t634).f5) ((rd_T39 l0 t634).f6) ((rd_T39 l0 t634).f7))) = some (r1, r2, r3, r4) := by first | (rw [hji34] at H; exact H) | (simp only [hji34] at H ⊢; exact H)
      (try rw [hji34] at A31)
      have hji34_ : (if a2_0 < 0 then 0 else a2_0) = ji34 := hji34
      have HC35 := Aside0.mk H
      clear H
      have hnb36 := NB628_629.out
      have hnc36 := NB629_628.out
      have hnb37 := NB628_630.out
      have hnc37 := NB630_628.out
      have hcz38_0 := b0 BK628
      have hcz38_1 := b1 BK628
      have hcz38_2 := b2 BK628
      have hfz38_0 := fz BK628 0
      have hfz38_1 := fz BK628 1
      have hfz38_2 := fz BK628 2
      try go_wp2_with (first | ((with_reducible refine gate_callee (f := 69) rfl ?_); refine goesL_ (some 33) rfl rfl Try.func69 (by kernel_rfl) rfl #[.slice A0 l0.length c0, .string a1_0] rfl mxp ?_; (with_reducible refine (impl_at.calls _ _ l0 a1_0 t634 _ ?side1 ?side2 A31.out).mono ?_); (case side1 => exact cx (Kd.C_below HR0.out HB.out)); (case side2 => exact HC0.out); rintro e w39 ⟨rfl, hb⟩; refine ⟨_, rfl, ?_⟩; replace BK628 := up BK628 hb; replace BK629 := up BK629 hb; replace BK630 := up BK630 hb; replace HB := bs HB hb; (try clear hb); (try clear hb2); (try clear hk); (try clear hi); have p635 : 0 ≤ (t634 : Int) := oda; have q635 : t634 < (l0.length : Int) := oda; obtain ⟨ad635, e635, hx635_0, hx635_1, hx635_2, hx635_3, hx635_4, hx635_5, hx635_6, hx635_7⟩ := at_T39 HR0.out t634 p635 q635; cases e635; replace hx635_0 := bcl HB hx635_0; replace hx635_1 := bcl HB hx635_1; replace hx635_2 := bcl HB hx635_2; replace hx635_3 := bcl HB hx635_3; replace hx635_4 := bcl HB hx635_4; replace hx635_5 := bcl HB hx635_5; replace hx635_6 := bcl HB hx635_6; replace hx635_7 := bcl HB hx635_7; replace p635 := eq_true p635; replace q635 := eq_true q635) | ((with_reducible refine gate_dst (N := 8) rfl ?_); refine box_event ?hg (N := 8) ?hd (cs := #[.string (⟨#[]⟩ : ByteArray), .int .i64 0, .string (⟨#[]⟩ : ByteArray), .string (⟨#[]⟩ : ByteArray), .int .i64 0, .int .i64 0, .string (⟨#[]⟩ : ByteArray), .string (⟨#[]⟩ : ByteArray)]) (t := 39) ?hr ?_; (case hd => rfl); (case hg => rfl); (case hr => first | (go_simp; done) | (go_simp; rfl)); intro gb636 hg w40 hbox hb; have t_ := And.intro (up BK628 hb) <| And.intro (up BK629 hb) <| And.intro (up BK630 hb) <| And.intro (bs HB hb) <| And.intro (Aside0.mk (hbox)) <| And.intro (gh hg HB) <| And.intro (gh hg HB) <| And.intro (nlt' hg BK628) <| And.intro (ngt' hg BK628) <| And.intro (nlt' hg BK629) <| And.intro (ngt' hg BK629) <| And.intro (nlt' hg BK630) <| (ngt' hg BK630); clear BK628 BK629 BK630 HB; obtain ⟨BK628, BK629, BK630, HB, BK636, GW636, GE636, NB628_636, NB636_628, NB629_636, NB636_629, NB630_636, NB636_630⟩ := t_; clear hb hbox hg; have hnb41 := NB636_628.out; have hnc41 := NB628_636.out; have hnb42 := NB636_629.out; have hnc42 := NB629_636.out; have hnb43 := NB636_630.out; have hnc43 := NB630_636.out; have hcz44_0 := b0 BK636; have hcz44_1 := b1 BK636; have hcz44_2 := b2 BK636; have hcz44_3 := b3 BK636; have hcz44_4 := b4 BK636; have hcz44_5 := b5 BK636; have hcz44_6 := b6 BK636; have hcz44_7 := b7 BK636; have hfz44_0 := fz BK636 0; have hfz44_1 := fz BK636 1; have hfz44_2 := fz BK636 2; have hfz44_3 := fz BK636 3; have hfz44_4 := fz BK636 4; have hfz44_5 := fz BK636 5; have hfz44_6 := fz BK636 6; have hfz44_7 := fz BK636 7))
      have n0_ : Aside0 (((((((((w40.setCell ⟨gb636, 0, none⟩ (.string ((rd_T39 l0 t634).f0))).setCell ⟨gb636, 1, none⟩ (.int .i64 ((rd_T39 l0 t634).f1))).setCell ⟨gb636, 2, none⟩ (.string ((rd_T39 l0 t634).f2))).setCell ⟨gb636, 3, none⟩ (.string ((rd_T39 l0 t634).f3))).setCell ⟨gb636, 4, none⟩ (.int .i64 ((rd_T39 l0 t634).f4))).setCell ⟨gb636, 5, none⟩ (.int .i64 ((rd_T39 l0 t634).f5))).setCell ⟨gb636, 6, none⟩ (.string ((rd_T39 l0 t634).f6))).setCell ⟨gb636, 7, none⟩ (.string ((rd_T39 l0 t634).f7))).heap[gb628]? = some (.cells #[.string a1_0, .int .i64 a1_1, .int .i64 a1_2] 31 (0, 0))) := ⟨by refine bx ?_; refine blk_far ?_ NB628_636.out _; refine bx ?_; refine blk_far ?_ NB628_636.out _; refine bx ?_; refine blk_far ?_ NB628_636.out _; refine bx ?_; refine blk_far ?_ NB628_636.out _; refine bx ?_; refine blk_far ?_ NB628_636.out _; refine bx ?_; refine blk_far ?_ NB628_636.out _; refine bx ?_; refine blk_far ?_ NB628_636.out _; refine bx ?_; refine blk_far ?_ NB628_636.out _; refine bx ?_; exact BK628.out⟩
      have n1_ : Aside0 (((((((((w40.setCell ⟨gb636, 0, none⟩ (.string ((rd_T39 l0 t634).f0))).setCell ⟨gb636, 1, none⟩ (.int .i64 ((rd_T39 l0 t634).f1))).setCell ⟨gb636, 2, none⟩ (.string ((rd_T39 l0 t634).f2))).setCell ⟨gb636, 3, none⟩ (.string ((rd_T39 l0 t634).f3))).setCell ⟨gb636, 4, none⟩ (.int .i64 ((rd_T39 l0 t634).f4))).setCell ⟨gb636, 5, none⟩ (.int .i64 ((rd_T39 l0 t634).f5))).setCell ⟨gb636, 6, none⟩ (.string ((rd_T39 l0 t634).f6))).setCell ⟨gb636, 7, none⟩ (.string ((rd_T39 l0 t634).f7))).heap[gb629]? = some (.cells #[.int .i64 a2_0, .bool a2_1] 43 (0, 0))) := ⟨by refine bx ?_; refine blk_far ?_ NB629_636.out _; refine bx ?_; refine blk_far ?_ NB629_636.out _; refine bx ?_; refine blk_far ?_ NB629_636.out _; refine bx ?_; refine blk_far ?_ NB629_636.out _; refine bx ?_; refine blk_far ?_ NB629_636.out _; refine bx ?_; refine blk_far ?_ NB629_636.out _; refine bx ?_; refine blk_far ?_ NB629_636.out _; refine bx ?_; refine blk_far ?_ NB629_636.out _; refine bx ?_; exact BK629.out⟩
      have n2_ : Aside0 (((((((((w40.setCell ⟨gb636, 0, none⟩ (.string ((rd_T39 l0 t634).f0))).setCell ⟨gb636, 1, none⟩ (.int .i64 ((rd_T39 l0 t634).f1))).setCell ⟨gb636, 2, none⟩ (.string ((rd_T39 l0 t634).f2))).setCell ⟨gb636, 3, none⟩ (.string ((rd_T39 l0 t634).f3))).setCell ⟨gb636, 4, none⟩ (.int .i64 ((rd_T39 l0 t634).f4))).setCell ⟨gb636, 5, none⟩ (.int .i64 ((rd_T39 l0 t634).f5))).setCell ⟨gb636, 6, none⟩ (.string ((rd_T39 l0 t634).f6))).setCell ⟨gb636, 7, none⟩ (.string ((rd_T39 l0 t634).f7))).heap[gb630]? = some (.cells #[.string (⟨#[]⟩ : ByteArray), .int .i64 0, .int .i64 0] 31 (0, 0))) := ⟨by refine bx ?_; refine blk_far ?_ NB630_636.out _; refine bx ?_; refine blk_far ?_ NB630_636.out _; refine bx ?_; refine blk_far ?_ NB630_636.out _; refine bx ?_; refine blk_far ?_ NB630_636.out _; refine bx ?_; refine blk_far ?_ NB630_636.out _; refine bx ?_; refine blk_far ?_ NB630_636.out _; refine bx ?_; refine blk_far ?_ NB630_636.out _; refine bx ?_; refine blk_far ?_ NB630_636.out _; refine bx ?_; exact BK630.out⟩
      have n3_ : Aside0 (((((((((w40.setCell ⟨gb636, 0, none⟩ (.string ((rd_T39 l0 t634).f0))).setCell ⟨gb636, 1, none⟩ (.int .i64 ((rd_T39 l0 t634).f1))).setCell ⟨gb636, 2, none⟩ (.string ((rd_T39 l0 t634).f2))).setCell ⟨gb636, 3, none⟩ (.string ((rd_T39 l0 t634).f3))).setCell ⟨gb636, 4, none⟩ (.int .i64 ((rd_T39 l0 t634).f4))).setCell ⟨gb636, 5, none⟩ (.int .i64 ((rd_T39 l0 t634).f5))).setCell ⟨gb636, 6, none⟩ (.string ((rd_T39 l0 t634).f6))).setCell ⟨gb636, 7, none⟩ (.string ((rd_T39 l0 t634).f7))).heap[gb636]? = some (.cells #[.string ((rd_T39 l0 t634).f0), .int .i64 ((rd_T39 l0 t634).f1), .string ((rd_T39 l0 t634).f2), .string ((rd_T39 l0 t634).f3), .int .i64 ((rd_T39 l0 t634).f4), .int .i64 ((rd_T39 l0 t634).f5), .string ((rd_T39 l0 t634).f6), .string ((rd_T39 l0 t634).f7)] 39 (0, 0))) := ⟨by refine bx ?_; refine blk_put (cs := #[.string ((rd_T39 l0 t634).f0), .int .i64 ((rd_T39 l0 t634).f1), .string ((rd_T39 l0 t634).f2), .string ((rd_T39 l0 t634).f3), .int .i64 ((rd_T39 l0 t634).f4), .int .i64 ((rd_T39 l0 t634).f5), .string ((rd_T39 l0 t634).f6), .string (⟨#[]⟩ : ByteArray)]) ?_ 7 _ rfl; refine bx ?_; refine blk_put (cs := #[.string ((rd_T39 l0 t634).f0), .int .i64 ((rd_T39 l0 t634).f1), .string ((rd_T39 l0 t634).f2), .string ((rd_T39 l0 t634).f3), .int .i64 ((rd_T39 l0 t634).f4), .int .i64 ((rd_T39 l0 t634).f5), .string (⟨#[]⟩ : ByteArray), .string (⟨#[]⟩ : ByteArray)]) ?_ 6 _ rfl; refine bx ?_; refine blk_put (cs := #[.string ((rd_T39 l0 t634).f0), .int .i64 ((rd_T39 l0 t634).f1), .string ((rd_T39 l0 t634).f2), .string ((rd_T39 l0 t634).f3), .int .i64 ((rd_T39 l0 t634).f4), .int .i64 0, .string (⟨#[]⟩ : ByteArray), .string (⟨#[]⟩ : ByteArray)]) ?_ 5 _ rfl; refine bx ?_; refine blk_put (cs := #[.string ((rd_T39 l0 t634).f0), .int .i64 ((rd_T39 l0 t634).f1), .string ((rd_T39 l0 t634).f2), .string ((rd_T39 l0 t634).f3), .int .i64 0, .int .i64 0, .string (⟨#[]⟩ : ByteArray), .string (⟨#[]⟩ : ByteArray)]) ?_ 4 _ rfl; refine bx ?_; refine blk_put (cs := #[.string ((rd_T39 l0 t634).f0), .int .i64 ((rd_T39 l0 t634).f1), .string ((rd_T39 l0 t634).f2), .string (⟨#[]⟩ : ByteArray), .int .i64 0, .int .i64 0, .string (⟨#[]⟩ : ByteArray), .string (⟨#[]⟩ : ByteArray)]) ?_ 3 _ rfl; refine bx ?_; refine blk_put (cs := #[.string ((rd_T39 l0 t634).f0), .int .i64 ((rd_T39 l0 t634).f1), .string (⟨#[]⟩ : ByteArray), .string (⟨#[]⟩ : ByteArray), .int .i64 0, .int .i64 0, .string (⟨#[]⟩ : ByteArray), .string (⟨#[]⟩ : ByteArray)]) ?_ 2 _ rfl; refine bx ?_; refine blk_put (cs := #[.string ((rd_T39 l0 t634).f0), .int .i64 0, .string (⟨#[]⟩ : ByteArray), .string (⟨#[]⟩ : ByteArray), .int .i64 0, .int .i64 0, .string (⟨#[]⟩ : ByteArray), .string (⟨#[]⟩ : ByteArray)]) ?_ 1 _ rfl; refine bx ?_; refine blk_put (cs := #[.string (⟨#[]⟩ : ByteArray), .int .i64 0, .string (⟨#[]⟩ : ByteArray), .string (⟨#[]⟩ : ByteArray), .int .i64 0, .int .i64 0, .string (⟨#[]⟩ : ByteArray), .string (⟨#[]⟩ : ByteArray)]) ?_ 0 _ rfl; refine bx ?_; exact BK636.out⟩
      have n4_ : Aside0 (Below w.heap.size w ((((((((w40.setCell ⟨gb636, 0, none⟩ (.string ((rd_T39 l0 t634).f0))).setCell ⟨gb636, 1, none⟩ (.int .i64 ((rd_T39 l0 t634).f1))).setCell ⟨gb636, 2, none⟩ (.string ((rd_T39 l0 t634).f2))).setCell ⟨gb636, 3, none⟩ (.string ((rd_T39 l0 t634).f3))).setCell ⟨gb636, 4, none⟩ (.int .i64 ((rd_T39 l0 t634).f4))).setCell ⟨gb636, 5, none⟩ (.int .i64 ((rd_T39 l0 t634).f5))).setCell ⟨gb636, 6, none⟩ (.string ((rd_T39 l0 t634).f6))).setCell ⟨gb636, 7, none⟩ (.string ((rd_T39 l0 t634).f7)))) := (hbw HB)
      (try clear BK628)
      (try clear BK629)
      (try clear BK630)
      (try clear BK636)
      (try clear HB)
      generalize ((((((((w40.setCell ⟨gb636, 0, none⟩ (.string ((rd_T39 l0 t634).f0))).setCell ⟨gb636, 1, none⟩ (.int .i64 ((rd_T39 l0 t634).f1))).setCell ⟨gb636, 2, none⟩ (.string ((rd_T39 l0 t634).f2))).setCell ⟨gb636, 3, none⟩ (.string ((rd_T39 l0 t634).f3))).setCell ⟨gb636, 4, none⟩ (.int .i64 ((rd_T39 l0 t634).f4))).setCell ⟨gb636, 5, none⟩ (.int .i64 ((rd_T39 l0 t634).f5))).setCell ⟨gb636, 6, none⟩ (.string ((rd_T39 l0 t634).f6))).setCell ⟨gb636, 7, none⟩ (.string ((rd_T39 l0 t634).f7))) = w45 at n0_ n1_ n2_ n3_ n4_ ⊢
      have BK628 := n0_
      have BK629 := n1_
      have BK630 := n2_
      have BK636 := n3_
      have HB := n4_
      clear n0_ n1_ n2_ n3_ n4_
      have n0_ := Aside0.mk (blk_drew BK628.out)
      have n1_ := Aside0.mk (blk_drew BK629.out)
      have n2_ := Aside0.mk (blk_drew BK630.out)
      have n3_ := Aside0.mk (blk_drew BK636.out)
      have n4_ := Aside0.mk (below_drew1 HB.out)
      clear BK628
      clear BK629
      clear BK630
      clear BK636
      clear HB
      have BK628 := n0_
      have BK629 := n1_
      have BK630 := n2_
      have BK636 := n3_
      have HB := n4_
      clear n0_ n1_ n2_ n3_ n4_
      refine start_ (n := 7) (S := fun w' => w'.cell? ⟨gb629, 0, none⟩ = some (.int .i64 a2_0) ∧ w'.cell? ⟨gb629, 1, none⟩ = some (.bool a2_1)) (ds := []) (lb 7 0) (by kernel_rfl) rfl rfl ⟨(blk_cell BK629.out 0).trans rfl, (blk_cell BK629.out 1).trans rfl⟩ (fun hHeld => ?_)
      generalize w45.drew = w46 at BK628 BK629 BK630 BK636 HB hHeld ⊢
      refine pure_ (i := 0) (N := some 36) (v := ?_) (a' := ?_) (lb 7 1) rfl rfl (by kernel_rfl) (fun _ _ _ h => h) (Or.inl ⟨by rfl, ?_⟩) ?_ ?_
      rotate_left
      ·intro w'
       go_simp
       with_reducible rfl
      rotate_left
      ·simp only [Act.put, List.setIfInBounds_toArray, List.set_cons_zero, List.set_cons_succ, i64_w, i32_w]
       rfl
      refine pure_ (i := 3) (N := some 39) (v := ?_) (a' := ?_) (lb 7 9) rfl rfl (by kernel_rfl) (fun _ _ _ h => h) (Or.inl ⟨by rfl, ?_⟩) ?_ ?_
      rotate_left
      ·intro w'
       go_simp
       with_reducible rfl
      rotate_left
      ·simp only [Act.put, List.setIfInBounds_toArray, List.set_cons_zero, List.set_cons_succ, i64_w, i32_w]
       rfl
      refine take_ (i := 1) (N := some 37) (v := ?_) (a' := ?_) (lb 7 11) rfl rfl (by kernel_rfl) (fun _ _ _ h => h) (Or.inl ⟨by rfl, ?_⟩) hHeld ?_ ?_
      rotate_left
      ·rintro w' ⟨s0, s1⟩
       go_simp
       with_reducible rfl
      rotate_left
      ·simp only [Act.put, List.setIfInBounds_toArray, List.set_cons_zero, List.set_cons_succ, i64_w, i32_w]
       rfl
      refine pure_ (i := 2) (N := some 38) (v := ?_) (a' := ?_) (lb 7 15) rfl rfl (by kernel_rfl) (fun _ _ _ h => h) (Or.inl ⟨by rfl, ?_⟩) ?_ ?_
      rotate_left
      ·intro w'
       go_simp
       with_reducible rfl
      rotate_left
      ·simp only [Act.put, List.setIfInBounds_toArray, List.set_cons_zero, List.set_cons_succ, i64_w, i32_w]
       rfl
      refine pure_ (i := 5) (N := some 9) (v := ?_) (a' := ?_) (lb 7 47) rfl rfl (by kernel_rfl) (fun _ _ _ h => h) (Or.inl ⟨by rfl, ?_⟩) ?_ ?_
      rotate_left
      ·intro w'
       go_simp
       with_reducible rfl
      rotate_left
      ·simp only [Act.put, List.setIfInBounds_toArray, List.set_cons_zero, List.set_cons_succ, i64_w, i32_w]
       rfl
      refine take_ (i := 4) (N := some 40) (v := ?_) (a' := ?_) (lb 7 63) rfl rfl (by kernel_rfl) (fun _ _ _ h => h) (Or.inl ⟨by rfl, ?_⟩) hHeld ?_ ?_
      rotate_left
      ·rintro w' ⟨s0, s1⟩
       go_simp
       with_reducible rfl
      rotate_left
      ·simp only [Act.put, List.setIfInBounds_toArray, List.set_cons_zero, List.set_cons_succ, i64_w, i32_w]
       rfl
      refine pure_ (i := 6) (N := some 10) (v := ?_) (a' := ?_) (lb 7 127) rfl rfl (by kernel_rfl) (fun _ _ _ h => h) (Or.inl ⟨by rfl, ?_⟩) ?_ ?_
      rotate_left
      ·intro w'
       go_simp
       with_reducible rfl
      rotate_left
      ·simp only [Act.put, List.setIfInBounds_toArray, List.set_cons_zero, List.set_cons_succ, i64_w, i32_w]
       rfl
      refine done_ (by kernel_rfl) ?_
      have hcz47_0 := b0 BK636
      have hcz47_1 := b1 BK636
      have hcz47_2 := b2 BK636
      have hcz47_3 := b3 BK636
      have hcz47_4 := b4 BK636
      have hcz47_5 := b5 BK636
      have hcz47_6 := b6 BK636
      have hcz47_7 := b7 BK636
      have hfz47_0 := fz BK636 0
      have hfz47_1 := fz BK636 1
      have hfz47_2 := fz BK636 2
      have hfz47_3 := fz BK636 3
      have hfz47_4 := fz BK636 4
      have hfz47_5 := fz BK636 5
      have hfz47_6 := fz BK636 6
      have hfz47_7 := fz BK636 7
      go_upto_if 44 with (fail)
      go_cut [9, 10] (fun v9 v10 wc => ∃ (kq : Nat) (x9_34 : Int) (x10_34 : Bool), v9 = .int .i64 x9_34 ∧ v10 = .bool x10_34 ∧ Aside0 (impl_RecGo.j1 kq l0 x9_34 x10_34 a1_0 a1_1 a1_2 ((rd_T39 l0 t634).f0) ((rd_T39 l0 t634).f1) ((rd_T39 l0 t634).f2) ((rd_T39 l0 t634).f3) ((rd_T39 l0 t634).f4) ((rd_T39 l0 t634).f5) ((rd_T39 l0 t634).f6) ((rd_T39 l0 t634).f7) = some (r1, r2, r3, r4)) ∧ Aside0 (kq ≤ kj3) ∧ Aside0 (wc.heap[gb628]? = some (.cells #[.string a1_0, .int .i64 a1_1, .int .i64 a1_2] 31 (0, 0))) ∧ Aside0 (wc.heap[gb629]? = some (.cells #[.int .i64 a2_0, .bool a2_1] 43 (0, 0))) ∧ Aside0 (wc.heap[gb630]? = some (.cells #[.string (⟨#[]⟩ : ByteArray), .int .i64 0, .int .i64 0] 31 (0, 0))) ∧ Aside0 (wc.heap[gb636]? = some (.cells #[.string ((rd_T39 l0 t634).f0), .int .i64 ((rd_T39 l0 t634).f1), .string ((rd_T39 l0 t634).f2), .string ((rd_T39 l0 t634).f3), .int .i64 ((rd_T39 l0 t634).f4), .int .i64 ((rd_T39 l0 t634).f5), .string ((rd_T39 l0 t634).f6), .string ((rd_T39 l0 t634).f7)] 39 (0, 0))) ∧ Aside0 (Below w.heap.size w wc))
      case first =>
       have H := HC35.out
       clear HC35
       by_cases c48 : (ji34) > ((rd_T39 l0 t634).f5)
       ·rw [if_pos c48] at H
        have c48b0 : decide (((rd_T39 l0 t634).f5) < (ji34)) = true := decide_eq_true c48
        clear c48
        (first | rw [c48b0] | (simp only [i64_w, i32_w]; rw [c48b0]) | skip)
        have H' := Aside0.mk H
        clear H
        have hnb49 := NB636_628.out
        have hnc49 := NB628_636.out
        have hnb50 := NB636_629.out
        have hnc50 := NB629_636.out
        have hnb51 := NB636_630.out
        have hnc51 := NB630_636.out
        have hcz52_0 := b0 BK636
        have hcz52_1 := b1 BK636
        have hcz52_2 := b2 BK636
        have hcz52_3 := b3 BK636
        have hcz52_4 := b4 BK636
        have hcz52_5 := b5 BK636
        have hcz52_6 := b6 BK636
        have hcz52_7 := b7 BK636
        have hfz52_0 := fz BK636 0
        have hfz52_1 := fz BK636 1
        have hfz52_2 := fz BK636 2
        have hfz52_3 := fz BK636 3
        have hfz52_4 := fz BK636 4
        have hfz52_5 := fz BK636 5
        have hfz52_6 := fz BK636 6
        have hfz52_7 := fz BK636 7
        go_wp2
        go_meet
        case rel => exact ⟨_, ((rd_T39 l0 t634).f5), (false), (by first | rfl | (simp; done) | (simp [*]; done)), (by first | rfl | (simp; done) | (simp [*]; done)), H', ⟨by have := HJ3.out; first | omega | exact Nat.le_refl _⟩, (bk BK628), (bk BK629), (bk BK630), (bk BK636), (hbw HB)⟩
       ·rw [if_neg c48] at H
        have c48b0 : decide (((rd_T39 l0 t634).f5) < (ji34)) = false := decide_eq_false c48
        clear c48
        (first | rw [c48b0] | (simp only [i64_w, i32_w]; rw [c48b0]) | skip)
        have H' := Aside0.mk H
        clear H
        go_wp2
        go_meet
        case rel => exact ⟨_, (ji34), (a2_1), (by first | rfl | (simp; done) | (simp only [← hji34] <;> (first | rfl | simp)) | (simp [*]; done)), (by first | rfl | (simp; done) | (simp [*]; done)), H', ⟨by have := HJ3.out; first | omega | exact Nat.le_refl _⟩, (bk BK628), (bk BK629), (bk BK630), (bk BK636), (hbw HB)⟩
      case rest =>
       clear HC35
       obtain ⟨kq, x9_34, x10_34, rfl, rfl, HA, HJ34, BK628, BK629, BK630, BK636, HB⟩ := hcut
       cases kq with
       | zero => exact absurd HA.out (by simp [impl_RecGo.j1])
       | succ kj34 =>
        have H := HA.out
        clear HA
        simp only [impl_RecGo.j1] at H
        by_cases c53 : x10_34 = true
        ·subst c53
         rw [if_pos rfl] at H
         by_cases c54 : ((rd_T39 l0 t634).f1) = 3
         ·rw [if_pos c54] at H
          have c54b0 : (((rd_T39 l0 t634).f1) == 3) = true := beq_iff_eq.mpr c54
          have c54b1 : (((rd_T39 l0 t634).f1) != 3) = false := bne_eq_false_iff_eq.mpr c54
          clear c54
          obtain ⟨ji55, hji55⟩ : ∃ j_ : Int, (mx x9_34 ((rd_T39 l0 t634).f4)) = j_ := ⟨_, rfl⟩
          replace H : ((impl_bound.f kj34 l0 ((rd_T39 l0 t634).f6)).bind fun t637 => (some (((rd_T39 l0 t634).f6), wrap64 (a1_1 + (ji55)), t637, true))) = some (r1, r2, r3, r4) := by first | (rw [hji55] at H; exact H) | (simp only [hji55] at H ⊢; exact H)
          have hji55_ : (if x9_34 < ((rd_T39 l0 t634).f4) then ((rd_T39 l0 t634).f4) else x9_34) = ji55 := hji55
          replace H := Option.bind_eq_some_iff.mp H
          obtain ⟨t637, A560, H⟩ := H
          try dsimp only at H
          have A56 := Aside0.mk A560
          clear A560
          simp only [Option.some.injEq, Prod.mk.injEq] at H
          obtain ⟨rfl, rfl, rfl, rfl⟩ := H
          have hnb57 := NB636_628.out
          have hnc57 := NB628_636.out
          have hnb58 := NB636_629.out
          have hnc58 := NB629_636.out
          have hnb59 := NB636_630.out
          have hnc59 := NB630_636.out
          have hcz60_0 := b0 BK636
          have hcz60_1 := b1 BK636
          have hcz60_2 := b2 BK636
          have hcz60_3 := b3 BK636
          have hcz60_4 := b4 BK636
          have hcz60_5 := b5 BK636
          have hcz60_6 := b6 BK636
          have hcz60_7 := b7 BK636
          have hfz60_0 := fz BK636 0
          have hfz60_1 := fz BK636 1
          have hfz60_2 := fz BK636 2
          have hfz60_3 := fz BK636 3
          have hfz60_4 := fz BK636 4
          have hfz60_5 := fz BK636 5
          have hfz60_6 := fz BK636 6
          have hfz60_7 := fz BK636 7
          try go_wp2
          have n0_ := Aside0.mk (blk_drew BK628.out)
          have n1_ := Aside0.mk (blk_drew BK629.out)
          have n2_ := Aside0.mk (blk_drew BK630.out)
          have n3_ := Aside0.mk (blk_drew BK636.out)
          have n4_ := Aside0.mk (below_drew1 HB.out)
          clear BK628
          clear BK629
          clear BK630
          clear BK636
          clear HB
          have BK628 := n0_
          have BK629 := n1_
          have BK630 := n2_
          have BK636 := n3_
          have HB := n4_
          clear n0_ n1_ n2_ n3_ n4_
          refine start_ (n := 11) (S := fun w' => w'.cell? ⟨gb628, 0, none⟩ = some (.string a1_0) ∧ w'.cell? ⟨gb628, 1, none⟩ = some (.int .i64 a1_1) ∧ w'.cell? ⟨gb628, 2, none⟩ = some (.int .i64 a1_2)) (ds := []) (lb 11 0) (by kernel_rfl) rfl rfl ⟨(blk_cell BK628.out 0).trans rfl, (blk_cell BK628.out 1).trans rfl, (blk_cell BK628.out 2).trans rfl⟩ (fun hHeld => ?_); refine with_tabW impl_RecGo.tab12 impl_RecGo.bits12 (fun HT_ HW_ => ?_)
          generalize wc.drew = w61 at BK628 BK629 BK630 BK636 HB hHeld ⊢
          refine pw HT_ 0 (some 59) (lb 11 1) ?_
          refine pw HT_ 1 (some 60) (lb 11 3) ?_
          refine pw HT_ 3 (some 62) (lb 11 11) ?_
          refine pw HT_ 5 (some 64) (lb 11 43) ?_
          refine pw HT_ 6 (some 65) (lb 11 107) ?_
          refine tw HT_ HW_ hHeld 2 (some 61) (lb 11 111) ?_
          refine pw HT_ 4 (some 63) (lb 11 127) ?_
          refine one_ (i := 7) (N := some 66) (lb 11 255) rfl rfl (one_of HT_.out (by kernel_rfl)) (by decide) (fun K hK => ?_)
          refine goes_ Try.func71 (by kernel_rfl) rfl #[.slice (some ad635) l0.length c0, .string ((rd_T39 l0 t634).f6)] (by rfl) rfl rfl mxp ?_
          with_reducible refine (impl_bound.calls kj34 _ _ l0 ((rd_T39 l0 t634).f6) t637 _ ?side1 ?side2 A56.out).mono ?_
          (case side1 => exact cx (Kd.C_below HR0.out HB.out))
          (case side2 => exact HC0.out)
          rintro e w62 ⟨rfl, hb⟩
          refine ⟨_, rfl, ?_⟩
          have n0_ := up BK628 hb
          have n1_ := up BK629 hb
          have n2_ := up BK630 hb
          have n3_ := up BK636 hb
          have n4_ := bs HB hb
          clear BK628
          clear BK629
          clear BK630
          clear BK636
          clear HB
          have BK628 := n0_
          have BK629 := n1_
          have BK630 := n2_
          have BK636 := n3_
          have HB := n4_
          clear n0_ n1_ n2_ n3_ n4_
          (try clear hb)
          (try clear hb2)
          (try clear hk)
          (try clear hi)
          refine hK.out _ _ ⟨(blk_cell BK628.out 0).trans rfl, (blk_cell BK628.out 1).trans rfl, (blk_cell BK628.out 2).trans rfl⟩ (fun hHeld => ?_)
          clear hK K
          refine norm_ (a' := ?_) ?_ ?_
          rotate_left
          ·show Act.put _ (some 66) _ = _
           simp only [Act.put, List.setIfInBounds_toArray, List.set_cons_zero, List.set_cons_succ, i64_w, i32_w]
           rfl
          refine pw HT_ 8 (some 67) (lb 11 511) ?_
          refine one_ (i := 9) (N := none) (lb 11 1023) rfl rfl (one_of HT_.out (by kernel_rfl)) (by decide) (fun K hK => ?_)
          have hs63 : w62.cell? ⟨gb630, 0, none⟩ = some (.string (⟨#[]⟩ : ByteArray)) := (blk_cell BK630.out 0).trans rfl
          have hfs63 := blk_frozen BK630.out 0
          have hns63_0 := NB628_630.out
          have hns63_1 := NB629_630.out
          have hns63_3 := NB636_630.out
          have hms63_0 := NB630_628.out
          have hms63_1 := NB630_629.out
          have hms63_3 := NB630_636.out
          have hs64 : w62.cell? ⟨gb630, 1, none⟩ = some (.int .i64 0) := (blk_cell BK630.out 1).trans rfl
          have hfs64 := blk_frozen BK630.out 1
          have hns64_0 := NB628_630.out
          have hns64_1 := NB629_630.out
          have hns64_3 := NB636_630.out
          have hms64_0 := NB630_628.out
          have hms64_1 := NB630_629.out
          have hms64_3 := NB630_636.out
          have hs65 : w62.cell? ⟨gb630, 2, none⟩ = some (.int .i64 0) := (blk_cell BK630.out 2).trans rfl
          have hfs65 := blk_frozen BK630.out 2
          have hns65_0 := NB628_630.out
          have hns65_1 := NB629_630.out
          have hns65_3 := NB636_630.out
          have hms65_0 := NB630_628.out
          have hms65_1 := NB630_629.out
          have hms65_3 := NB630_636.out
          refine skip_ (w1 := ?_) (by rfl) rfl ?_ ?_
          rotate_left
          ·go_simp
           rfl
          refine hK.out _ _ ⟨((cell_far (p := ⟨gb630, _, none⟩) NB628_630.out _).trans (((cell_far (p := ⟨gb630, _, none⟩) NB628_630.out _).trans (((cell_far (p := ⟨gb630, _, none⟩) NB628_630.out _).trans (hHeld.1)))))), ((cell_far (p := ⟨gb630, _, none⟩) NB628_630.out _).trans (((cell_far (p := ⟨gb630, _, none⟩) NB628_630.out _).trans (((cell_far (p := ⟨gb630, _, none⟩) NB628_630.out _).trans (hHeld.2.1)))))), ((cell_far (p := ⟨gb630, _, none⟩) NB628_630.out _).trans (((cell_far (p := ⟨gb630, _, none⟩) NB628_630.out _).trans (((cell_far (p := ⟨gb630, _, none⟩) NB628_630.out _).trans (hHeld.2.2))))))⟩ (fun hHeld => ?_)
          clear hK K
          refine pw HT_ 10 (some 7) (lb 11 2047) ?_
          refine done_ (done_of HT_.out (by kernel_rfl)) ?_
          try go_wp2
          refine bodyPost_ret (results_ct rfl _ _ gb630 31 #[.string ((rd_T39 l0 t634).f6), .int .i64 (wrap64 (a1_1 + (ji55))), .int .i64 t637] (0, 0) _ rfl (by refine bx ?_; refine blk_put (cs := #[.string ((rd_T39 l0 t634).f6), .int .i64 (wrap64 (a1_1 + (ji55))), .int .i64 0]) ?_ 2 _ rfl; refine bx ?_; refine blk_put (cs := #[.string ((rd_T39 l0 t634).f6), .int .i64 0, .int .i64 0]) ?_ 1 _ rfl; refine bx ?_; refine blk_put (cs := #[.string (⟨#[]⟩ : ByteArray), .int .i64 0, .int .i64 0]) ?_ 0 _ rfl; refine bx ?_; exact BK630.out) Try.underlying31 rfl (by kernel_rfl)) rfl ?_
          exact ⟨by first | rfl | (simp [errW_none, errW_some] <;> rfl) | (simp only [← hji34, ← hji55]; first | rfl | (simp [errW_none, errW_some] <;> rfl)) | (simp [*, errW_none, errW_some] <;> rfl), bw HB.out⟩
         ·rw [if_neg c54] at H
          have c54b0 : (((rd_T39 l0 t634).f1) == 3) = false := beq_eq_false_iff_ne.mpr c54
          have c54b1 : (((rd_T39 l0 t634).f1) != 3) = true := bne_iff_ne.mpr c54
          replace H := Option.bind_eq_some_iff.mp H
          obtain ⟨t638, A660, H⟩ := H
          try dsimp only at H
          have A66 := Aside0.mk A660
          clear A660
          simp only [Option.some.injEq, Prod.mk.injEq] at H
          obtain ⟨rfl, rfl, rfl, rfl⟩ := H
          have hnb67 := NB636_628.out
          have hnc67 := NB628_636.out
          have hnb68 := NB636_629.out
          have hnc68 := NB629_636.out
          have hnb69 := NB636_630.out
          have hnc69 := NB630_636.out
          have hcz70_0 := b0 BK636
          have hcz70_1 := b1 BK636
          have hcz70_2 := b2 BK636
          have hcz70_3 := b3 BK636
          have hcz70_4 := b4 BK636
          have hcz70_5 := b5 BK636
          have hcz70_6 := b6 BK636
          have hcz70_7 := b7 BK636
          have hfz70_0 := fz BK636 0
          have hfz70_1 := fz BK636 1
          have hfz70_2 := fz BK636 2
          have hfz70_3 := fz BK636 3
          have hfz70_4 := fz BK636 4
          have hfz70_5 := fz BK636 5
          have hfz70_6 := fz BK636 6
          have hfz70_7 := fz BK636 7
          try go_wp2
          have n0_ := Aside0.mk (blk_drew BK628.out)
          have n1_ := Aside0.mk (blk_drew BK629.out)
          have n2_ := Aside0.mk (blk_drew BK630.out)
          have n3_ := Aside0.mk (blk_drew BK636.out)
          have n4_ := Aside0.mk (below_drew1 HB.out)
          clear BK628
          clear BK629
          clear BK630
          clear BK636
          clear HB
          have BK628 := n0_
          have BK629 := n1_
          have BK630 := n2_
          have BK636 := n3_
          have HB := n4_
          clear n0_ n1_ n2_ n3_ n4_
          refine start_ (n := 11) (S := fun w' => w'.cell? ⟨gb628, 0, none⟩ = some (.string a1_0) ∧ w'.cell? ⟨gb628, 1, none⟩ = some (.int .i64 a1_1) ∧ w'.cell? ⟨gb628, 2, none⟩ = some (.int .i64 a1_2)) (ds := []) (lb 11 0) (by kernel_rfl) rfl rfl ⟨(blk_cell BK628.out 0).trans rfl, (blk_cell BK628.out 1).trans rfl, (blk_cell BK628.out 2).trans rfl⟩ (fun hHeld => ?_); refine with_tabW impl_RecGo.tab12 impl_RecGo.bits12 (fun HT_ HW_ => ?_)
          generalize wc.drew = w71 at BK628 BK629 BK630 BK636 HB hHeld ⊢
          refine pw HT_ 0 (some 59) (lb 11 1) ?_
          refine pw HT_ 1 (some 60) (lb 11 3) ?_
          refine pw HT_ 3 (some 62) (lb 11 11) ?_
          refine pw HT_ 5 (some 64) (lb 11 43) ?_
          refine pw HT_ 6 (some 65) (lb 11 107) ?_
          refine tw HT_ HW_ hHeld 2 (some 61) (lb 11 111) ?_
          refine pw HT_ 4 (some 63) (lb 11 127) ?_
          refine one_ (i := 7) (N := some 66) (lb 11 255) rfl rfl (one_of HT_.out (by kernel_rfl)) (by decide) (fun K hK => ?_)
          refine goes_ Try.func71 (by kernel_rfl) rfl #[.slice (some ad635) l0.length c0, .string ((rd_T39 l0 t634).f6)] (by rfl) rfl rfl mxp ?_
          with_reducible refine (impl_bound.calls kj34 _ _ l0 ((rd_T39 l0 t634).f6) t638 _ ?side1 ?side2 A66.out).mono ?_
          (case side1 => exact cx (Kd.C_below HR0.out HB.out))
          (case side2 => exact HC0.out)
          rintro e w72 ⟨rfl, hb⟩
          refine ⟨_, rfl, ?_⟩
          have n0_ := up BK628 hb
          have n1_ := up BK629 hb
          have n2_ := up BK630 hb
          have n3_ := up BK636 hb
          have n4_ := bs HB hb
          clear BK628
          clear BK629
          clear BK630
          clear BK636
          clear HB
          have BK628 := n0_
          have BK629 := n1_
          have BK630 := n2_
          have BK636 := n3_
          have HB := n4_
          clear n0_ n1_ n2_ n3_ n4_
          (try clear hb)
          (try clear hb2)
          (try clear hk)
          (try clear hi)
          refine hK.out _ _ ⟨(blk_cell BK628.out 0).trans rfl, (blk_cell BK628.out 1).trans rfl, (blk_cell BK628.out 2).trans rfl⟩ (fun hHeld => ?_)
          clear hK K
          refine norm_ (a' := ?_) ?_ ?_
          rotate_left
          ·show Act.put _ (some 66) _ = _
           simp only [Act.put, List.setIfInBounds_toArray, List.set_cons_zero, List.set_cons_succ, i64_w, i32_w]
           rfl
          refine pw HT_ 8 (some 67) (lb 11 511) ?_
          refine one_ (i := 9) (N := none) (lb 11 1023) rfl rfl (one_of HT_.out (by kernel_rfl)) (by decide) (fun K hK => ?_)
          have hs73 : w72.cell? ⟨gb630, 0, none⟩ = some (.string (⟨#[]⟩ : ByteArray)) := (blk_cell BK630.out 0).trans rfl
          have hfs73 := blk_frozen BK630.out 0
          have hns73_0 := NB628_630.out
          have hns73_1 := NB629_630.out
          have hns73_3 := NB636_630.out
          have hms73_0 := NB630_628.out
          have hms73_1 := NB630_629.out
          have hms73_3 := NB630_636.out
          have hs74 : w72.cell? ⟨gb630, 1, none⟩ = some (.int .i64 0) := (blk_cell BK630.out 1).trans rfl
          have hfs74 := blk_frozen BK630.out 1
          have hns74_0 := NB628_630.out
          have hns74_1 := NB629_630.out
          have hns74_3 := NB636_630.out
          have hms74_0 := NB630_628.out
          have hms74_1 := NB630_629.out
          have hms74_3 := NB630_636.out
          have hs75 : w72.cell? ⟨gb630, 2, none⟩ = some (.int .i64 0) := (blk_cell BK630.out 2).trans rfl
          have hfs75 := blk_frozen BK630.out 2
          have hns75_0 := NB628_630.out
          have hns75_1 := NB629_630.out
          have hns75_3 := NB636_630.out
          have hms75_0 := NB630_628.out
          have hms75_1 := NB630_629.out
          have hms75_3 := NB630_636.out
          refine skip_ (w1 := ?_) (by rfl) rfl ?_ ?_
          rotate_left
          ·go_simp
           rfl
          refine hK.out _ _ ⟨((cell_far (p := ⟨gb630, _, none⟩) NB628_630.out _).trans (((cell_far (p := ⟨gb630, _, none⟩) NB628_630.out _).trans (((cell_far (p := ⟨gb630, _, none⟩) NB628_630.out _).trans (hHeld.1)))))), ((cell_far (p := ⟨gb630, _, none⟩) NB628_630.out _).trans (((cell_far (p := ⟨gb630, _, none⟩) NB628_630.out _).trans (((cell_far (p := ⟨gb630, _, none⟩) NB628_630.out _).trans (hHeld.2.1)))))), ((cell_far (p := ⟨gb630, _, none⟩) NB628_630.out _).trans (((cell_far (p := ⟨gb630, _, none⟩) NB628_630.out _).trans (((cell_far (p := ⟨gb630, _, none⟩) NB628_630.out _).trans (hHeld.2.2))))))⟩ (fun hHeld => ?_)
          clear hK K
          refine pw HT_ 10 (some 7) (lb 11 2047) ?_
          refine done_ (done_of HT_.out (by kernel_rfl)) ?_
          try go_wp2
          refine bodyPost_ret (results_ct rfl _ _ gb630 31 #[.string ((rd_T39 l0 t634).f6), .int .i64 (wrap64 (a1_1 + x9_34)), .int .i64 t638] (0, 0) _ rfl (by refine bx ?_; refine blk_put (cs := #[.string ((rd_T39 l0 t634).f6), .int .i64 (wrap64 (a1_1 + x9_34)), .int .i64 0]) ?_ 2 _ rfl; refine bx ?_; refine blk_put (cs := #[.string ((rd_T39 l0 t634).f6), .int .i64 0, .int .i64 0]) ?_ 1 _ rfl; refine bx ?_; refine blk_put (cs := #[.string (⟨#[]⟩ : ByteArray), .int .i64 0, .int .i64 0]) ?_ 0 _ rfl; refine bx ?_; exact BK630.out) Try.underlying31 rfl (by kernel_rfl)) rfl ?_
          exact ⟨by first | rfl | (simp [errW_none, errW_some] <;> rfl) | (simp only [← hji34]; first | rfl | (simp [errW_none, errW_some] <;> rfl)) | (simp [*, errW_none, errW_some] <;> rfl), bw HB.out⟩
        ·replace c53 := Bool.eq_false_iff.mpr c53
         subst c53
         rw [if_neg (show ¬ (false = true) by decide)] at H
         replace H := Option.bind_eq_some_iff.mp H
         obtain ⟨t639, A760, H⟩ := H
         try dsimp only at H
         have A76 := Aside0.mk A760
         clear A760
         simp only [Option.some.injEq, Prod.mk.injEq] at H
         obtain ⟨rfl, rfl, rfl, rfl⟩ := H
         have hnb77 := NB636_628.out
         have hnc77 := NB628_636.out
         have hnb78 := NB636_629.out
         have hnc78 := NB629_636.out
         have hnb79 := NB636_630.out
         have hnc79 := NB630_636.out
         have hcz80_0 := b0 BK636
         have hcz80_1 := b1 BK636
         have hcz80_2 := b2 BK636
         have hcz80_3 := b3 BK636
         have hcz80_4 := b4 BK636
         have hcz80_5 := b5 BK636
         have hcz80_6 := b6 BK636
         have hcz80_7 := b7 BK636
         have hfz80_0 := fz BK636 0
         have hfz80_1 := fz BK636 1
         have hfz80_2 := fz BK636 2
         have hfz80_3 := fz BK636 3
         have hfz80_4 := fz BK636 4
         have hfz80_5 := fz BK636 5
         have hfz80_6 := fz BK636 6
         have hfz80_7 := fz BK636 7
         try go_wp2
         have n0_ := Aside0.mk (blk_drew BK628.out)
         have n1_ := Aside0.mk (blk_drew BK629.out)
         have n2_ := Aside0.mk (blk_drew BK630.out)
         have n3_ := Aside0.mk (blk_drew BK636.out)
         have n4_ := Aside0.mk (below_drew1 HB.out)
         clear BK628
         clear BK629
         clear BK630
         clear BK636
         clear HB
         have BK628 := n0_
         have BK629 := n1_
         have BK630 := n2_
         have BK636 := n3_
         have HB := n4_
         clear n0_ n1_ n2_ n3_ n4_
         refine start_ (n := 11) (S := fun w' => w'.cell? ⟨gb628, 0, none⟩ = some (.string a1_0) ∧ w'.cell? ⟨gb628, 1, none⟩ = some (.int .i64 a1_1) ∧ w'.cell? ⟨gb628, 2, none⟩ = some (.int .i64 a1_2)) (ds := []) (lb 11 0) (by kernel_rfl) rfl rfl ⟨(blk_cell BK628.out 0).trans rfl, (blk_cell BK628.out 1).trans rfl, (blk_cell BK628.out 2).trans rfl⟩ (fun hHeld => ?_); refine with_tabW impl_RecGo.tab12 impl_RecGo.bits12 (fun HT_ HW_ => ?_)
         generalize wc.drew = w81 at BK628 BK629 BK630 BK636 HB hHeld ⊢
         refine pw HT_ 0 (some 59) (lb 11 1) ?_
         refine pw HT_ 1 (some 60) (lb 11 3) ?_
         refine pw HT_ 3 (some 62) (lb 11 11) ?_
         refine pw HT_ 5 (some 64) (lb 11 43) ?_
         refine pw HT_ 6 (some 65) (lb 11 107) ?_
         refine tw HT_ HW_ hHeld 2 (some 61) (lb 11 111) ?_
         refine pw HT_ 4 (some 63) (lb 11 127) ?_
         refine one_ (i := 7) (N := some 66) (lb 11 255) rfl rfl (one_of HT_.out (by kernel_rfl)) (by decide) (fun K hK => ?_)
         refine goes_ Try.func71 (by kernel_rfl) rfl #[.slice (some ad635) l0.length c0, .string ((rd_T39 l0 t634).f7)] (by rfl) rfl rfl mxp ?_
         with_reducible refine (impl_bound.calls kj34 _ _ l0 ((rd_T39 l0 t634).f7) t639 _ ?side1 ?side2 A76.out).mono ?_
         (case side1 => exact cx (Kd.C_below HR0.out HB.out))
         (case side2 => exact HC0.out)
         rintro e w82 ⟨rfl, hb⟩
         refine ⟨_, rfl, ?_⟩
         have n0_ := up BK628 hb
         have n1_ := up BK629 hb
         have n2_ := up BK630 hb
         have n3_ := up BK636 hb
         have n4_ := bs HB hb
         clear BK628
         clear BK629
         clear BK630
         clear BK636
         clear HB
         have BK628 := n0_
         have BK629 := n1_
         have BK630 := n2_
         have BK636 := n3_
         have HB := n4_
         clear n0_ n1_ n2_ n3_ n4_
         (try clear hb)
         (try clear hb2)
         (try clear hk)
         (try clear hi)
         refine hK.out _ _ ⟨(blk_cell BK628.out 0).trans rfl, (blk_cell BK628.out 1).trans rfl, (blk_cell BK628.out 2).trans rfl⟩ (fun hHeld => ?_)
         clear hK K
         refine norm_ (a' := ?_) ?_ ?_
         rotate_left
         ·show Act.put _ (some 66) _ = _
          simp only [Act.put, List.setIfInBounds_toArray, List.set_cons_zero, List.set_cons_succ, i64_w, i32_w]
          rfl
         refine pw HT_ 8 (some 67) (lb 11 511) ?_
         refine one_ (i := 9) (N := none) (lb 11 1023) rfl rfl (one_of HT_.out (by kernel_rfl)) (by decide) (fun K hK => ?_)
         have hs83 : w82.cell? ⟨gb630, 0, none⟩ = some (.string (⟨#[]⟩ : ByteArray)) := (blk_cell BK630.out 0).trans rfl
         have hfs83 := blk_frozen BK630.out 0
         have hns83_0 := NB628_630.out
         have hns83_1 := NB629_630.out
         have hns83_3 := NB636_630.out
         have hms83_0 := NB630_628.out
         have hms83_1 := NB630_629.out
         have hms83_3 := NB630_636.out
         have hs84 : w82.cell? ⟨gb630, 1, none⟩ = some (.int .i64 0) := (blk_cell BK630.out 1).trans rfl
         have hfs84 := blk_frozen BK630.out 1
         have hns84_0 := NB628_630.out
         have hns84_1 := NB629_630.out
         have hns84_3 := NB636_630.out
         have hms84_0 := NB630_628.out
         have hms84_1 := NB630_629.out
         have hms84_3 := NB630_636.out
         have hs85 : w82.cell? ⟨gb630, 2, none⟩ = some (.int .i64 0) := (blk_cell BK630.out 2).trans rfl
         have hfs85 := blk_frozen BK630.out 2
         have hns85_0 := NB628_630.out
         have hns85_1 := NB629_630.out
         have hns85_3 := NB636_630.out
         have hms85_0 := NB630_628.out
         have hms85_1 := NB630_629.out
         have hms85_3 := NB630_636.out
         refine skip_ (w1 := ?_) (by rfl) rfl ?_ ?_
         rotate_left
         ·go_simp
          rfl
         refine hK.out _ _ ⟨((cell_far (p := ⟨gb630, _, none⟩) NB628_630.out _).trans (((cell_far (p := ⟨gb630, _, none⟩) NB628_630.out _).trans (((cell_far (p := ⟨gb630, _, none⟩) NB628_630.out _).trans (hHeld.1)))))), ((cell_far (p := ⟨gb630, _, none⟩) NB628_630.out _).trans (((cell_far (p := ⟨gb630, _, none⟩) NB628_630.out _).trans (((cell_far (p := ⟨gb630, _, none⟩) NB628_630.out _).trans (hHeld.2.1)))))), ((cell_far (p := ⟨gb630, _, none⟩) NB628_630.out _).trans (((cell_far (p := ⟨gb630, _, none⟩) NB628_630.out _).trans (((cell_far (p := ⟨gb630, _, none⟩) NB628_630.out _).trans (hHeld.2.2))))))⟩ (fun hHeld => ?_)
         clear hK K
         refine pw HT_ 10 (some 7) (lb 11 2047) ?_
         refine done_ (done_of HT_.out (by kernel_rfl)) ?_
         try go_wp2
         refine bodyPost_ret (results_ct rfl _ _ gb630 31 #[.string ((rd_T39 l0 t634).f7), .int .i64 (wrap64 (a1_1 + x9_34)), .int .i64 t639] (0, 0) _ rfl (by refine bx ?_; refine blk_put (cs := #[.string ((rd_T39 l0 t634).f7), .int .i64 (wrap64 (a1_1 + x9_34)), .int .i64 0]) ?_ 2 _ rfl; refine bx ?_; refine blk_put (cs := #[.string ((rd_T39 l0 t634).f7), .int .i64 0, .int .i64 0]) ?_ 1 _ rfl; refine bx ?_; refine blk_put (cs := #[.string (⟨#[]⟩ : ByteArray), .int .i64 0, .int .i64 0]) ?_ 0 _ rfl; refine bx ?_; exact BK630.out) Try.underlying31 rfl (by kernel_rfl)) rfl ?_
         exact ⟨by first | rfl | (simp [errW_none, errW_some] <;> rfl) | (simp only [← hji34]; first | rfl | (simp [errW_none, errW_some] <;> rfl)) | (simp [*, errW_none, errW_some] <;> rfl), bw HB.out⟩
     ·rw [if_neg c33] at H
      exact absurd H (by simp)
    ·rw [if_neg c32] at H
     exact absurd H (by simp)


/-! ### impl_RecRun: function 21 -/
def impl_RecRun.l0 : Nat → List (S39) → List (S43) → List ByteArray → Int → ByteArray → Int → Int → Option (ByteArray × Int × Int × List ByteArray)
 | 0, _, _, _, _, _, _, _ => none
 | k + 1, x0, x1, x7, x8, x789000, x789001, x789002 => (impl_RecEnd.f k x789000).bind fun t792 => (if t792 = 0 then (if x7.length < 8796093022208 then ((some (x7 ++ [x789000] : List ByteArray)).bind fun y793 => (if x8 < (x1.length : Int) then (if 0 ≤ x8 then ((impl_RecGo.f k x0 x789000 x789001 x789002 ((rd_T43 x1 x8).f0) ((rd_T43 x1 x8).f1)).bind fun bt798 => (impl_RecRun.l0 k x0 x1 y793 (wrap64 (x8 + 1)) bt798.1 bt798.2.1 bt798.2.2.1)) else (none)) else ((impl_RecGo.f k x0 x789000 x789001 x789002 1001 false).bind fun bt802 => (impl_RecRun.l0 k x0 x1 y793 (wrap64 (x8 + 1)) bt802.1 bt802.2.1 bt802.2.2.1)))) else (none)) else (some (x789000, x789001, x789002, x7)))
def impl_RecRun.f (k : Nat) (l0 : List (S39)) (l1 : List (S43)) : Option (ByteArray × Int × Int × List ByteArray) := (impl_RecOk.f k l0).bind fun t784 => (if t784 = true then ((impl_RecBegin.f k l0).bind fun bt785 => (impl_RecRun.l0 k l0 l1 (([] : List ByteArray)) 0 bt785.1 bt785.2.1 bt785.2.2)) else (some ((⟨#[]⟩ : ByteArray), 0, 0, ([] : List ByteArray))))
theorem impl_RecRun.mono_l : ∀ k, (∀ y0 y1 y2 y3 y4 y5 y6, LeO (impl_RecRun.l0 k y0 y1 y2 y3 y4 y5 y6) (impl_RecRun.l0 (k + 1) y0 y1 y2 y3 y4 y5 y6))
 | 0 => fun _ _ _ _ _ _ _ r h => by simp [impl_RecRun.l0] at h
 | k + 1 => by
  have ih0 := impl_RecRun.mono_l k
  ·intro y0 y1 y2 y3 y4 y5 y6
   unfold impl_RecRun.l0
   repeat' first
   | (with_reducible exact ih0 _ _ _ _ _ _ _)
   | (with_reducible exact impl_RecBegin.mono _ _)
   | (with_reducible exact impl_RecEnd.mono _ _)
   | (with_reducible exact impl_RecGo.mono _ _ _ _ _ _ _)
   | (with_reducible exact impl_RecOk.mono _ _)
   | (with_reducible exact LeO.refl _)
   | (with_reducible exact LeO.none _)
   | (with_reducible refine LeO.ite ?_ ?_)
   | (with_reducible refine LeO.bind ?_ (fun _ => ?_))
   | exact ih0 _ _ _ _ _ _ _
   | exact impl_RecBegin.mono _ _
   | exact impl_RecEnd.mono _ _
   | exact impl_RecGo.mono _ _ _ _ _ _ _
   | exact impl_RecOk.mono _ _
   | exact LeO.none _
   | refine LeO.ite ?_ ?_
   | refine LeO.bind ?_ (fun _ => ?_)
theorem impl_RecRun.mono : ∀ a0 a1 k, LeO (impl_RecRun.f k a0 a1) (impl_RecRun.f (k + 1) a0 a1) := by
 intro a0 a1 k
 have ih0 := impl_RecRun.mono_l k
 unfold impl_RecRun.f
 repeat' first
   | (with_reducible exact ih0 _ _ _ _ _ _ _)
   | (with_reducible exact impl_RecBegin.mono _ _)
   | (with_reducible exact impl_RecEnd.mono _ _)
   | (with_reducible exact impl_RecGo.mono _ _ _ _ _ _ _)
   | (with_reducible exact impl_RecOk.mono _ _)
   | (with_reducible exact LeO.refl _)
   | (with_reducible exact LeO.none _)
   | (with_reducible refine LeO.ite ?_ ?_)
   | (with_reducible refine LeO.bind ?_ (fun _ => ?_))
   | exact ih0 _ _ _ _ _ _ _
   | exact impl_RecBegin.mono _ _
   | exact impl_RecEnd.mono _ _
   | exact impl_RecGo.mono _ _ _ _ _ _ _
   | exact impl_RecOk.mono _ _
   | exact LeO.none _
   | refine LeO.ite ?_ ?_
   | refine LeO.bind ?_ (fun _ => ?_)
set_option maxHeartbeats 8000000 in
set_option maxRecDepth 100000 in
theorem impl_RecRun.calls (k : Nat) (A0 : Option Addr) (c0 : Nat) (l0 : List (S39)) (A1 : Option Addr) (c1 : Nat) (l1 : List (S43)) (r1 : ByteArray) (r2 : Int) (r3 : Int) (r4 : List ByteArray) (w : World) (hr0 : Kd.C k39 w A0 l0.length l0) (hc0 : l0.length ≤ c0) (hr1 : Kd.C k43 w A1 l1.length l1) (hc1 : l1.length ≤ c1) (h : impl_RecRun.f k l0 l1 = some (r1, r2, r3, r4)) :
  Calls Try.prog 21 #[.slice A0 l0.length c0, .slice A1 l1.length c1] w fun e w' => ∃ v3_ : Value, e = .returned (.tuple #[.agg #[.string r1, .int .i64 r2, .int .i64 r3], v3_]) ∧ Kd.R Kd.string 9 w' w.heap.size (fun _ => True) v3_ r4 ∧ Below w.heap.size w w' := by
 have hu31 := Try.underlying31
 have hu43 := Try.underlying43
 have HR0 := Aside0.mk hr0
 have HC0 := Aside0.mk hc0
 clear hr0 hc0
 have HR1 := Aside0.mk hr1
 have HC1 := Aside0.mk hc1
 clear hr1 hc1
 have HB := Aside0.mk (Below.refl w.heap.size w)
 have H : ((impl_RecOk.f k l0).bind fun t784 => (if t784 = true then ((impl_RecBegin.f k l0).bind fun bt785 => (impl_RecRun.l0 k l0 l1 (([] : List ByteArray)) 0 bt785.1 bt785.2.1 bt785.2.2)) else (some ((⟨#[]⟩ : ByteArray), 0, 0, ([] : List ByteArray))))) = some (r1, r2, r3, r4) := h
 clear h
 replace H := Option.bind_eq_some_iff.mp H
 obtain ⟨t784, A30, H⟩ := H
 try dsimp only at H
 have A3 := Aside0.mk A30
 clear A30
 by_cases c4 : t784 = true
 ·subst c4
  rw [if_pos rfl] at H
  replace H := Option.bind_eq_some_iff.mp H
  obtain ⟨⟨t785, t786, t787⟩, A50, H⟩ := H
  try dsimp only at H
  have A5 := Aside0.mk A50
  clear A50
  obtain ⟨y789, hy789⟩ : ∃ y_ : List ByteArray, y_ = (([] : List ByteArray)) := ⟨_, rfl⟩
  replace H : (impl_RecRun.l0 k l0 l1 y789 0 t785 t786 t787) = some (r1, r2, r3, r4) := rpl H hy789
  have Ny789 := Aside0.mk hy789
  clear hy789
  have H' := Aside0.mk H
  clear H
  go_enter Try.func21, Try.ntmps21
  go_wp2_with (first | ((with_reducible refine gate_dst (N := 4) rfl ?_); refine box_event ?hg (N := 4) ?hd (cs := #[.string (⟨#[]⟩ : ByteArray), .int .i64 0, .int .i64 0]) (t := 31) ?hr ?_; (case hd => rfl); (case hg => rfl); (case hr => first | (go_simp; done) | (go_simp; rfl)); intro gb783 hg w6 hbox hb; have t_ := And.intro (bs HB hb) <| And.intro (Aside0.mk (hbox)) <| And.intro (gh hg HB) <| (gh hg HB); clear HB; obtain ⟨HB, BK783, GW783, GE783⟩ := t_; clear hb hbox hg) | ((with_reducible refine gate_callee (f := 36) rfl ?_); refine goesL_ (some 11) rfl rfl Try.func36 (by kernel_rfl) rfl #[.slice A0 l0.length c0] rfl mxp ?_; (with_reducible refine (impl_RecOk.calls k _ _ l0 true _ ?side1 ?side2 A3.out).mono ?_); (case side1 => exact cx (Kd.C_below HR0.out HB.out)); (case side2 => exact HC0.out); rintro e w7 ⟨rfl, hb⟩; refine ⟨_, rfl, ?_⟩; replace BK783 := up BK783 hb; replace HB := bs HB hb; (try clear hb); (try clear hb2); (try clear hk); (try clear hi)) | ((with_reducible refine gate_callee (f := 27) rfl ?_); refine goesL_ (some 15) rfl rfl Try.func27 (by kernel_rfl) rfl #[.slice A0 l0.length c0] rfl mxp ?_; (with_reducible refine (impl_RecBegin.calls k _ _ l0 t785 t786 t787 _ ?side1 ?side2 A5.out).mono ?_); (case side1 => exact cx (Kd.C_below HR0.out HB.out)); (case side2 => exact HC0.out); rintro e w8 ⟨rfl, hb⟩; refine ⟨_, rfl, ?_⟩; replace BK783 := up BK783 hb; replace HB := bs HB hb; (try clear hb); (try clear hb2); (try clear hk); (try clear hi)) | ((with_reducible refine gate_dst (N := 6) rfl ?_); refine box_event ?hg (N := 6) ?hd (cs := #[.string (⟨#[]⟩ : ByteArray), .int .i64 0, .int .i64 0]) (t := 31) ?hr ?_; (case hd => rfl); (case hg => rfl); (case hr => first | (go_simp; done) | (go_simp; rfl)); intro gb788 hg w9 hbox hb; have t_ := And.intro (up BK783 hb) <| And.intro (bs HB hb) <| And.intro (Aside0.mk (hbox)) <| And.intro (gh hg HB) <| And.intro (gh hg HB) <| And.intro (nlt' hg BK783) <| (ngt' hg BK783); clear BK783 HB; obtain ⟨BK783, HB, BK788, GW788, GE788, NB783_788, NB788_783⟩ := t_; clear hb hbox hg; have hnb10 := NB788_783.out; have hnc10 := NB783_788.out; have hcz11_0 := b0 BK788; have hcz11_1 := b1 BK788; have hcz11_2 := b2 BK788; have hfz11_0 := fz BK788 0; have hfz11_1 := fz BK788 1; have hfz11_2 := fz BK788 2) | ((with_reducible refine gate_dst (N := 16) rfl ?_); refine Kd.R_lit Kd.string _ 9 ?hg (N := 16) ?hd (xs := ([] : List ByteArray)) (inner := []) (ok := fun _ => True) (okp := fun _ => True) ?hr ?hp (fun _ hk => hk) trivial (Below.refl _ _) (Nat.le_refl _) (by simp) ?_; (case hd => rfl); (case hg => rfl); (case hr => first | (go_simp; done) | (go_simp; rfl)); (case hp => exact (Reps.none _ _)); intro v790 w12 ho13 hb hg_ hnew_; clear hg_ hnew_; (first | rw [← Ny789.out] at ho13 | (simp only [Int.reduceToNat] at ho13; rw [← Ny789.out] at ho13)); have t_ := And.intro (Aside0.mk (Kd.R_lower ho13 (below_size (bw HB.out)))) <| And.intro (Aside0.mk (blk_below (g := gb783) (o := .cells #[.string (⟨#[]⟩ : ByteArray), .int .i64 0, .int .i64 0] 31 (0, 0)) (by refine bx ?_; refine blk_far ?_ NB783_788.out _; refine bx ?_; refine blk_far ?_ NB783_788.out _; refine bx ?_; refine blk_far ?_ NB783_788.out _; refine bx ?_; exact BK783.out) hb)) <| And.intro (Aside0.mk (blk_below (g := gb788) (o := .cells #[.string t785, .int .i64 t786, .int .i64 t787] 31 (0, 0)) (by refine bx ?_; refine blk_put (cs := #[.string t785, .int .i64 t786, .int .i64 0]) ?_ 2 _ rfl; refine bx ?_; refine blk_put (cs := #[.string t785, .int .i64 0, .int .i64 0]) ?_ 1 _ rfl; refine bx ?_; refine blk_put (cs := #[.string (⟨#[]⟩ : ByteArray), .int .i64 0, .int .i64 0]) ?_ 0 _ rfl; refine bx ?_; exact BK788.out) hb)) <| (bs HB hb); clear BK783 BK788 HB; obtain ⟨HO791, BK783, BK788, HB⟩ := t_; clear hb ho13))
  go_loopg [7, 8] k (fun kq v7 v8 w' => ∃ (x7_1 : List ByteArray) (x8_1 : Int) (x789000_1 : ByteArray) (x789001_1 : Int) (x789002_1 : Int), v8 = .int .i64 x8_1 ∧ Aside0 (impl_RecRun.l0 kq l0 l1 x7_1 x8_1 x789000_1 x789001_1 x789002_1 = some (r1, r2, r3, r4)) ∧ Aside0 (kq ≤ k) ∧ Aside0 (Kd.R Kd.string 9 w' w.heap.size (fun _ => True) v7 x7_1) ∧ Aside0 (w'.heap[gb783]? = some (.cells #[.string (⟨#[]⟩ : ByteArray), .int .i64 0, .int .i64 0] 31 (0, 0))) ∧ Aside0 (w'.heap[gb788]? = some (.cells #[.string x789000_1, .int .i64 x789001_1, .int .i64 x789002_1] 31 (0, 0))) ∧ Aside0 (Below w.heap.size w w'))
  case atStart => exact ⟨(y789), (0), (t785), (t786), (t787), (by first | rfl | (simp; done) | (simp [*]; done)), H', ⟨Nat.le_refl _⟩, ⟨by refine rx ?_; exact HO791.out⟩, (bk BK783), (bk BK788), (hbw HB)⟩
  case round =>
   clear H'
   obtain ⟨x7_1, x8_1, x789000_1, x789001_1, x789002_1, rfl, HA, HK1, HO_7, BK783, BK788, HB⟩ := hrel
   cases gk with
   | zero => exact absurd HA.out (by simp [impl_RecRun.l0])
   | succ k1 =>
    have H := HA.out
    clear HA
    simp only [impl_RecRun.l0] at H
    replace H := Option.bind_eq_some_iff.mp H
    obtain ⟨t792, A140, H⟩ := H
    try dsimp only at H
    have A14 := Aside0.mk A140
    clear A140
    by_cases c15 : t792 = 0
    ·rw [if_pos c15] at H
     have c15b0 : (t792 == 0) = true := beq_iff_eq.mpr c15
     have c15b1 : (t792 != 0) = false := bne_eq_false_iff_eq.mpr c15
     clear c15
     by_cases c16 : x7_1.length < 8796093022208
     ·rw [if_pos c16] at H
      have LMc16 := Aside0.mk c16
      clear c16
      obtain ⟨y793, hy793⟩ : ∃ y_ : List ByteArray, y_ = (x7_1 ++ [x789000_1]) := ⟨_, rfl⟩
      replace H : (if x8_1 < (l1.length : Int) then (if 0 ≤ x8_1 then ((impl_RecGo.f k1 l0 x789000_1 x789001_1 x789002_1 ((rd_T43 l1 x8_1).f0) ((rd_T43 l1 x8_1).f1)).bind fun bt798 => (impl_RecRun.l0 k1 l0 l1 y793 (wrap64 (x8_1 + 1)) bt798.1 bt798.2.1 bt798.2.2.1)) else (none)) else ((impl_RecGo.f k1 l0 x789000_1 x789001_1 x789002_1 1001 false).bind fun bt802 => (impl_RecRun.l0 k1 l0 l1 y793 (wrap64 (x8_1 + 1)) bt802.1 bt802.2.1 bt802.2.2.1))) = some (r1, r2, r3, r4) := rpl H hy793
      have Ny793 := Aside0.mk hy793
      clear hy793
      by_cases c17 : x8_1 < (l1.length : Int)
      ·rw [if_pos c17] at H
       have c17b0 : decide (x8_1 < (l1.length : Int)) = true := decide_eq_true c17
       clear c17
       by_cases c18 : 0 ≤ x8_1
       ·rw [if_pos c18] at H
        have c18b0 : decide (0 ≤ x8_1) = true := decide_eq_true c18
        clear c18
        replace H := Option.bind_eq_some_iff.mp H
        obtain ⟨⟨t798, t799, t800, t801⟩, A190, H⟩ := H
        try dsimp only at H
        have A19 := Aside0.mk A190
        clear A190
        have H' := Aside0.mk H
        clear H
        have hnb20 := NB788_783.out
        have hnc20 := NB783_788.out
        have hcz21_0 := b0 BK788
        have hcz21_1 := b1 BK788
        have hcz21_2 := b2 BK788
        have hfz21_0 := fz BK788 0
        have hfz21_1 := fz BK788 1
        have hfz21_2 := fz BK788 2
        go_wp2_with (first | ((with_reducible refine gate_callee (f := 19) rfl ?_); refine goesL_ (some 19) rfl rfl Try.func19 (by kernel_rfl) rfl #[.string x789000_1] rfl mxp ?_; (with_reducible refine (impl_RecEnd.calls k1 x789000_1 t792 _ A14.out).mono ?_); rintro e w22 ⟨rfl, hb⟩; refine ⟨_, rfl, ?_⟩; have t_ := And.intro (Aside0.mk (Kd.R_below (rx HO_7.out) hb)) <| And.intro (up BK783 hb) <| And.intro (up BK788 hb) <| (bs HB hb); clear HO_7 BK783 BK788 HB; obtain ⟨HO_7, BK783, BK788, HB⟩ := t_; (try clear hb); (try clear hb2); (try clear hk); (try clear hi); have hcz23_0 := b0 BK788; have hcz23_1 := b1 BK788; have hcz23_2 := b2 BK788; have hfz23_0 := fz BK788 0; have hfz23_1 := fz BK788 1; have hfz23_2 := fz BK788 2) | ((with_reducible refine gate_builtin (b := .append) (xs := #[.tmp 23, .tmp 26]) rfl ?_); at_builtin; refine Kd.R_append Kd.string (w0 := w) w.heap.size rfl (.tmp 23) (.tmp 26) 32 9 (.string ⟨#[]⟩) 16 rfl Try.underlying32 info9 rfl (by decide) (by omega) u7 x7_1 x789000_1 [.string x789000_1] (fun _ => True) (fun _ => False) rfl rfl ?aP (fun _ hk => hk.elim) ?aF ?aO ?aB ?aS ?aL ?_; (case aP => exact rfl); (case aB => exact (bw HB.out)); (case aF => exact (fun _ _ => trivial)); (case aO => exact (rx HO_7.out)); (case aS => exact (below_size (bw HB.out))); (case aL => have := LMc16.out; omega); intro v794 w24 ho hb hg hat; rw [← Ny793.out] at ho; have t_ := And.intro (Aside0.mk (blk_grown (g := gb783) (o := .cells #[.string (⟨#[]⟩ : ByteArray), .int .i64 0, .int .i64 0] 31 (0, 0)) (bx BK783.out) hg (Kd.R_ne HO_7.out BK783.out (by decide)))) <| And.intro (Aside0.mk (blk_grown (g := gb788) (o := .cells #[.string x789000_1, .int .i64 x789001_1, .int .i64 x789002_1] 31 (0, 0)) (bx BK788.out) hg (Kd.R_ne HO_7.out BK788.out (by decide)))) <| And.intro (Aside0.mk (hb)) <| (Aside0.mk (ho)); clear BK783 BK788 HB HO_7; obtain ⟨BK783, BK788, HB, HO795⟩ := t_; clear ho hb hg hat) | ((with_reducible refine gate_dst (N := 9) rfl ?_); refine box_event ?hg (N := 9) ?hd (cs := #[.int .i64 0, .bool false]) (t := 43) ?hr ?_; (case hd => rfl); (case hg => rfl); (case hr => first | (go_simp; done) | (go_simp; rfl)); intro gb796 hg w25 hbox hb; have t_ := And.intro (Aside0.mk (Kd.R_below (rx HO795.out) hb)) <| And.intro (up BK783 hb) <| And.intro (up BK788 hb) <| And.intro (bs HB hb) <| And.intro (Aside0.mk (hbox)) <| And.intro (gh hg HB) <| And.intro (gh hg HB) <| And.intro (nlt' hg BK783) <| And.intro (ngt' hg BK783) <| And.intro (nlt' hg BK788) <| (ngt' hg BK788); clear HO795 BK783 BK788 HB; obtain ⟨HO795, BK783, BK788, HB, BK796, GW796, GE796, NB783_796, NB796_783, NB788_796, NB796_788⟩ := t_; clear hb hbox hg; have hnb26 := NB796_783.out; have hnc26 := NB783_796.out; have hnb27 := NB796_788.out; have hnc27 := NB788_796.out; have hcz28_0 := b0 BK796; have hcz28_1 := b1 BK796; have hfz28_0 := fz BK796 0; have hfz28_1 := fz BK796 1; have hq796 : ((((w25.setCell ⟨gb796, 0, none⟩ (.int .i64 1001)).setCell ⟨gb796, 1, none⟩ (.bool false)).setCell ⟨gb796, 0, none⟩ (.int .i64 ((rd_T43 l1 x8_1).f0))).setCell ⟨gb796, 1, none⟩ (.bool ((rd_T43 l1 x8_1).f1))).cell? ⟨gb796, 1, none⟩ = some (.bool ((rd_T43 l1 x8_1).f1)) := (blk_cell (cs := #[.int .i64 ((rd_T43 l1 x8_1).f0), .bool ((rd_T43 l1 x8_1).f1)]) (t := 43) (by refine blk_put (cs := #[.int .i64 ((rd_T43 l1 x8_1).f0), .bool false]) ?_ 1 _ rfl; refine blk_put (cs := #[.int .i64 1001, .bool false]) ?_ 0 _ rfl; refine blk_put (cs := #[.int .i64 1001, .bool false]) ?_ 1 _ rfl; refine blk_put (cs := #[.int .i64 0, .bool false]) ?_ 0 _ rfl; exact BK796.out) 1).trans rfl; have p797 : 0 ≤ (x8_1 : Int) := oda; have q797 : x8_1 < (l1.length : Int) := oda; obtain ⟨ad797, e797, hx797_0, hx797_1⟩ := at_T43 HR1.out x8_1 p797 q797; cases e797; have hn797_0 : ad797.block ≠ gb796 := Nat.ne_of_lt (Nat.lt_of_lt_of_le (by have := World.block_lt_of_cell? _ _ hx797_0; first | rwa [add_block] at this | exact this) GW796.out); have hn797_1 : ad797.block ≠ gb796 := Nat.ne_of_lt (Nat.lt_of_lt_of_le (by have := World.block_lt_of_cell? _ _ hx797_0; first | rwa [add_block] at this | exact this) GW796.out); replace hx797_0 := bcl HB hx797_0; replace hx797_1 := bcl HB hx797_1; replace hx797_0 := (cell_far (p := ⟨gb796, 0, none⟩) (by first | (rw [add_block]; exact hn797_0) | (show (Addr.add _ _).block ≠ _; rw [add_block]; exact hn797_0) | exact hn797_0) (.int .i64 1001)).trans hx797_0; replace hx797_1 := (cell_far (p := ⟨gb796, 0, none⟩) (by first | (rw [add_block]; exact hn797_0) | (show (Addr.add _ _).block ≠ _; rw [add_block]; exact hn797_0) | exact hn797_0) (.int .i64 1001)).trans hx797_1; replace hx797_0 := (cell_far (p := ⟨gb796, 1, none⟩) (by first | (rw [add_block]; exact hn797_1) | (show (Addr.add _ _).block ≠ _; rw [add_block]; exact hn797_1) | exact hn797_1) (.bool false)).trans hx797_0; replace hx797_1 := (cell_far (p := ⟨gb796, 1, none⟩) (by first | (rw [add_block]; exact hn797_1) | (show (Addr.add _ _).block ≠ _; rw [add_block]; exact hn797_1) | exact hn797_1) (.bool false)).trans hx797_1; clear hn797_0; clear hn797_1; replace p797 := eq_true p797; replace q797 := eq_true q797; have hcz29_0 := b0 BK788; have hcz29_1 := b1 BK788; have hcz29_2 := b2 BK788; have hfz29_0 := fz BK788 0; have hfz29_1 := fz BK788 1; have hfz29_2 := fz BK788 2) | ((with_reducible refine gate_callee (f := 28) rfl ?_); refine goesL_ (some 41) rfl rfl Try.func28 (by kernel_rfl) rfl #[.slice A0 l0.length c0, .agg #[.string x789000_1, .int .i64 x789001_1, .int .i64 x789002_1], .agg #[.int .i64 ((rd_T43 l1 x8_1).f0), .bool ((rd_T43 l1 x8_1).f1)]] rfl mxp ?_; (with_reducible refine (impl_RecGo.calls k1 _ _ l0 x789000_1 x789001_1 x789002_1 ((rd_T43 l1 x8_1).f0) ((rd_T43 l1 x8_1).f1) t798 t799 t800 t801 _ ?side1 ?side2 A19.out).mono ?_); (case side1 => exact Kd.C_below HR0.out (bw HB.out)); (case side2 => exact HC0.out); rintro e w30 ⟨rfl, hb⟩; refine ⟨_, rfl, ?_⟩; have t_ := And.intro (Aside0.mk (Kd.R_below (by refine rx ?_; exact (Kd.R_mono (Kd.R_far (p := ⟨gb796, 1, none⟩) (Kd.R_far (p := ⟨gb796, 0, none⟩) (Kd.R_far (p := ⟨gb796, 1, none⟩) (Kd.R_far (p := ⟨gb796, 0, none⟩) (Kd.R_types HO795.out BK796.out (by decide)) (fun _ hk => hk.2) (.int .i64 1001)) (fun _ hk => hk.2) (.bool false)) (fun _ hk => hk.2) (.int .i64 ((rd_T43 l1 x8_1).f0))) (fun _ hk => hk.2) (.bool ((rd_T43 l1 x8_1).f1))) (fun _ h_ => h_.1))) hb)) <| And.intro (Aside0.mk (blk_below (g := gb783) (o := .cells #[.string (⟨#[]⟩ : ByteArray), .int .i64 0, .int .i64 0] 31 (0, 0)) (by refine bx ?_; refine blk_far ?_ NB783_796.out _; refine bx ?_; refine blk_far ?_ NB783_796.out _; refine bx ?_; refine blk_far ?_ NB783_796.out _; refine bx ?_; refine blk_far ?_ NB783_796.out _; refine bx ?_; exact BK783.out) hb)) <| And.intro (Aside0.mk (blk_below (g := gb788) (o := .cells #[.string x789000_1, .int .i64 x789001_1, .int .i64 x789002_1] 31 (0, 0)) (by refine bx ?_; refine blk_far ?_ NB788_796.out _; refine bx ?_; refine blk_far ?_ NB788_796.out _; refine bx ?_; refine blk_far ?_ NB788_796.out _; refine bx ?_; refine blk_far ?_ NB788_796.out _; refine bx ?_; exact BK788.out) hb)) <| And.intro (Aside0.mk (blk_below (g := gb796) (o := .cells #[.int .i64 ((rd_T43 l1 x8_1).f0), .bool ((rd_T43 l1 x8_1).f1)] 43 (0, 0)) (by refine bx ?_; refine blk_put (cs := #[.int .i64 ((rd_T43 l1 x8_1).f0), .bool false]) ?_ 1 _ rfl; refine bx ?_; refine blk_put (cs := #[.int .i64 1001, .bool false]) ?_ 0 _ rfl; refine bx ?_; refine blk_put (cs := #[.int .i64 1001, .bool false]) ?_ 1 _ rfl; refine bx ?_; refine blk_put (cs := #[.int .i64 0, .bool false]) ?_ 0 _ rfl; refine bx ?_; exact BK796.out) hb)) <| (bs HB hb); clear HO795 BK783 BK788 BK796 HB; obtain ⟨HO795, BK783, BK788, BK796, HB⟩ := t_; (try clear hb); (try clear hb2); (try clear hk); (try clear hi); have hcz31_0 := b0 BK788; have hcz31_1 := b1 BK788; have hcz31_2 := b2 BK788; have hfz31_0 := fz BK788 0; have hfz31_1 := fz BK788 1; have hfz31_2 := fz BK788 2))
        go_roundg k1
        case measure => have := HK1.out; omega
        case rel => exact ⟨(y793), (wrap64 (x8_1 + 1)), (t798), (t799), (t800), (by first | rfl | (simp; done) | (simp [*]; done)), H', ⟨by have := HK1.out; omega⟩, ⟨by refine rx ?_; exact Kd.R_mono (Kd.R_far (p := ⟨gb788, 2, none⟩) (Kd.R_far (p := ⟨gb788, 1, none⟩) (Kd.R_far (p := ⟨gb788, 0, none⟩) (Kd.R_types HO795.out BK788.out (by decide)) (fun _ hk => hk.2) (.string t798)) (fun _ hk => hk.2) (.int .i64 t799)) (fun _ hk => hk.2) (.int .i64 t800)) (fun _ hk => trivial)⟩, ⟨by refine bx ?_; refine blk_far ?_ NB783_788.out _; refine bx ?_; refine blk_far ?_ NB783_788.out _; refine bx ?_; refine blk_far ?_ NB783_788.out _; refine bx ?_; exact BK783.out⟩, ⟨by refine bx ?_; refine blk_put (cs := #[.string t798, .int .i64 t799, .int .i64 x789002_1]) ?_ 2 _ rfl; refine bx ?_; refine blk_put (cs := #[.string t798, .int .i64 x789001_1, .int .i64 x789002_1]) ?_ 1 _ rfl; refine bx ?_; refine blk_put (cs := #[.string x789000_1, .int .i64 x789001_1, .int .i64 x789002_1]) ?_ 0 _ rfl; refine bx ?_; exact BK788.out⟩, (hbw HB)⟩
       ·rw [if_neg c18] at H
        exact absurd H (by simp)
      ·rw [if_neg c17] at H
       have c17b0 : decide (x8_1 < (l1.length : Int)) = false := decide_eq_false c17
       clear c17
       replace H := Option.bind_eq_some_iff.mp H
       obtain ⟨⟨t802, t803, t804, t805⟩, A320, H⟩ := H
       try dsimp only at H
       have A32 := Aside0.mk A320
       clear A320
       have H' := Aside0.mk H
       clear H
       have hnb33 := NB788_783.out
       have hnc33 := NB783_788.out
       have hcz34_0 := b0 BK788
       have hcz34_1 := b1 BK788
       have hcz34_2 := b2 BK788
       have hfz34_0 := fz BK788 0
       have hfz34_1 := fz BK788 1
       have hfz34_2 := fz BK788 2
       go_wp2_with (first | ((with_reducible refine gate_callee (f := 19) rfl ?_); refine goesL_ (some 19) rfl rfl Try.func19 (by kernel_rfl) rfl #[.string x789000_1] rfl mxp ?_; (with_reducible refine (impl_RecEnd.calls k1 x789000_1 t792 _ A14.out).mono ?_); rintro e w35 ⟨rfl, hb⟩; refine ⟨_, rfl, ?_⟩; have t_ := And.intro (Aside0.mk (Kd.R_below (rx HO_7.out) hb)) <| And.intro (up BK783 hb) <| And.intro (up BK788 hb) <| (bs HB hb); clear HO_7 BK783 BK788 HB; obtain ⟨HO_7, BK783, BK788, HB⟩ := t_; (try clear hb); (try clear hb2); (try clear hk); (try clear hi); have hcz36_0 := b0 BK788; have hcz36_1 := b1 BK788; have hcz36_2 := b2 BK788; have hfz36_0 := fz BK788 0; have hfz36_1 := fz BK788 1; have hfz36_2 := fz BK788 2) | ((with_reducible refine gate_builtin (b := .append) (xs := #[.tmp 23, .tmp 26]) rfl ?_); at_builtin; refine Kd.R_append Kd.string (w0 := w) w.heap.size rfl (.tmp 23) (.tmp 26) 32 9 (.string ⟨#[]⟩) 16 rfl Try.underlying32 info9 rfl (by decide) (by omega) u7 x7_1 x789000_1 [.string x789000_1] (fun _ => True) (fun _ => False) rfl rfl ?aP (fun _ hk => hk.elim) ?aF ?aO ?aB ?aS ?aL ?_; (case aP => exact rfl); (case aB => exact (bw HB.out)); (case aF => exact (fun _ _ => trivial)); (case aO => exact (rx HO_7.out)); (case aS => exact (below_size (bw HB.out))); (case aL => have := LMc16.out; omega); intro v794 w37 ho hb hg hat; rw [← Ny793.out] at ho; have t_ := And.intro (Aside0.mk (blk_grown (g := gb783) (o := .cells #[.string (⟨#[]⟩ : ByteArray), .int .i64 0, .int .i64 0] 31 (0, 0)) (bx BK783.out) hg (Kd.R_ne HO_7.out BK783.out (by decide)))) <| And.intro (Aside0.mk (blk_grown (g := gb788) (o := .cells #[.string x789000_1, .int .i64 x789001_1, .int .i64 x789002_1] 31 (0, 0)) (bx BK788.out) hg (Kd.R_ne HO_7.out BK788.out (by decide)))) <| And.intro (Aside0.mk (hb)) <| (Aside0.mk (ho)); clear BK783 BK788 HB HO_7; obtain ⟨BK783, BK788, HB, HO795⟩ := t_; clear ho hb hg hat) | ((with_reducible refine gate_dst (N := 9) rfl ?_); refine box_event ?hg (N := 9) ?hd (cs := #[.int .i64 0, .bool false]) (t := 43) ?hr ?_; (case hd => rfl); (case hg => rfl); (case hr => first | (go_simp; done) | (go_simp; rfl)); intro gb796 hg w38 hbox hb; have t_ := And.intro (Aside0.mk (Kd.R_below (rx HO795.out) hb)) <| And.intro (up BK783 hb) <| And.intro (up BK788 hb) <| And.intro (bs HB hb) <| And.intro (Aside0.mk (hbox)) <| And.intro (gh hg HB) <| And.intro (gh hg HB) <| And.intro (nlt' hg BK783) <| And.intro (ngt' hg BK783) <| And.intro (nlt' hg BK788) <| (ngt' hg BK788); clear HO795 BK783 BK788 HB; obtain ⟨HO795, BK783, BK788, HB, BK796, GW796, GE796, NB783_796, NB796_783, NB788_796, NB796_788⟩ := t_; clear hb hbox hg; have hnb39 := NB796_783.out; have hnc39 := NB783_796.out; have hnb40 := NB796_788.out; have hnc40 := NB788_796.out; have hcz41_0 := b0 BK796; have hcz41_1 := b1 BK796; have hfz41_0 := fz BK796 0; have hfz41_1 := fz BK796 1; have hcz42_0 := b0 BK788; have hcz42_1 := b1 BK788; have hcz42_2 := b2 BK788; have hfz42_0 := fz BK788 0; have hfz42_1 := fz BK788 1; have hfz42_2 := fz BK788 2) | ((with_reducible refine gate_callee (f := 28) rfl ?_); refine goesL_ (some 41) rfl rfl Try.func28 (by kernel_rfl) rfl #[.slice A0 l0.length c0, .agg #[.string x789000_1, .int .i64 x789001_1, .int .i64 x789002_1], .agg #[.int .i64 1001, .bool false]] rfl mxp ?_; (with_reducible refine (impl_RecGo.calls k1 _ _ l0 x789000_1 x789001_1 x789002_1 1001 false t802 t803 t804 t805 _ ?side1 ?side2 A32.out).mono ?_); (case side1 => exact Kd.C_below HR0.out (bw HB.out)); (case side2 => exact HC0.out); rintro e w43 ⟨rfl, hb⟩; refine ⟨_, rfl, ?_⟩; have t_ := And.intro (Aside0.mk (Kd.R_below (by refine rx ?_; exact (Kd.R_mono (Kd.R_far (p := ⟨gb796, 1, none⟩) (Kd.R_far (p := ⟨gb796, 0, none⟩) (Kd.R_types HO795.out BK796.out (by decide)) (fun _ hk => hk.2) (.int .i64 1001)) (fun _ hk => hk.2) (.bool false)) (fun _ h_ => h_.1))) hb)) <| And.intro (Aside0.mk (blk_below (g := gb783) (o := .cells #[.string (⟨#[]⟩ : ByteArray), .int .i64 0, .int .i64 0] 31 (0, 0)) (by refine bx ?_; refine blk_far ?_ NB783_796.out _; refine bx ?_; refine blk_far ?_ NB783_796.out _; refine bx ?_; exact BK783.out) hb)) <| And.intro (Aside0.mk (blk_below (g := gb788) (o := .cells #[.string x789000_1, .int .i64 x789001_1, .int .i64 x789002_1] 31 (0, 0)) (by refine bx ?_; refine blk_far ?_ NB788_796.out _; refine bx ?_; refine blk_far ?_ NB788_796.out _; refine bx ?_; exact BK788.out) hb)) <| And.intro (Aside0.mk (blk_below (g := gb796) (o := .cells #[.int .i64 1001, .bool false] 43 (0, 0)) (by refine bx ?_; refine blk_put (cs := #[.int .i64 1001, .bool false]) ?_ 1 _ rfl; refine bx ?_; refine blk_put (cs := #[.int .i64 0, .bool false]) ?_ 0 _ rfl; refine bx ?_; exact BK796.out) hb)) <| (bs HB hb); clear HO795 BK783 BK788 BK796 HB; obtain ⟨HO795, BK783, BK788, BK796, HB⟩ := t_; (try clear hb); (try clear hb2); (try clear hk); (try clear hi); have hcz44_0 := b0 BK788; have hcz44_1 := b1 BK788; have hcz44_2 := b2 BK788; have hfz44_0 := fz BK788 0; have hfz44_1 := fz BK788 1; have hfz44_2 := fz BK788 2))
       go_roundg k1
       case measure => have := HK1.out; omega
       case rel => exact ⟨(y793), (wrap64 (x8_1 + 1)), (t802), (t803), (t804), (by first | rfl | (simp; done) | (simp [*]; done)), H', ⟨by have := HK1.out; omega⟩, ⟨by refine rx ?_; exact Kd.R_mono (Kd.R_far (p := ⟨gb788, 2, none⟩) (Kd.R_far (p := ⟨gb788, 1, none⟩) (Kd.R_far (p := ⟨gb788, 0, none⟩) (Kd.R_types HO795.out BK788.out (by decide)) (fun _ hk => hk.2) (.string t802)) (fun _ hk => hk.2) (.int .i64 t803)) (fun _ hk => hk.2) (.int .i64 t804)) (fun _ hk => trivial)⟩, ⟨by refine bx ?_; refine blk_far ?_ NB783_788.out _; refine bx ?_; refine blk_far ?_ NB783_788.out _; refine bx ?_; refine blk_far ?_ NB783_788.out _; refine bx ?_; exact BK783.out⟩, ⟨by refine bx ?_; refine blk_put (cs := #[.string t802, .int .i64 t803, .int .i64 x789002_1]) ?_ 2 _ rfl; refine bx ?_; refine blk_put (cs := #[.string t802, .int .i64 x789001_1, .int .i64 x789002_1]) ?_ 1 _ rfl; refine bx ?_; refine blk_put (cs := #[.string x789000_1, .int .i64 x789001_1, .int .i64 x789002_1]) ?_ 0 _ rfl; refine bx ?_; exact BK788.out⟩, (hbw HB)⟩
     ·rw [if_neg c16] at H
      exact absurd H (by simp)
    ·rw [if_neg c15] at H
     have c15b0 : (t792 == 0) = false := beq_eq_false_iff_ne.mpr c15
     have c15b1 : (t792 != 0) = true := bne_iff_ne.mpr c15
     simp only [Option.some.injEq, Prod.mk.injEq] at H
     obtain ⟨rfl, rfl, rfl, rfl⟩ := H
     have hnb45 := NB788_783.out
     have hnc45 := NB783_788.out
     have hcz46_0 := b0 BK788
     have hcz46_1 := b1 BK788
     have hcz46_2 := b2 BK788
     have hfz46_0 := fz BK788 0
     have hfz46_1 := fz BK788 1
     have hfz46_2 := fz BK788 2
     go_wp2_with (first | ((with_reducible refine gate_callee (f := 19) rfl ?_); refine goesL_ (some 19) rfl rfl Try.func19 (by kernel_rfl) rfl #[.string x789000_1] rfl mxp ?_; (with_reducible refine (impl_RecEnd.calls k1 x789000_1 t792 _ A14.out).mono ?_); rintro e w47 ⟨rfl, hb⟩; refine ⟨_, rfl, ?_⟩; have t_ := And.intro (Aside0.mk (Kd.R_below (rx HO_7.out) hb)) <| And.intro (up BK783 hb) <| And.intro (up BK788 hb) <| (bs HB hb); clear HO_7 BK783 BK788 HB; obtain ⟨HO_7, BK783, BK788, HB⟩ := t_; (try clear hb); (try clear hb2); (try clear hk); (try clear hi); have hcz48_0 := b0 BK788; have hcz48_1 := b1 BK788; have hcz48_2 := b2 BK788; have hfz48_0 := fz BK788 0; have hfz48_1 := fz BK788 1; have hfz48_2 := fz BK788 2; have hcz49_0 := b0 BK783; have hcz49_1 := b1 BK783; have hcz49_2 := b2 BK783; have hfz49_0 := fz BK783 0; have hfz49_1 := fz BK783 1; have hfz49_2 := fz BK783 2))
     refine bodyPost_ret (results_ct rfl _ _ gb783 31 #[.string x789000_1, .int .i64 x789001_1, .int .i64 x789002_1] (0, 0) _ rfl (by refine bx ?_; refine blk_put (cs := #[.string x789000_1, .int .i64 x789001_1, .int .i64 0]) ?_ 2 _ rfl; refine bx ?_; refine blk_put (cs := #[.string x789000_1, .int .i64 0, .int .i64 0]) ?_ 1 _ rfl; refine bx ?_; refine blk_put (cs := #[.string (⟨#[]⟩ : ByteArray), .int .i64 0, .int .i64 0]) ?_ 0 _ rfl; refine bx ?_; exact BK783.out) Try.underlying31 rfl (by kernel_rfl)) rfl ?_
     exact ⟨_, exq, by refine rx ?_; exact Kd.R_mono (Kd.R_far (p := ⟨gb783, 2, none⟩) (Kd.R_far (p := ⟨gb783, 1, none⟩) (Kd.R_far (p := ⟨gb783, 0, none⟩) (Kd.R_types HO_7.out BK783.out (by decide)) (fun _ hk => hk.2) (.string x789000_1)) (fun _ hk => hk.2) (.int .i64 x789001_1)) (fun _ hk => hk.2) (.int .i64 x789002_1)) (fun _ hk => trivial), bw HB.out⟩
 ·replace c4 := Bool.eq_false_iff.mpr c4
  subst c4
  rw [if_neg (show ¬ (false = true) by decide)] at H
  simp only [Option.some.injEq, Prod.mk.injEq] at H
  obtain ⟨rfl, rfl, rfl, rfl⟩ := H
  go_enter Try.func21, Try.ntmps21
  go_wp2_with (first | ((with_reducible refine gate_dst (N := 4) rfl ?_); refine box_event ?hg (N := 4) ?hd (cs := #[.string (⟨#[]⟩ : ByteArray), .int .i64 0, .int .i64 0]) (t := 31) ?hr ?_; (case hd => rfl); (case hg => rfl); (case hr => first | (go_simp; done) | (go_simp; rfl)); intro gb783 hg w50 hbox hb; have t_ := And.intro (bs HB hb) <| And.intro (Aside0.mk (hbox)) <| And.intro (gh hg HB) <| (gh hg HB); clear HB; obtain ⟨HB, BK783, GW783, GE783⟩ := t_; clear hb hbox hg) | ((with_reducible refine gate_callee (f := 36) rfl ?_); refine goesL_ (some 11) rfl rfl Try.func36 (by kernel_rfl) rfl #[.slice A0 l0.length c0] rfl mxp ?_; (with_reducible refine (impl_RecOk.calls k _ _ l0 false _ ?side1 ?side2 A3.out).mono ?_); (case side1 => exact cx (Kd.C_below HR0.out HB.out)); (case side2 => exact HC0.out); rintro e w51 ⟨rfl, hb⟩; refine ⟨_, rfl, ?_⟩; replace BK783 := up BK783 hb; replace HB := bs HB hb; (try clear hb); (try clear hb2); (try clear hk); (try clear hi); have hcz52_0 := b0 BK783; have hcz52_1 := b1 BK783; have hcz52_2 := b2 BK783; have hfz52_0 := fz BK783 0; have hfz52_1 := fz BK783 1; have hfz52_2 := fz BK783 2))
  refine bodyPost_ret (results_ct rfl _ _ gb783 31 #[.string (⟨#[]⟩ : ByteArray), .int .i64 0, .int .i64 0] (0, 0) _ rfl (by refine bx ?_; refine blk_put (cs := #[.string (⟨#[]⟩ : ByteArray), .int .i64 0, .int .i64 0]) ?_ 2 _ rfl; refine bx ?_; refine blk_put (cs := #[.string (⟨#[]⟩ : ByteArray), .int .i64 0, .int .i64 0]) ?_ 1 _ rfl; refine bx ?_; refine blk_put (cs := #[.string (⟨#[]⟩ : ByteArray), .int .i64 0, .int .i64 0]) ?_ 0 _ rfl; refine bx ?_; exact BK783.out) Try.underlying31 rfl (by kernel_rfl)) rfl ?_
  exact ⟨_, exq, by first | exact Kd.R_nil _ _ _ _ _ | exact Kd.N_nil _ _ _ _ _ | exact Kd.V_nil _ _ _ _ _ | exact Kd.Q_nil _ _ _ _ _ | exact Kd.S_nil _ _ _ _ _, bw HB.out⟩


/-! ### spec_l2Bound: function 84 -/
def spec_l2Bound.f : Nat → List (S39) → ByteArray → Option (Int)
 | 0, _, _ => none
 | k + 1, l0, a1 => (spec_l2At.f k l0 a1).bind fun t389 => (if t389 < 0 then (some 0) else (if 0 ≤ t389 then (if t389 < (l0.length : Int) then ((spec_l2Bound.f k l0 ((rd_T39 l0 t389).f6)).bind fun t391 => ((spec_l2Bound.f k l0 ((rd_T39 l0 t389).f7)).bind fun t393 => (if t391 < t393 then (some (wrap64 (t393 + ((rd_T39 l0 t389).f5)))) else (some (wrap64 (t391 + ((rd_T39 l0 t389).f5))))))) else (none)) else (none)))
theorem spec_l2Bound.mono_l : ∀ k, (∀ y0 y1, LeO (spec_l2Bound.f k y0 y1) (spec_l2Bound.f (k + 1) y0 y1))
 | 0 => fun _ _ r h => by simp [spec_l2Bound.f] at h
 | k + 1 => by
  have ih0 := spec_l2Bound.mono_l k
  ·intro y0 y1
   unfold spec_l2Bound.f
   repeat' first
   | (with_reducible exact ih0 _ _)
   | (with_reducible exact spec_l2At.mono _ _ _)
   | (with_reducible exact LeO.refl _)
   | (with_reducible exact LeO.none _)
   | (with_reducible refine LeO.ite ?_ ?_)
   | (with_reducible refine LeO.bind ?_ (fun _ => ?_))
   | exact ih0 _ _
   | exact spec_l2At.mono _ _ _
   | exact LeO.none _
   | refine LeO.ite ?_ ?_
   | refine LeO.bind ?_ (fun _ => ?_)
theorem spec_l2Bound.mono : ∀ a0 a1 k, LeO (spec_l2Bound.f k a0 a1) (spec_l2Bound.f (k + 1) a0 a1) := by
 intro a0 a1 k
 have ih0 := spec_l2Bound.mono_l k
 exact ih0 a0 a1
set_option maxHeartbeats 8000000 in
set_option maxRecDepth 100000 in
theorem spec_l2Bound.calls (k : Nat) : ∀ (A0 : Option Addr) (c0 : Nat) (l0 : List (S39)) (a1 : ByteArray) (r : Int) (w : World) (hr0 : Kd.C k39 w A0 l0.length l0) (hc0 : l0.length ≤ c0) (h : spec_l2Bound.f k l0 a1 = some r),
  Calls Try.prog 84 #[.slice A0 l0.length c0, .string a1] w fun e w' => e = .returned (.int .i64 r) ∧ Drawn0 w w' := by
 induction k using Nat.strongRecOn with
 | _ k ih =>
 intro A0 c0 l0 a1 r w hr0 hc0 h
 cases k with
 | zero => exact absurd h (by simp [spec_l2Bound.f])
 | succ k =>
 simp only [spec_l2Bound.f] at h
 have HR0 := Aside0.mk hr0
 have HC0 := Aside0.mk hc0
 clear hr0 hc0
 have H : ((spec_l2At.f k l0 a1).bind fun t389 => (if t389 < 0 then (some 0) else (if 0 ≤ t389 then (if t389 < (l0.length : Int) then ((spec_l2Bound.f k l0 ((rd_T39 l0 t389).f6)).bind fun t391 => ((spec_l2Bound.f k l0 ((rd_T39 l0 t389).f7)).bind fun t393 => (if t391 < t393 then (some (wrap64 (t393 + ((rd_T39 l0 t389).f5)))) else (some (wrap64 (t391 + ((rd_T39 l0 t389).f5))))))) else (none)) else (none)))) = some r := h
 clear h
 replace H := Option.bind_eq_some_iff.mp H
 obtain ⟨t389, A30, H⟩ := H
 try dsimp only at H
 have A3 := Aside0.mk A30
 clear A30
 by_cases c4 : t389 < 0
 ·rw [if_pos c4] at H
  have c4b0 : decide (t389 < 0) = true := decide_eq_true c4
  clear c4
  obtain rfl := Option.some.inj H
  go_enter Try.func84, Try.ntmps84
  go_wp2_with (first | ((with_reducible refine gate_callee (f := 66) rfl ?_); refine goesL_ (some 10) rfl rfl Try.func66 (by kernel_rfl) rfl #[.slice A0 l0.length c0, .string a1] rfl mxp ?_; (with_reducible refine (spec_l2At.calls k _ _ l0 a1 t389 _ ?side1 ?side2 A3.out).mono ?_); (case side1 => exact cx HR0.out); (case side2 => exact HC0.out); rintro e w' ⟨rfl, ⟨nd, rfl⟩⟩; refine ⟨_, rfl, ?_⟩))
  go_ret
  exact ⟨by first | rfl | (simp; done) | (simp [*]; done), by repeat (first | exact Drawn0.refl _ | apply Drawn0.step)⟩
 ·rw [if_neg c4] at H
  have c4b0 : decide (t389 < 0) = false := decide_eq_false c4
  clear c4
  by_cases c5 : 0 ≤ t389
  ·rw [if_pos c5] at H
   have c5b0 : decide (0 ≤ t389) = true := decide_eq_true c5
   clear c5
   by_cases c6 : t389 < (l0.length : Int)
   ·rw [if_pos c6] at H
    have c6b0 : decide (t389 < (l0.length : Int)) = true := decide_eq_true c6
    clear c6
    replace H := Option.bind_eq_some_iff.mp H
    obtain ⟨t391, A70, H⟩ := H
    try dsimp only at H
    have A7 := Aside0.mk A70
    clear A70
    replace H := Option.bind_eq_some_iff.mp H
    obtain ⟨t393, A80, H⟩ := H
    try dsimp only at H
    have A8 := Aside0.mk A80
    clear A80
    by_cases c9 : t391 < t393
    ·rw [if_pos c9] at H
     have c9b0 : decide (t391 < t393) = true := decide_eq_true c9
     clear c9
     obtain rfl := Option.some.inj H
     go_enter Try.func84, Try.ntmps84
     go_wp2_with (first | ((with_reducible refine gate_callee (f := 66) rfl ?_); refine goesL_ (some 10) rfl rfl Try.func66 (by kernel_rfl) rfl #[.slice A0 l0.length c0, .string a1] rfl mxp ?_; (with_reducible refine (spec_l2At.calls k _ _ l0 a1 t389 _ ?side1 ?side2 A3.out).mono ?_); (case side1 => exact cx HR0.out); (case side2 => exact HC0.out); rintro e w' ⟨rfl, ⟨nd, rfl⟩⟩; refine ⟨_, rfl, ?_⟩; have p390 : 0 ≤ (t389 : Int) := oda; have q390 : t389 < (l0.length : Int) := oda; obtain ⟨ad390, e390, hx390_0, hx390_1, hx390_2, hx390_3, hx390_4, hx390_5, hx390_6, hx390_7⟩ := at_T39 HR0.out t389 p390 q390; cases e390; replace p390 := eq_true p390; replace q390 := eq_true q390) | ((with_reducible refine gate_callee (f := 84) rfl ?_); refine goesL_ (some 19) rfl rfl Try.func84 (by kernel_rfl) rfl #[.slice (some ad390) l0.length c0, .string ((rd_T39 l0 t389).f6)] rfl mxp ?_; (with_reducible refine (ih k (by omega) _ _ l0 ((rd_T39 l0 t389).f6) t391 _ ?side1 ?side2 A7.out).mono ?_); (case side1 => exact cx HR0.out); (case side2 => exact HC0.out); rintro e w' ⟨rfl, ⟨nd, rfl⟩⟩; refine ⟨_, rfl, ?_⟩; have p392 : 0 ≤ (t389 : Int) := oda; have q392 : t389 < (l0.length : Int) := oda; obtain ⟨ad392, e392, hx392_0, hx392_1, hx392_2, hx392_3, hx392_4, hx392_5, hx392_6, hx392_7⟩ := at_T39 HR0.out t389 p392 q392; obtain rfl : ad390 = ad392 := (by injection e392); replace p392 := eq_true p392; replace q392 := eq_true q392) | ((with_reducible refine gate_callee (f := 84) rfl ?_); refine goesL_ (some 26) rfl rfl Try.func84 (by kernel_rfl) rfl #[.slice (some ad390) l0.length c0, .string ((rd_T39 l0 t389).f7)] rfl mxp ?_; (with_reducible refine (ih k (by omega) _ _ l0 ((rd_T39 l0 t389).f7) t393 _ ?side1 ?side2 A8.out).mono ?_); (case side1 => exact cx HR0.out); (case side2 => exact HC0.out); rintro e w' ⟨rfl, ⟨nd, rfl⟩⟩; refine ⟨_, rfl, ?_⟩; have p394 : 0 ≤ (t389 : Int) := oda; have q394 : t389 < (l0.length : Int) := oda; obtain ⟨ad394, e394, hx394_0, hx394_1, hx394_2, hx394_3, hx394_4, hx394_5, hx394_6, hx394_7⟩ := at_T39 HR0.out t389 p394 q394; obtain rfl : ad390 = ad394 := (by injection e394); replace p394 := eq_true p394; replace q394 := eq_true q394))
     go_ret
     exact ⟨by first | rfl | (simp; done) | (simp [*]; done), by repeat (first | exact Drawn0.refl _ | apply Drawn0.step)⟩
    ·rw [if_neg c9] at H
     have c9b0 : decide (t391 < t393) = false := decide_eq_false c9
     clear c9
     obtain rfl := Option.some.inj H
     go_enter Try.func84, Try.ntmps84
     go_wp2_with (first | ((with_reducible refine gate_callee (f := 66) rfl ?_); refine goesL_ (some 10) rfl rfl Try.func66 (by kernel_rfl) rfl #[.slice A0 l0.length c0, .string a1] rfl mxp ?_; (with_reducible refine (spec_l2At.calls k _ _ l0 a1 t389 _ ?side1 ?side2 A3.out).mono ?_); (case side1 => exact cx HR0.out); (case side2 => exact HC0.out); rintro e w' ⟨rfl, ⟨nd, rfl⟩⟩; refine ⟨_, rfl, ?_⟩; have p390 : 0 ≤ (t389 : Int) := oda; have q390 : t389 < (l0.length : Int) := oda; obtain ⟨ad390, e390, hx390_0, hx390_1, hx390_2, hx390_3, hx390_4, hx390_5, hx390_6, hx390_7⟩ := at_T39 HR0.out t389 p390 q390; cases e390; replace p390 := eq_true p390; replace q390 := eq_true q390) | ((with_reducible refine gate_callee (f := 84) rfl ?_); refine goesL_ (some 19) rfl rfl Try.func84 (by kernel_rfl) rfl #[.slice (some ad390) l0.length c0, .string ((rd_T39 l0 t389).f6)] rfl mxp ?_; (with_reducible refine (ih k (by omega) _ _ l0 ((rd_T39 l0 t389).f6) t391 _ ?side1 ?side2 A7.out).mono ?_); (case side1 => exact cx HR0.out); (case side2 => exact HC0.out); rintro e w' ⟨rfl, ⟨nd, rfl⟩⟩; refine ⟨_, rfl, ?_⟩; have p392 : 0 ≤ (t389 : Int) := oda; have q392 : t389 < (l0.length : Int) := oda; obtain ⟨ad392, e392, hx392_0, hx392_1, hx392_2, hx392_3, hx392_4, hx392_5, hx392_6, hx392_7⟩ := at_T39 HR0.out t389 p392 q392; obtain rfl : ad390 = ad392 := (by injection e392); replace p392 := eq_true p392; replace q392 := eq_true q392) | ((with_reducible refine gate_callee (f := 84) rfl ?_); refine goesL_ (some 26) rfl rfl Try.func84 (by kernel_rfl) rfl #[.slice (some ad390) l0.length c0, .string ((rd_T39 l0 t389).f7)] rfl mxp ?_; (with_reducible refine (ih k (by omega) _ _ l0 ((rd_T39 l0 t389).f7) t393 _ ?side1 ?side2 A8.out).mono ?_); (case side1 => exact cx HR0.out); (case side2 => exact HC0.out); rintro e w' ⟨rfl, ⟨nd, rfl⟩⟩; refine ⟨_, rfl, ?_⟩; have p395 : 0 ≤ (t389 : Int) := oda; have q395 : t389 < (l0.length : Int) := oda; obtain ⟨ad395, e395, hx395_0, hx395_1, hx395_2, hx395_3, hx395_4, hx395_5, hx395_6, hx395_7⟩ := at_T39 HR0.out t389 p395 q395; obtain rfl : ad390 = ad395 := (by injection e395); replace p395 := eq_true p395; replace q395 := eq_true q395))
     go_ret
     exact ⟨by first | rfl | (simp; done) | (simp [*]; done), by repeat (first | exact Drawn0.refl _ | apply Drawn0.step)⟩
   ·rw [if_neg c6] at H
    exact absurd H (by simp)
  ·rw [if_neg c5] at H
   exact absurd H (by simp)


/-! ### spec_l4At: function 86 -/
def spec_l4At.f (k : Nat) (l0 : List (S39)) (a1 : ByteArray) (a2 : Int) : Option (ByteArray × Int × Int) := (spec_l2Bound.f k l0 a1).bind fun t439 => (some (a1, a2, t439))
theorem spec_l4At.mono : ∀ a0 a1 a2 k, LeO (spec_l4At.f k a0 a1 a2) (spec_l4At.f (k + 1) a0 a1 a2) := by
 intro a0 a1 a2 k
 unfold spec_l4At.f
 repeat' first
   | (with_reducible exact spec_l2Bound.mono _ _ _)
   | (with_reducible exact LeO.refl _)
   | (with_reducible exact LeO.none _)
   | (with_reducible refine LeO.ite ?_ ?_)
   | (with_reducible refine LeO.bind ?_ (fun _ => ?_))
   | exact spec_l2Bound.mono _ _ _
   | exact LeO.none _
   | refine LeO.ite ?_ ?_
   | refine LeO.bind ?_ (fun _ => ?_)
set_option maxHeartbeats 8000000 in
set_option maxRecDepth 100000 in
theorem spec_l4At.calls (k : Nat) (A0 : Option Addr) (c0 : Nat) (l0 : List (S39)) (a1 : ByteArray) (a2 : Int) (r1 : ByteArray) (r2 : Int) (r3 : Int) (w : World) (hr0 : Kd.C k39 w A0 l0.length l0) (hc0 : l0.length ≤ c0) (h : spec_l4At.f k l0 a1 a2 = some (r1, r2, r3)) :
  Calls Try.prog 86 #[.slice A0 l0.length c0, .string a1, .int .i64 a2] w fun e w' => e = .returned (.agg #[.string r1, .int .i64 r2, .int .i64 r3]) ∧ Below w.heap.size w w' := by
 have hu31 := Try.underlying31
 have HR0 := Aside0.mk hr0
 have HC0 := Aside0.mk hc0
 clear hr0 hc0
 have HB := Aside0.mk (Below.refl w.heap.size w)
 have H : ((spec_l2Bound.f k l0 a1).bind fun t439 => (some (a1, a2, t439))) = some (r1, r2, r3) := h
 clear h
 replace H := Option.bind_eq_some_iff.mp H
 obtain ⟨t439, A40, H⟩ := H
 try dsimp only at H
 have A4 := Aside0.mk A40
 clear A40
 simp only [Option.some.injEq, Prod.mk.injEq] at H
 obtain ⟨rfl, rfl, rfl⟩ := H
 go_enter Try.func86, Try.ntmps86
 go_wp2_with (first | ((with_reducible refine gate_dst (N := 6) rfl ?_); refine box_event ?hg (N := 6) ?hd (cs := #[.string (⟨#[]⟩ : ByteArray), .int .i64 0, .int .i64 0]) (t := 31) ?hr ?_; (case hd => rfl); (case hg => rfl); (case hr => first | (go_simp; done) | (go_simp; rfl)); intro gb438 hg w5 hbox hb; have t_ := And.intro (bs HB hb) <| And.intro (Aside0.mk (hbox)) <| And.intro (gh hg HB) <| (gh hg HB); clear HB; obtain ⟨HB, BK438, GW438, GE438⟩ := t_; clear hb hbox hg) | ((with_reducible refine gate_callee (f := 84) rfl ?_); refine goesL_ (some 11) rfl rfl Try.func84 (by kernel_rfl) rfl #[.slice A0 l0.length c0, .string a1] rfl mxp ?_; (with_reducible refine (spec_l2Bound.calls k _ _ l0 a1 t439 _ ?side1 ?side2 A4.out).mono ?_); (case side1 => exact cx (Kd.C_below HR0.out HB.out)); (case side2 => exact HC0.out); rintro e w' ⟨rfl, ⟨nd, rfl⟩⟩; refine ⟨_, rfl, ?_⟩; (try (rw [drewN_self w5]; generalize hq_ : World.drewN w5 _ = w5; have n0_ : Aside0 (w5.heap[gb438]? = some (.cells #[.string (⟨#[]⟩ : ByteArray), .int .i64 0, .int .i64 0] 31 (0, 0))) := ⟨by rw [← hq_]; exact (bx BK438.out)⟩; have n1_ : Aside0 (Below w.heap.size w w5) := ⟨by rw [← hq_]; exact (bw HB.out)⟩; clear BK438 HB hq_; have BK438 := n0_; have HB := n1_; clear n0_ n1_)); have hcz6_0 := b0 BK438; have hcz6_1 := b1 BK438; have hcz6_2 := b2 BK438; have hfz6_0 := fz BK438 0; have hfz6_1 := fz BK438 1; have hfz6_2 := fz BK438 2))
 refine bodyPost_ret (results_cell_row rfl _ _ gb438 31 #[.string a1, .int .i64 a2, .int .i64 t439] (0, 0) _ rfl (by refine bx ?_; refine blk_put (cs := #[.string a1, .int .i64 a2, .int .i64 0]) ?_ 2 _ rfl; refine bx ?_; refine blk_put (cs := #[.string a1, .int .i64 0, .int .i64 0]) ?_ 1 _ rfl; refine bx ?_; refine blk_put (cs := #[.string (⟨#[]⟩ : ByteArray), .int .i64 0, .int .i64 0]) ?_ 0 _ rfl; refine bx ?_; exact BK438.out) Try.underlying31 rfl (by kernel_rfl)) rfl ?_
 exact ⟨exq, bw HB.out⟩


/-! ### spec_RecBegin: function 42 -/
def spec_RecBegin.f (k : Nat) (l0 : List (S39)) : Option (ByteArray × Int × Int) := (spec_RecOk.f k l0).bind fun t441 => (if t441 = true then (if 0 < (l0.length : Int) then ((spec_l4At.f k l0 ((rd_T39 l0 0).f0) 0).bind fun bt443 => (some (bt443.1, bt443.2.1, bt443.2.2))) else (none)) else (some ((⟨#[]⟩ : ByteArray), 0, 0)))
theorem spec_RecBegin.mono : ∀ a0 k, LeO (spec_RecBegin.f k a0) (spec_RecBegin.f (k + 1) a0) := by
 intro a0 k
 unfold spec_RecBegin.f
 repeat' first
   | (with_reducible exact spec_RecOk.mono _ _)
   | (with_reducible exact spec_l4At.mono _ _ _ _)
   | (with_reducible exact LeO.refl _)
   | (with_reducible exact LeO.none _)
   | (with_reducible refine LeO.ite ?_ ?_)
   | (with_reducible refine LeO.bind ?_ (fun _ => ?_))
   | exact spec_RecOk.mono _ _
   | exact spec_l4At.mono _ _ _ _
   | exact LeO.none _
   | refine LeO.ite ?_ ?_
   | refine LeO.bind ?_ (fun _ => ?_)
set_option maxHeartbeats 8000000 in
set_option maxRecDepth 100000 in
theorem spec_RecBegin.calls (k : Nat) (A0 : Option Addr) (c0 : Nat) (l0 : List (S39)) (r1 : ByteArray) (r2 : Int) (r3 : Int) (w : World) (hr0 : Kd.C k39 w A0 l0.length l0) (hc0 : l0.length ≤ c0) (h : spec_RecBegin.f k l0 = some (r1, r2, r3)) :
  Calls Try.prog 42 #[.slice A0 l0.length c0] w fun e w' => e = .returned (.agg #[.string r1, .int .i64 r2, .int .i64 r3]) ∧ Below w.heap.size w w' := by
 have hu31 := Try.underlying31
 have HR0 := Aside0.mk hr0
 have HC0 := Aside0.mk hc0
 clear hr0 hc0
 have HB := Aside0.mk (Below.refl w.heap.size w)
 have H : ((spec_RecOk.f k l0).bind fun t441 => (if t441 = true then (if 0 < (l0.length : Int) then ((spec_l4At.f k l0 ((rd_T39 l0 0).f0) 0).bind fun bt443 => (some (bt443.1, bt443.2.1, bt443.2.2))) else (none)) else (some ((⟨#[]⟩ : ByteArray), 0, 0)))) = some (r1, r2, r3) := h
 clear h
 replace H := Option.bind_eq_some_iff.mp H
 obtain ⟨t441, A20, H⟩ := H
 try dsimp only at H
 have A2 := Aside0.mk A20
 clear A20
 by_cases c3 : t441 = true
 ·subst c3
  rw [if_pos rfl] at H
  by_cases c4 : 0 < (l0.length : Int)
  ·rw [if_pos c4] at H
   have c4b0 : decide (0 < (l0.length : Int)) = true := decide_eq_true c4
   have c4b1 : decide (0 < l0.length) = true := decide_eq_true (by omega)
   clear c4
   replace H := Option.bind_eq_some_iff.mp H
   obtain ⟨⟨t443, t444, t445⟩, A50, H⟩ := H
   try dsimp only at H
   have A5 := Aside0.mk A50
   clear A50
   simp only [Option.some.injEq, Prod.mk.injEq] at H
   obtain ⟨rfl, rfl, rfl⟩ := H
   go_enter Try.func42, Try.ntmps42
   go_wp2_with (first | ((with_reducible refine gate_dst (N := 2) rfl ?_); refine box_event ?hg (N := 2) ?hd (cs := #[.string (⟨#[]⟩ : ByteArray), .int .i64 0, .int .i64 0]) (t := 31) ?hr ?_; (case hd => rfl); (case hg => rfl); (case hr => first | (go_simp; done) | (go_simp; rfl)); intro gb440 hg w6 hbox hb; have t_ := And.intro (bs HB hb) <| And.intro (Aside0.mk (hbox)) <| And.intro (gh hg HB) <| (gh hg HB); clear HB; obtain ⟨HB, BK440, GW440, GE440⟩ := t_; clear hb hbox hg) | ((with_reducible refine gate_callee (f := 24) rfl ?_); refine goesL_ (some 4) rfl rfl Try.func24 (by kernel_rfl) rfl #[.slice A0 l0.length c0] rfl mxp ?_; (with_reducible refine (spec_RecOk.calls k _ _ l0 true _ ?side1 ?side2 A2.out).mono ?_); (case side1 => exact cx (Kd.C_below HR0.out HB.out)); (case side2 => exact HC0.out); rintro e w7 ⟨rfl, hb⟩; refine ⟨_, rfl, ?_⟩; replace BK440 := up BK440 hb; replace HB := bs HB hb; (try clear hb); (try clear hb2); (try clear hk); (try clear hi); have p442 : 0 ≤ (0 : Int) := (by omega); have q442 : 0 < (l0.length : Int) := oda; obtain ⟨ad442, e442, hx442_0, hx442_1, hx442_2, hx442_3, hx442_4, hx442_5, hx442_6, hx442_7⟩ := at_T39 HR0.out 0 p442 q442; cases e442; have qi442 : (0 < l0.length) = True := eq_true (by omega); (try rw [show ((0 : Int)).toNat = 0 from rfl] at hx442_0); (try rw [show 0 * 8 = 0 from rfl] at hx442_0); (try rw [Addr.add_zero'] at hx442_0); (try rw [show ((0 : Int)).toNat = 0 from rfl] at hx442_1); (try rw [show 0 * 8 = 0 from rfl] at hx442_1); (try rw [Addr.add_zero'] at hx442_1); (try rw [show ((0 : Int)).toNat = 0 from rfl] at hx442_2); (try rw [show 0 * 8 = 0 from rfl] at hx442_2); (try rw [Addr.add_zero'] at hx442_2); (try rw [show ((0 : Int)).toNat = 0 from rfl] at hx442_3); (try rw [show 0 * 8 = 0 from rfl] at hx442_3); (try rw [Addr.add_zero'] at hx442_3); (try rw [show ((0 : Int)).toNat = 0 from rfl] at hx442_4); (try rw [show 0 * 8 = 0 from rfl] at hx442_4); (try rw [Addr.add_zero'] at hx442_4); (try rw [show ((0 : Int)).toNat = 0 from rfl] at hx442_5); (try rw [show 0 * 8 = 0 from rfl] at hx442_5); (try rw [Addr.add_zero'] at hx442_5); (try rw [show ((0 : Int)).toNat = 0 from rfl] at hx442_6); (try rw [show 0 * 8 = 0 from rfl] at hx442_6); (try rw [Addr.add_zero'] at hx442_6); (try rw [show ((0 : Int)).toNat = 0 from rfl] at hx442_7); (try rw [show 0 * 8 = 0 from rfl] at hx442_7); (try rw [Addr.add_zero'] at hx442_7); replace hx442_0 := bcl HB hx442_0; replace hx442_1 := bcl HB hx442_1; replace hx442_2 := bcl HB hx442_2; replace hx442_3 := bcl HB hx442_3; replace hx442_4 := bcl HB hx442_4; replace hx442_5 := bcl HB hx442_5; replace hx442_6 := bcl HB hx442_6; replace hx442_7 := bcl HB hx442_7; replace p442 := eq_true p442; replace q442 := eq_true q442) | ((with_reducible refine gate_callee (f := 86) rfl ?_); refine goesL_ (some 12) rfl rfl Try.func86 (by kernel_rfl) rfl #[.slice (some ad442) l0.length c0, .string ((rd_T39 l0 0).f0), .int .i64 0] rfl mxp ?_; (with_reducible refine (spec_l4At.calls k _ _ l0 ((rd_T39 l0 0).f0) 0 t443 t444 t445 _ ?side1 ?side2 A5.out).mono ?_); (case side1 => exact cx (Kd.C_below HR0.out HB.out)); (case side2 => exact HC0.out); rintro e w8 ⟨rfl, hb⟩; refine ⟨_, rfl, ?_⟩; replace BK440 := up BK440 hb; replace HB := bs HB hb; (try clear hb); (try clear hb2); (try clear hk); (try clear hi); have hcz9_0 := b0 BK440; have hcz9_1 := b1 BK440; have hcz9_2 := b2 BK440; have hfz9_0 := fz BK440 0; have hfz9_1 := fz BK440 1; have hfz9_2 := fz BK440 2))
   refine bodyPost_ret (results_cell_row rfl _ _ gb440 31 #[.string t443, .int .i64 t444, .int .i64 t445] (0, 0) _ rfl (by refine bx ?_; refine blk_put (cs := #[.string t443, .int .i64 t444, .int .i64 0]) ?_ 2 _ rfl; refine bx ?_; refine blk_put (cs := #[.string t443, .int .i64 0, .int .i64 0]) ?_ 1 _ rfl; refine bx ?_; refine blk_put (cs := #[.string (⟨#[]⟩ : ByteArray), .int .i64 0, .int .i64 0]) ?_ 0 _ rfl; refine bx ?_; exact BK440.out) Try.underlying31 rfl (by kernel_rfl)) rfl ?_
   exact ⟨exq, bw HB.out⟩
  ·rw [if_neg c4] at H
   exact absurd H (by simp)
 ·replace c3 := Bool.eq_false_iff.mpr c3
  subst c3
  rw [if_neg (show ¬ (false = true) by decide)] at H
  simp only [Option.some.injEq, Prod.mk.injEq] at H
  obtain ⟨rfl, rfl, rfl⟩ := H
  go_enter Try.func42, Try.ntmps42
  go_wp2_with (first | ((with_reducible refine gate_dst (N := 2) rfl ?_); refine box_event ?hg (N := 2) ?hd (cs := #[.string (⟨#[]⟩ : ByteArray), .int .i64 0, .int .i64 0]) (t := 31) ?hr ?_; (case hd => rfl); (case hg => rfl); (case hr => first | (go_simp; done) | (go_simp; rfl)); intro gb440 hg w10 hbox hb; have t_ := And.intro (bs HB hb) <| And.intro (Aside0.mk (hbox)) <| And.intro (gh hg HB) <| (gh hg HB); clear HB; obtain ⟨HB, BK440, GW440, GE440⟩ := t_; clear hb hbox hg) | ((with_reducible refine gate_callee (f := 24) rfl ?_); refine goesL_ (some 4) rfl rfl Try.func24 (by kernel_rfl) rfl #[.slice A0 l0.length c0] rfl mxp ?_; (with_reducible refine (spec_RecOk.calls k _ _ l0 false _ ?side1 ?side2 A2.out).mono ?_); (case side1 => exact cx (Kd.C_below HR0.out HB.out)); (case side2 => exact HC0.out); rintro e w11 ⟨rfl, hb⟩; refine ⟨_, rfl, ?_⟩; replace BK440 := up BK440 hb; replace HB := bs HB hb; (try clear hb); (try clear hb2); (try clear hk); (try clear hi); have hcz12_0 := b0 BK440; have hcz12_1 := b1 BK440; have hcz12_2 := b2 BK440; have hfz12_0 := fz BK440 0; have hfz12_1 := fz BK440 1; have hfz12_2 := fz BK440 2))
  refine bodyPost_ret (results_cell_row rfl _ _ gb440 31 #[.string (⟨#[]⟩ : ByteArray), .int .i64 0, .int .i64 0] (0, 0) _ rfl (by refine bx ?_; refine blk_put (cs := #[.string (⟨#[]⟩ : ByteArray), .int .i64 0, .int .i64 0]) ?_ 2 _ rfl; refine bx ?_; refine blk_put (cs := #[.string (⟨#[]⟩ : ByteArray), .int .i64 0, .int .i64 0]) ?_ 1 _ rfl; refine bx ?_; refine blk_put (cs := #[.string (⟨#[]⟩ : ByteArray), .int .i64 0, .int .i64 0]) ?_ 0 _ rfl; refine bx ?_; exact BK440.out) Try.underlying31 rfl (by kernel_rfl)) rfl ?_
  exact ⟨exq, bw HB.out⟩


/-! ### spec_l4Go: function 88 -/
mutual
def spec_l4Go.j0 : Nat → List (S39) → Int → Bool → Bool → ByteArray → Int → Int → ByteArray → Int → ByteArray → ByteArray → Int → Int → ByteArray → ByteArray → Option (ByteArray × Int × Int)
 | 0, _, _, _, _, _, _, _, _, _, _, _, _, _, _, _ => none
 | k + 1, x0, x10, x11, x31, x642000, x642001, x642002, x646000, x646001, x646002, x646003, x646004, x646005, x646006, x646007 => if x31 = true then (spec_l4Go.j1 k x0 x646004 x11 x642000 x642001 x642002 x646000 x646001 x646002 x646003 x646004 x646005 x646006 x646007) else (spec_l4Go.j1 k x0 x10 x11 x642000 x642001 x642002 x646000 x646001 x646002 x646003 x646004 x646005 x646006 x646007)
def spec_l4Go.j1 : Nat → List (S39) → Int → Bool → ByteArray → Int → Int → ByteArray → Int → ByteArray → ByteArray → Int → Int → ByteArray → ByteArray → Option (ByteArray × Int × Int)
 | 0, _, _, _, _, _, _, _, _, _, _, _, _, _, _ => none
 | k + 1, x0, x10, x11, x642000, x642001, x642002, x646000, x646001, x646002, x646003, x646004, x646005, x646006, x646007 => if x10 > x646005 then (spec_l4Go.j2 k x0 x646005 false x642000 x642001 x642002 x646000 x646001 x646002 x646003 x646004 x646005 x646006 x646007) else (spec_l4Go.j2 k x0 x10 x11 x642000 x642001 x642002 x646000 x646001 x646002 x646003 x646004 x646005 x646006 x646007)
def spec_l4Go.j2 : Nat → List (S39) → Int → Bool → ByteArray → Int → Int → ByteArray → Int → ByteArray → ByteArray → Int → Int → ByteArray → ByteArray → Option (ByteArray × Int × Int)
 | 0, _, _, _, _, _, _, _, _, _, _, _, _, _, _ => none
 | k + 1, x0, x10, x11, x642000, x642001, x642002, x646000, x646001, x646002, x646003, x646004, x646005, x646006, x646007 => if x10 < 0 then (spec_l4Go.j3 k x0 0 x11 x642000 x642001 x642002 x646000 x646001 x646002 x646003 x646004 x646005 x646006 x646007) else (spec_l4Go.j3 k x0 x10 x11 x642000 x642001 x642002 x646000 x646001 x646002 x646003 x646004 x646005 x646006 x646007)
def spec_l4Go.j3 : Nat → List (S39) → Int → Bool → ByteArray → Int → Int → ByteArray → Int → ByteArray → ByteArray → Int → Int → ByteArray → ByteArray → Option (ByteArray × Int × Int)
 | 0, _, _, _, _, _, _, _, _, _, _, _, _, _, _ => none
 | k + 1, x0, x10, x11, x642000, x642001, x642002, x646000, x646001, x646002, x646003, x646004, x646005, x646006, x646007 => if x11 = true then ((spec_l4At.f k x0 x646006 (wrap64 (x642001 + x10))).bind fun bt646 => (some (bt646.1, bt646.2.1, bt646.2.2))) else ((spec_l4At.f k x0 x646007 (wrap64 (x642001 + x10))).bind fun bt649 => (some (bt649.1, bt649.2.1, bt649.2.2)))
end
def spec_l4Go.f (k : Nat) (l0 : List (S39)) (a1_0 : ByteArray) (a1_1 : Int) (a1_2 : Int) (a2 : Int) (a3_0 : Int) (a3_1 : Bool) : Option (ByteArray × Int × Int) := if 0 ≤ a2 then (if a2 < (l0.length : Int) then (if ((rd_T39 l0 a2).f1) = 3 then (if a3_1 = true then (spec_l4Go.j0 k l0 a3_0 a3_1 (decide (a3_0 < ((rd_T39 l0 a2).f4))) a1_0 a1_1 a1_2 ((rd_T39 l0 a2).f0) ((rd_T39 l0 a2).f1) ((rd_T39 l0 a2).f2) ((rd_T39 l0 a2).f3) ((rd_T39 l0 a2).f4) ((rd_T39 l0 a2).f5) ((rd_T39 l0 a2).f6) ((rd_T39 l0 a2).f7)) else (spec_l4Go.j0 k l0 a3_0 a3_1 false a1_0 a1_1 a1_2 ((rd_T39 l0 a2).f0) ((rd_T39 l0 a2).f1) ((rd_T39 l0 a2).f2) ((rd_T39 l0 a2).f3) ((rd_T39 l0 a2).f4) ((rd_T39 l0 a2).f5) ((rd_T39 l0 a2).f6) ((rd_T39 l0 a2).f7))) else (spec_l4Go.j0 k l0 a3_0 a3_1 false a1_0 a1_1 a1_2 ((rd_T39 l0 a2).f0) ((rd_T39 l0 a2).f1) ((rd_T39 l0 a2).f2) ((rd_T39 l0 a2).f3) ((rd_T39 l0 a2).f4) ((rd_T39 l0 a2).f5) ((rd_T39 l0 a2).f6) ((rd_T39 l0 a2).f7))) else (none)) else (none)
theorem spec_l4Go.mono_l : ∀ k, (∀ y0 y1 y2 y3 y4 y5 y6 y7 y8 y9 y10 y11 y12 y13 y14, LeO (spec_l4Go.j0 k y0 y1 y2 y3 y4 y5 y6 y7 y8 y9 y10 y11 y12 y13 y14) (spec_l4Go.j0 (k + 1) y0 y1 y2 y3 y4 y5 y6 y7 y8 y9 y10 y11 y12 y13 y14)) ∧ (∀ y0 y1 y2 y3 y4 y5 y6 y7 y8 y9 y10 y11 y12 y13, LeO (spec_l4Go.j1 k y0 y1 y2 y3 y4 y5 y6 y7 y8 y9 y10 y11 y12 y13) (spec_l4Go.j1 (k + 1) y0 y1 y2 y3 y4 y5 y6 y7 y8 y9 y10 y11 y12 y13)) ∧ (∀ y0 y1 y2 y3 y4 y5 y6 y7 y8 y9 y10 y11 y12 y13, LeO (spec_l4Go.j2 k y0 y1 y2 y3 y4 y5 y6 y7 y8 y9 y10 y11 y12 y13) (spec_l4Go.j2 (k + 1) y0 y1 y2 y3 y4 y5 y6 y7 y8 y9 y10 y11 y12 y13)) ∧ (∀ y0 y1 y2 y3 y4 y5 y6 y7 y8 y9 y10 y11 y12 y13, LeO (spec_l4Go.j3 k y0 y1 y2 y3 y4 y5 y6 y7 y8 y9 y10 y11 y12 y13) (spec_l4Go.j3 (k + 1) y0 y1 y2 y3 y4 y5 y6 y7 y8 y9 y10 y11 y12 y13))
 | 0 => ⟨fun _ _ _ _ _ _ _ _ _ _ _ _ _ _ _ r h => by simp [spec_l4Go.j0] at h, fun _ _ _ _ _ _ _ _ _ _ _ _ _ _ r h => by simp [spec_l4Go.j1] at h, fun _ _ _ _ _ _ _ _ _ _ _ _ _ _ r h => by simp [spec_l4Go.j2] at h, fun _ _ _ _ _ _ _ _ _ _ _ _ _ _ r h => by simp [spec_l4Go.j3] at h⟩
 | k + 1 => by
  obtain ⟨ih0, ih1, ih2, ih3⟩ := spec_l4Go.mono_l k
  refine ⟨?_, ?_, ?_, ?_⟩
  ·intro y0 y1 y2 y3 y4 y5 y6 y7 y8 y9 y10 y11 y12 y13 y14
   unfold spec_l4Go.j0
   repeat' first
   | (with_reducible exact ih0 _ _ _ _ _ _ _ _ _ _ _ _ _ _ _)
   | (with_reducible exact ih1 _ _ _ _ _ _ _ _ _ _ _ _ _ _)
   | (with_reducible exact ih2 _ _ _ _ _ _ _ _ _ _ _ _ _ _)
   | (with_reducible exact ih3 _ _ _ _ _ _ _ _ _ _ _ _ _ _)
   | (with_reducible exact spec_l4At.mono _ _ _ _)
   | (with_reducible exact LeO.refl _)
   | (with_reducible exact LeO.none _)
   | (with_reducible refine LeO.ite ?_ ?_)
   | (with_reducible refine LeO.bind ?_ (fun _ => ?_))
   | exact ih0 _ _ _ _ _ _ _ _ _ _ _ _ _ _ _
   | exact ih1 _ _ _ _ _ _ _ _ _ _ _ _ _ _
   | exact ih2 _ _ _ _ _ _ _ _ _ _ _ _ _ _
   | exact ih3 _ _ _ _ _ _ _ _ _ _ _ _ _ _
   | exact spec_l4At.mono _ _ _ _
   | exact LeO.none _
   | refine LeO.ite ?_ ?_
   | refine LeO.bind ?_ (fun _ => ?_)
  ·intro y0 y1 y2 y3 y4 y5 y6 y7 y8 y9 y10 y11 y12 y13
   unfold spec_l4Go.j1
   repeat' first
   | (with_reducible exact ih0 _ _ _ _ _ _ _ _ _ _ _ _ _ _ _)
   | (with_reducible exact ih1 _ _ _ _ _ _ _ _ _ _ _ _ _ _)
   | (with_reducible exact ih2 _ _ _ _ _ _ _ _ _ _ _ _ _ _)
   | (with_reducible exact ih3 _ _ _ _ _ _ _ _ _ _ _ _ _ _)
   | (with_reducible exact spec_l4At.mono _ _ _ _)
   | (with_reducible exact LeO.refl _)
   | (with_reducible exact LeO.none _)
   | (with_reducible refine LeO.ite ?_ ?_)
   | (with_reducible refine LeO.bind ?_ (fun _ => ?_))
   | exact ih0 _ _ _ _ _ _ _ _ _ _ _ _ _ _ _
   | exact ih1 _ _ _ _ _ _ _ _ _ _ _ _ _ _
   | exact ih2 _ _ _ _ _ _ _ _ _ _ _ _ _ _
   | exact ih3 _ _ _ _ _ _ _ _ _ _ _ _ _ _
   | exact spec_l4At.mono _ _ _ _
   | exact LeO.none _
   | refine LeO.ite ?_ ?_
   | refine LeO.bind ?_ (fun _ => ?_)
  ·intro y0 y1 y2 y3 y4 y5 y6 y7 y8 y9 y10 y11 y12 y13
   unfold spec_l4Go.j2
   repeat' first
   | (with_reducible exact ih0 _ _ _ _ _ _ _ _ _ _ _ _ _ _ _)
   | (with_reducible exact ih1 _ _ _ _ _ _ _ _ _ _ _ _ _ _)
   | (with_reducible exact ih2 _ _ _ _ _ _ _ _ _ _ _ _ _ _)
   | (with_reducible exact ih3 _ _ _ _ _ _ _ _ _ _ _ _ _ _)
   | (with_reducible exact spec_l4At.mono _ _ _ _)
   | (with_reducible exact LeO.refl _)
   | (with_reducible exact LeO.none _)
   | (with_reducible refine LeO.ite ?_ ?_)
   | (with_reducible refine LeO.bind ?_ (fun _ => ?_))
   | exact ih0 _ _ _ _ _ _ _ _ _ _ _ _ _ _ _
   | exact ih1 _ _ _ _ _ _ _ _ _ _ _ _ _ _
   | exact ih2 _ _ _ _ _ _ _ _ _ _ _ _ _ _
   | exact ih3 _ _ _ _ _ _ _ _ _ _ _ _ _ _
   | exact spec_l4At.mono _ _ _ _
   | exact LeO.none _
   | refine LeO.ite ?_ ?_
   | refine LeO.bind ?_ (fun _ => ?_)
  ·intro y0 y1 y2 y3 y4 y5 y6 y7 y8 y9 y10 y11 y12 y13
   unfold spec_l4Go.j3
   repeat' first
   | (with_reducible exact ih0 _ _ _ _ _ _ _ _ _ _ _ _ _ _ _)
   | (with_reducible exact ih1 _ _ _ _ _ _ _ _ _ _ _ _ _ _)
   | (with_reducible exact ih2 _ _ _ _ _ _ _ _ _ _ _ _ _ _)
   | (with_reducible exact ih3 _ _ _ _ _ _ _ _ _ _ _ _ _ _)
   | (with_reducible exact spec_l4At.mono _ _ _ _)
   | (with_reducible exact LeO.refl _)
   | (with_reducible exact LeO.none _)
   | (with_reducible refine LeO.ite ?_ ?_)
   | (with_reducible refine LeO.bind ?_ (fun _ => ?_))
   | exact ih0 _ _ _ _ _ _ _ _ _ _ _ _ _ _ _
   | exact ih1 _ _ _ _ _ _ _ _ _ _ _ _ _ _
   | exact ih2 _ _ _ _ _ _ _ _ _ _ _ _ _ _
   | exact ih3 _ _ _ _ _ _ _ _ _ _ _ _ _ _
   | exact spec_l4At.mono _ _ _ _
   | exact LeO.none _
   | refine LeO.ite ?_ ?_
   | refine LeO.bind ?_ (fun _ => ?_)
theorem spec_l4Go.mono : ∀ a0 a1 a2 a3 a4 a5 a6 k, LeO (spec_l4Go.f k a0 a1 a2 a3 a4 a5 a6) (spec_l4Go.f (k + 1) a0 a1 a2 a3 a4 a5 a6) := by
 intro a0 a1 a2 a3 a4 a5 a6 k
 obtain ⟨ih0, ih1, ih2, ih3⟩ := spec_l4Go.mono_l k
 unfold spec_l4Go.f
 repeat' first
   | (with_reducible exact ih0 _ _ _ _ _ _ _ _ _ _ _ _ _ _ _)
   | (with_reducible exact ih1 _ _ _ _ _ _ _ _ _ _ _ _ _ _)
   | (with_reducible exact ih2 _ _ _ _ _ _ _ _ _ _ _ _ _ _)
   | (with_reducible exact ih3 _ _ _ _ _ _ _ _ _ _ _ _ _ _)
   | (with_reducible exact spec_l4At.mono _ _ _ _)
   | (with_reducible exact LeO.refl _)
   | (with_reducible exact LeO.none _)
   | (with_reducible refine LeO.ite ?_ ?_)
   | (with_reducible refine LeO.bind ?_ (fun _ => ?_))
   | exact ih0 _ _ _ _ _ _ _ _ _ _ _ _ _ _ _
   | exact ih1 _ _ _ _ _ _ _ _ _ _ _ _ _ _
   | exact ih2 _ _ _ _ _ _ _ _ _ _ _ _ _ _
   | exact ih3 _ _ _ _ _ _ _ _ _ _ _ _ _ _
   | exact spec_l4At.mono _ _ _ _
   | exact LeO.none _
   | refine LeO.ite ?_ ?_
   | refine LeO.bind ?_ (fun _ => ?_)
set_option maxHeartbeats 8000000 in
set_option maxRecDepth 100000 in
theorem spec_l4Go.calls (k : Nat) (A0 : Option Addr) (c0 : Nat) (l0 : List (S39)) (a1_0 : ByteArray) (a1_1 : Int) (a1_2 : Int) (a2 : Int) (a3_0 : Int) (a3_1 : Bool) (r1 : ByteArray) (r2 : Int) (r3 : Int) (w : World) (hr0 : Kd.C k39 w A0 l0.length l0) (hc0 : l0.length ≤ c0) (h : spec_l4Go.f k l0 a1_0 a1_1 a1_2 a2 a3_0 a3_1 = some (r1, r2, r3)) :
  Calls Try.prog 88 #[.slice A0 l0.length c0, .agg #[.string a1_0, .int .i64 a1_1, .int .i64 a1_2], .int .i64 a2, .agg #[.int .i64 a3_0, .bool a3_1]] w fun e w' => e = .returned (.agg #[.string r1, .int .i64 r2, .int .i64 r3]) ∧ Below w.heap.size w w' := by
 have hu31 := Try.underlying31
 have hu43 := Try.underlying43
 have hu39 := Try.underlying39
 have HR0 := Aside0.mk hr0
 have HC0 := Aside0.mk hc0
 clear hr0 hc0
 have HB := Aside0.mk (Below.refl w.heap.size w)
 have H : (if 0 ≤ a2 then (if a2 < (l0.length : Int) then (if ((rd_T39 l0 a2).f1) = 3 then (if a3_1 = true then (spec_l4Go.j0 k l0 a3_0 a3_1 (decide (a3_0 < ((rd_T39 l0 a2).f4))) a1_0 a1_1 a1_2 ((rd_T39 l0 a2).f0) ((rd_T39 l0 a2).f1) ((rd_T39 l0 a2).f2) ((rd_T39 l0 a2).f3) ((rd_T39 l0 a2).f4) ((rd_T39 l0 a2).f5) ((rd_T39 l0 a2).f6) ((rd_T39 l0 a2).f7)) else (spec_l4Go.j0 k l0 a3_0 a3_1 false a1_0 a1_1 a1_2 ((rd_T39 l0 a2).f0) ((rd_T39 l0 a2).f1) ((rd_T39 l0 a2).f2) ((rd_T39 l0 a2).f3) ((rd_T39 l0 a2).f4) ((rd_T39 l0 a2).f5) ((rd_T39 l0 a2).f6) ((rd_T39 l0 a2).f7))) else (spec_l4Go.j0 k l0 a3_0 a3_1 false a1_0 a1_1 a1_2 ((rd_T39 l0 a2).f0) ((rd_T39 l0 a2).f1) ((rd_T39 l0 a2).f2) ((rd_T39 l0 a2).f3) ((rd_T39 l0 a2).f4) ((rd_T39 l0 a2).f5) ((rd_T39 l0 a2).f6) ((rd_T39 l0 a2).f7))) else (none)) else (none)) = some (r1, r2, r3) := h
 clear h
 by_cases c5 : 0 ≤ a2
 ·rw [if_pos c5] at H
  have c5b0 : decide (0 ≤ a2) = true := decide_eq_true c5
  clear c5
  by_cases c6 : a2 < (l0.length : Int)
  ·rw [if_pos c6] at H
   have c6b0 : decide (a2 < (l0.length : Int)) = true := decide_eq_true c6
   clear c6
   have HC7 := Aside0.mk H
   clear H
   go_enter Try.func88, Try.ntmps88
   go_upto_region 4 with (first | ((with_reducible refine gate_dst (N := 5) rfl ?_); refine box_event ?hg (N := 5) ?hd (cs := #[.string a1_0, .int .i64 a1_1, .int .i64 a1_2]) (t := 31) ?hr ?_; (case hd => rfl); (case hg => rfl); (case hr => first | (go_simp; done) | (go_simp; rfl)); intro gb641 hg w8 hbox hb; have t_ := And.intro (bs HB hb) <| And.intro (Aside0.mk (hbox)) <| And.intro (gh hg HB) <| (gh hg HB); clear HB; obtain ⟨HB, BK641, GW641, GE641⟩ := t_; clear hb hbox hg) | ((with_reducible refine gate_dst (N := 7) rfl ?_); refine box_event ?hg (N := 7) ?hd (cs := #[.int .i64 a3_0, .bool a3_1]) (t := 43) ?hr ?_; (case hd => rfl); (case hg => rfl); (case hr => first | (go_simp; done) | (go_simp; rfl)); intro gb642 hg w9 hbox hb; have t_ := And.intro (up BK641 hb) <| And.intro (bs HB hb) <| And.intro (Aside0.mk (hbox)) <| And.intro (gh hg HB) <| And.intro (gh hg HB) <| And.intro (nlt' hg BK641) <| (ngt' hg BK641); clear BK641 HB; obtain ⟨BK641, HB, BK642, GW642, GE642, NB641_642, NB642_641⟩ := t_; clear hb hbox hg) | ((with_reducible refine gate_dst (N := 8) rfl ?_); refine box_event ?hg (N := 8) ?hd (cs := #[.string (⟨#[]⟩ : ByteArray), .int .i64 0, .int .i64 0]) (t := 31) ?hr ?_; (case hd => rfl); (case hg => rfl); (case hr => first | (go_simp; done) | (go_simp; rfl)); intro gb643 hg w10 hbox hb; have t_ := And.intro (up BK641 hb) <| And.intro (up BK642 hb) <| And.intro (bs HB hb) <| And.intro (Aside0.mk (hbox)) <| And.intro (gh hg HB) <| And.intro (gh hg HB) <| And.intro (nlt' hg BK641) <| And.intro (ngt' hg BK641) <| And.intro (nlt' hg BK642) <| (ngt' hg BK642); clear BK641 BK642 HB; obtain ⟨BK641, BK642, HB, BK643, GW643, GE643, NB641_643, NB643_641, NB642_643, NB643_642⟩ := t_; clear hb hbox hg; have p644 : 0 ≤ (a2 : Int) := oda; have q644 : a2 < (l0.length : Int) := oda; obtain ⟨ad644, e644, hx644_0, hx644_1, hx644_2, hx644_3, hx644_4, hx644_5, hx644_6, hx644_7⟩ := at_T39 HR0.out a2 p644 q644; cases e644; replace hx644_0 := bcl HB hx644_0; replace hx644_1 := bcl HB hx644_1; replace hx644_2 := bcl HB hx644_2; replace hx644_3 := bcl HB hx644_3; replace hx644_4 := bcl HB hx644_4; replace hx644_5 := bcl HB hx644_5; replace hx644_6 := bcl HB hx644_6; replace hx644_7 := bcl HB hx644_7; replace p644 := eq_true p644; replace q644 := eq_true q644) | ((with_reducible refine gate_dst (N := 9) rfl ?_); refine box_event ?hg (N := 9) ?hd (cs := #[.string (⟨#[]⟩ : ByteArray), .int .i64 0, .string (⟨#[]⟩ : ByteArray), .string (⟨#[]⟩ : ByteArray), .int .i64 0, .int .i64 0, .string (⟨#[]⟩ : ByteArray), .string (⟨#[]⟩ : ByteArray)]) (t := 39) ?hr ?_; (case hd => rfl); (case hg => rfl); (case hr => first | (go_simp; done) | (go_simp; rfl)); intro gb645 hg w11 hbox hb; have t_ := And.intro (up BK641 hb) <| And.intro (up BK642 hb) <| And.intro (up BK643 hb) <| And.intro (bs HB hb) <| And.intro (Aside0.mk (hbox)) <| And.intro (gh hg HB) <| And.intro (gh hg HB) <| And.intro (nlt' hg BK641) <| And.intro (ngt' hg BK641) <| And.intro (nlt' hg BK642) <| And.intro (ngt' hg BK642) <| And.intro (nlt' hg BK643) <| (ngt' hg BK643); clear BK641 BK642 BK643 HB; obtain ⟨BK641, BK642, BK643, HB, BK645, GW645, GE645, NB641_645, NB645_641, NB642_645, NB645_642, NB643_645, NB645_643⟩ := t_; clear hb hbox hg; have hnb12 := NB645_641.out; have hnc12 := NB641_645.out; have hnb13 := NB645_642.out; have hnc13 := NB642_645.out; have hnb14 := NB645_643.out; have hnc14 := NB643_645.out; have hcz15_0 := b0 BK645; have hcz15_1 := b1 BK645; have hcz15_2 := b2 BK645; have hcz15_3 := b3 BK645; have hcz15_4 := b4 BK645; have hcz15_5 := b5 BK645; have hcz15_6 := b6 BK645; have hcz15_7 := b7 BK645; have hfz15_0 := fz BK645 0; have hfz15_1 := fz BK645 1; have hfz15_2 := fz BK645 2; have hfz15_3 := fz BK645 3; have hfz15_4 := fz BK645 4; have hfz15_5 := fz BK645 5; have hfz15_6 := fz BK645 6; have hfz15_7 := fz BK645 7; have hnb16 := NB642_641.out; have hnc16 := NB641_642.out; have hnb17 := NB642_643.out; have hnc17 := NB643_642.out; have hcz18_0 := b0 BK642; have hcz18_1 := b1 BK642; have hfz18_0 := fz BK642 0; have hfz18_1 := fz BK642 1))
   (try simp only [Act.put, List.setIfInBounds_toArray, List.set_cons_zero, List.set_cons_succ])
   go_cut [31] (fun v31 wc => ∃ (kq : Nat) (x31_6 : Bool), v31 = .bool x31_6 ∧ Aside0 (spec_l4Go.j0 kq l0 a3_0 a3_1 x31_6 a1_0 a1_1 a1_2 ((rd_T39 l0 a2).f0) ((rd_T39 l0 a2).f1) ((rd_T39 l0 a2).f2) ((rd_T39 l0 a2).f3) ((rd_T39 l0 a2).f4) ((rd_T39 l0 a2).f5) ((rd_T39 l0 a2).f6) ((rd_T39 l0 a2).f7) = some (r1, r2, r3)) ∧ Aside0 (kq ≤ k) ∧ Aside0 (wc.heap[gb641]? = some (.cells #[.string a1_0, .int .i64 a1_1, .int .i64 a1_2] 31 (0, 0))) ∧ Aside0 (wc.heap[gb642]? = some (.cells #[.int .i64 a3_0, .bool a3_1] 43 (0, 0))) ∧ Aside0 (wc.heap[gb643]? = some (.cells #[.string (⟨#[]⟩ : ByteArray), .int .i64 0, .int .i64 0] 31 (0, 0))) ∧ Aside0 (wc.heap[gb645]? = some (.cells #[.string ((rd_T39 l0 a2).f0), .int .i64 ((rd_T39 l0 a2).f1), .string ((rd_T39 l0 a2).f2), .string ((rd_T39 l0 a2).f3), .int .i64 ((rd_T39 l0 a2).f4), .int .i64 ((rd_T39 l0 a2).f5), .string ((rd_T39 l0 a2).f6), .string ((rd_T39 l0 a2).f7)] 39 (0, 0))) ∧ Aside0 (Below w.heap.size w wc))
   case first =>
    have H := HC7.out
    clear HC7
    by_cases c19 : ((rd_T39 l0 a2).f1) = 3
    ·rw [if_pos c19] at H
     have c19b0 : (((rd_T39 l0 a2).f1) == 3) = true := beq_iff_eq.mpr c19
     have c19b1 : (((rd_T39 l0 a2).f1) != 3) = false := bne_eq_false_iff_eq.mpr c19
     clear c19
     (first | rw [c19b0] | (simp only [i64_w, i32_w]; rw [c19b0]) | skip)
     by_cases c20 : a3_1 = true
     ·subst c20
      rw [if_pos rfl] at H
      have H' := Aside0.mk H
      clear H
      have hnb21 := NB645_641.out
      have hnc21 := NB641_645.out
      have hnb22 := NB645_642.out
      have hnc22 := NB642_645.out
      have hnb23 := NB645_643.out
      have hnc23 := NB643_645.out
      have hcz24_0 := b0 BK645
      have hcz24_1 := b1 BK645
      have hcz24_2 := b2 BK645
      have hcz24_3 := b3 BK645
      have hcz24_4 := b4 BK645
      have hcz24_5 := b5 BK645
      have hcz24_6 := b6 BK645
      have hcz24_7 := b7 BK645
      have hfz24_0 := fz BK645 0
      have hfz24_1 := fz BK645 1
      have hfz24_2 := fz BK645 2
      have hfz24_3 := fz BK645 3
      have hfz24_4 := fz BK645 4
      have hfz24_5 := fz BK645 5
      have hfz24_6 := fz BK645 6
      have hfz24_7 := fz BK645 7
      go_wp2
      go_meet
      case rel => exact ⟨_, (decide (a3_0 < ((rd_T39 l0 a2).f4))), (by first | rfl | (simp; done) | (simp [*]; done)), H', ⟨by first | omega | exact Nat.le_refl _⟩, ⟨by refine bx ?_; refine blk_far ?_ NB641_645.out _; refine bx ?_; refine blk_far ?_ NB641_645.out _; refine bx ?_; refine blk_far ?_ NB641_645.out _; refine bx ?_; refine blk_far ?_ NB641_645.out _; refine bx ?_; refine blk_far ?_ NB641_645.out _; refine bx ?_; refine blk_far ?_ NB641_645.out _; refine bx ?_; refine blk_far ?_ NB641_645.out _; refine bx ?_; refine blk_far ?_ NB641_645.out _; refine bx ?_; exact BK641.out⟩, ⟨by refine bx ?_; refine blk_far ?_ NB642_645.out _; refine bx ?_; refine blk_far ?_ NB642_645.out _; refine bx ?_; refine blk_far ?_ NB642_645.out _; refine bx ?_; refine blk_far ?_ NB642_645.out _; refine bx ?_; refine blk_far ?_ NB642_645.out _; refine bx ?_; refine blk_far ?_ NB642_645.out _; refine bx ?_; refine blk_far ?_ NB642_645.out _; refine bx ?_; refine blk_far ?_ NB642_645.out _; refine bx ?_; exact BK642.out⟩, ⟨by refine bx ?_; refine blk_far ?_ NB643_645.out _; refine bx ?_; refine blk_far ?_ NB643_645.out _; refine bx ?_; refine blk_far ?_ NB643_645.out _; refine bx ?_; refine blk_far ?_ NB643_645.out _; refine bx ?_; refine blk_far ?_ NB643_645.out _; refine bx ?_; refine blk_far ?_ NB643_645.out _; refine bx ?_; refine blk_far ?_ NB643_645.out _; refine bx ?_; refine blk_far ?_ NB643_645.out _; refine bx ?_; exact BK643.out⟩, ⟨by refine bx ?_; refine blk_put (cs := #[.string ((rd_T39 l0 a2).f0), .int .i64 ((rd_T39 l0 a2).f1), .string ((rd_T39 l0 a2).f2), .string ((rd_T39 l0 a2).f3), .int .i64 ((rd_T39 l0 a2).f4), .int .i64 ((rd_T39 l0 a2).f5), .string ((rd_T39 l0 a2).f6), .string (⟨#[]⟩ : ByteArray)]) ?_ 7 _ rfl; refine bx ?_; refine blk_put (cs := #[.string ((rd_T39 l0 a2).f0), .int .i64 ((rd_T39 l0 a2).f1), .string ((rd_T39 l0 a2).f2), .string ((rd_T39 l0 a2).f3), .int .i64 ((rd_T39 l0 a2).f4), .int .i64 ((rd_T39 l0 a2).f5), .string (⟨#[]⟩ : ByteArray), .string (⟨#[]⟩ : ByteArray)]) ?_ 6 _ rfl; refine bx ?_; refine blk_put (cs := #[.string ((rd_T39 l0 a2).f0), .int .i64 ((rd_T39 l0 a2).f1), .string ((rd_T39 l0 a2).f2), .string ((rd_T39 l0 a2).f3), .int .i64 ((rd_T39 l0 a2).f4), .int .i64 0, .string (⟨#[]⟩ : ByteArray), .string (⟨#[]⟩ : ByteArray)]) ?_ 5 _ rfl; refine bx ?_; refine blk_put (cs := #[.string ((rd_T39 l0 a2).f0), .int .i64 ((rd_T39 l0 a2).f1), .string ((rd_T39 l0 a2).f2), .string ((rd_T39 l0 a2).f3), .int .i64 0, .int .i64 0, .string (⟨#[]⟩ : ByteArray), .string (⟨#[]⟩ : ByteArray)]) ?_ 4 _ rfl; refine bx ?_; refine blk_put (cs := #[.string ((rd_T39 l0 a2).f0), .int .i64 ((rd_T39 l0 a2).f1), .string ((rd_T39 l0 a2).f2), .string (⟨#[]⟩ : ByteArray), .int .i64 0, .int .i64 0, .string (⟨#[]⟩ : ByteArray), .string (⟨#[]⟩ : ByteArray)]) ?_ 3 _ rfl; refine bx ?_; refine blk_put (cs := #[.string ((rd_T39 l0 a2).f0), .int .i64 ((rd_T39 l0 a2).f1), .string (⟨#[]⟩ : ByteArray), .string (⟨#[]⟩ : ByteArray), .int .i64 0, .int .i64 0, .string (⟨#[]⟩ : ByteArray), .string (⟨#[]⟩ : ByteArray)]) ?_ 2 _ rfl; refine bx ?_; refine blk_put (cs := #[.string ((rd_T39 l0 a2).f0), .int .i64 0, .string (⟨#[]⟩ : ByteArray), .string (⟨#[]⟩ : ByteArray), .int .i64 0, .int .i64 0, .string (⟨#[]⟩ : ByteArray), .string (⟨#[]⟩ : ByteArray)]) ?_ 1 _ rfl; refine bx ?_; refine blk_put (cs := #[.string (⟨#[]⟩ : ByteArray), .int .i64 0, .string (⟨#[]⟩ : ByteArray), .string (⟨#[]⟩ : ByteArray), .int .i64 0, .int .i64 0, .string (⟨#[]⟩ : ByteArray), .string (⟨#[]⟩ : ByteArray)]) ?_ 0 _ rfl; refine bx ?_; exact BK645.out⟩, (hbw HB)⟩
     ·replace c20 := Bool.eq_false_iff.mpr c20
      subst c20
      rw [if_neg (show ¬ (false = true) by decide)] at H
      have H' := Aside0.mk H
      clear H
      have hnb25 := NB645_641.out
      have hnc25 := NB641_645.out
      have hnb26 := NB645_642.out
      have hnc26 := NB642_645.out
      have hnb27 := NB645_643.out
      have hnc27 := NB643_645.out
      have hcz28_0 := b0 BK645
      have hcz28_1 := b1 BK645
      have hcz28_2 := b2 BK645
      have hcz28_3 := b3 BK645
      have hcz28_4 := b4 BK645
      have hcz28_5 := b5 BK645
      have hcz28_6 := b6 BK645
      have hcz28_7 := b7 BK645
      have hfz28_0 := fz BK645 0
      have hfz28_1 := fz BK645 1
      have hfz28_2 := fz BK645 2
      have hfz28_3 := fz BK645 3
      have hfz28_4 := fz BK645 4
      have hfz28_5 := fz BK645 5
      have hfz28_6 := fz BK645 6
      have hfz28_7 := fz BK645 7
      go_wp2
      go_meet
      case rel => exact ⟨_, (false), (by first | rfl | (simp; done) | (simp [*]; done)), H', ⟨by first | omega | exact Nat.le_refl _⟩, ⟨by refine bx ?_; refine blk_far ?_ NB641_645.out _; refine bx ?_; refine blk_far ?_ NB641_645.out _; refine bx ?_; refine blk_far ?_ NB641_645.out _; refine bx ?_; refine blk_far ?_ NB641_645.out _; refine bx ?_; refine blk_far ?_ NB641_645.out _; refine bx ?_; refine blk_far ?_ NB641_645.out _; refine bx ?_; refine blk_far ?_ NB641_645.out _; refine bx ?_; refine blk_far ?_ NB641_645.out _; refine bx ?_; exact BK641.out⟩, ⟨by refine bx ?_; refine blk_far ?_ NB642_645.out _; refine bx ?_; refine blk_far ?_ NB642_645.out _; refine bx ?_; refine blk_far ?_ NB642_645.out _; refine bx ?_; refine blk_far ?_ NB642_645.out _; refine bx ?_; refine blk_far ?_ NB642_645.out _; refine bx ?_; refine blk_far ?_ NB642_645.out _; refine bx ?_; refine blk_far ?_ NB642_645.out _; refine bx ?_; refine blk_far ?_ NB642_645.out _; refine bx ?_; exact BK642.out⟩, ⟨by refine bx ?_; refine blk_far ?_ NB643_645.out _; refine bx ?_; refine blk_far ?_ NB643_645.out _; refine bx ?_; refine blk_far ?_ NB643_645.out _; refine bx ?_; refine blk_far ?_ NB643_645.out _; refine bx ?_; refine blk_far ?_ NB643_645.out _; refine bx ?_; refine blk_far ?_ NB643_645.out _; refine bx ?_; refine blk_far ?_ NB643_645.out _; refine bx ?_; refine blk_far ?_ NB643_645.out _; refine bx ?_; exact BK643.out⟩, ⟨by refine bx ?_; refine blk_put (cs := #[.string ((rd_T39 l0 a2).f0), .int .i64 ((rd_T39 l0 a2).f1), .string ((rd_T39 l0 a2).f2), .string ((rd_T39 l0 a2).f3), .int .i64 ((rd_T39 l0 a2).f4), .int .i64 ((rd_T39 l0 a2).f5), .string ((rd_T39 l0 a2).f6), .string (⟨#[]⟩ : ByteArray)]) ?_ 7 _ rfl; refine bx ?_; refine blk_put (cs := #[.string ((rd_T39 l0 a2).f0), .int .i64 ((rd_T39 l0 a2).f1), .string ((rd_T39 l0 a2).f2), .string ((rd_T39 l0 a2).f3), .int .i64 ((rd_T39 l0 a2).f4), .int .i64 ((rd_T39 l0 a2).f5), .string (⟨#[]⟩ : ByteArray), .string (⟨#[]⟩ : ByteArray)]) ?_ 6 _ rfl; refine bx ?_; refine blk_put (cs := #[.string ((rd_T39 l0 a2).f0), .int .i64 ((rd_T39 l0 a2).f1), .string ((rd_T39 l0 a2).f2), .string ((rd_T39 l0 a2).f3), .int .i64 ((rd_T39 l0 a2).f4), .int .i64 0, .string (⟨#[]⟩ : ByteArray), .string (⟨#[]⟩ : ByteArray)]) ?_ 5 _ rfl; refine bx ?_; refine blk_put (cs := #[.string ((rd_T39 l0 a2).f0), .int .i64 ((rd_T39 l0 a2).f1), .string ((rd_T39 l0 a2).f2), .string ((rd_T39 l0 a2).f3), .int .i64 0, .int .i64 0, .string (⟨#[]⟩ : ByteArray), .string (⟨#[]⟩ : ByteArray)]) ?_ 4 _ rfl; refine bx ?_; refine blk_put (cs := #[.string ((rd_T39 l0 a2).f0), .int .i64 ((rd_T39 l0 a2).f1), .string ((rd_T39 l0 a2).f2), .string (⟨#[]⟩ : ByteArray), .int .i64 0, .int .i64 0, .string (⟨#[]⟩ : ByteArray), .string (⟨#[]⟩ : ByteArray)]) ?_ 3 _ rfl; refine bx ?_; refine blk_put (cs := #[.string ((rd_T39 l0 a2).f0), .int .i64 ((rd_T39 l0 a2).f1), .string (⟨#[]⟩ : ByteArray), .string (⟨#[]⟩ : ByteArray), .int .i64 0, .int .i64 0, .string (⟨#[]⟩ : ByteArray), .string (⟨#[]⟩ : ByteArray)]) ?_ 2 _ rfl; refine bx ?_; refine blk_put (cs := #[.string ((rd_T39 l0 a2).f0), .int .i64 0, .string (⟨#[]⟩ : ByteArray), .string (⟨#[]⟩ : ByteArray), .int .i64 0, .int .i64 0, .string (⟨#[]⟩ : ByteArray), .string (⟨#[]⟩ : ByteArray)]) ?_ 1 _ rfl; refine bx ?_; refine blk_put (cs := #[.string (⟨#[]⟩ : ByteArray), .int .i64 0, .string (⟨#[]⟩ : ByteArray), .string (⟨#[]⟩ : ByteArray), .int .i64 0, .int .i64 0, .string (⟨#[]⟩ : ByteArray), .string (⟨#[]⟩ : ByteArray)]) ?_ 0 _ rfl; refine bx ?_; exact BK645.out⟩, (hbw HB)⟩
    ·rw [if_neg c19] at H
     have c19b0 : (((rd_T39 l0 a2).f1) == 3) = false := beq_eq_false_iff_ne.mpr c19
     have c19b1 : (((rd_T39 l0 a2).f1) != 3) = true := bne_iff_ne.mpr c19
     (first | rw [c19b0] | (simp only [i64_w, i32_w]; rw [c19b0]) | skip)
     have H' := Aside0.mk H
     clear H
     have hnb29 := NB645_641.out
     have hnc29 := NB641_645.out
     have hnb30 := NB645_642.out
     have hnc30 := NB642_645.out
     have hnb31 := NB645_643.out
     have hnc31 := NB643_645.out
     have hcz32_0 := b0 BK645
     have hcz32_1 := b1 BK645
     have hcz32_2 := b2 BK645
     have hcz32_3 := b3 BK645
     have hcz32_4 := b4 BK645
     have hcz32_5 := b5 BK645
     have hcz32_6 := b6 BK645
     have hcz32_7 := b7 BK645
     have hfz32_0 := fz BK645 0
     have hfz32_1 := fz BK645 1
     have hfz32_2 := fz BK645 2
     have hfz32_3 := fz BK645 3
     have hfz32_4 := fz BK645 4
     have hfz32_5 := fz BK645 5
     have hfz32_6 := fz BK645 6
     have hfz32_7 := fz BK645 7
     go_wp2
     go_meet
     case rel => exact ⟨_, (false), (by first | rfl | (simp; done) | (simp [*]; done)), H', ⟨by first | omega | exact Nat.le_refl _⟩, ⟨by refine bx ?_; refine blk_far ?_ NB641_645.out _; refine bx ?_; refine blk_far ?_ NB641_645.out _; refine bx ?_; refine blk_far ?_ NB641_645.out _; refine bx ?_; refine blk_far ?_ NB641_645.out _; refine bx ?_; refine blk_far ?_ NB641_645.out _; refine bx ?_; refine blk_far ?_ NB641_645.out _; refine bx ?_; refine blk_far ?_ NB641_645.out _; refine bx ?_; refine blk_far ?_ NB641_645.out _; refine bx ?_; exact BK641.out⟩, ⟨by refine bx ?_; refine blk_far ?_ NB642_645.out _; refine bx ?_; refine blk_far ?_ NB642_645.out _; refine bx ?_; refine blk_far ?_ NB642_645.out _; refine bx ?_; refine blk_far ?_ NB642_645.out _; refine bx ?_; refine blk_far ?_ NB642_645.out _; refine bx ?_; refine blk_far ?_ NB642_645.out _; refine bx ?_; refine blk_far ?_ NB642_645.out _; refine bx ?_; refine blk_far ?_ NB642_645.out _; refine bx ?_; exact BK642.out⟩, ⟨by refine bx ?_; refine blk_far ?_ NB643_645.out _; refine bx ?_; refine blk_far ?_ NB643_645.out _; refine bx ?_; refine blk_far ?_ NB643_645.out _; refine bx ?_; refine blk_far ?_ NB643_645.out _; refine bx ?_; refine blk_far ?_ NB643_645.out _; refine bx ?_; refine blk_far ?_ NB643_645.out _; refine bx ?_; refine blk_far ?_ NB643_645.out _; refine bx ?_; refine blk_far ?_ NB643_645.out _; refine bx ?_; exact BK643.out⟩, ⟨by refine bx ?_; refine blk_put (cs := #[.string ((rd_T39 l0 a2).f0), .int .i64 ((rd_T39 l0 a2).f1), .string ((rd_T39 l0 a2).f2), .string ((rd_T39 l0 a2).f3), .int .i64 ((rd_T39 l0 a2).f4), .int .i64 ((rd_T39 l0 a2).f5), .string ((rd_T39 l0 a2).f6), .string (⟨#[]⟩ : ByteArray)]) ?_ 7 _ rfl; refine bx ?_; refine blk_put (cs := #[.string ((rd_T39 l0 a2).f0), .int .i64 ((rd_T39 l0 a2).f1), .string ((rd_T39 l0 a2).f2), .string ((rd_T39 l0 a2).f3), .int .i64 ((rd_T39 l0 a2).f4), .int .i64 ((rd_T39 l0 a2).f5), .string (⟨#[]⟩ : ByteArray), .string (⟨#[]⟩ : ByteArray)]) ?_ 6 _ rfl; refine bx ?_; refine blk_put (cs := #[.string ((rd_T39 l0 a2).f0), .int .i64 ((rd_T39 l0 a2).f1), .string ((rd_T39 l0 a2).f2), .string ((rd_T39 l0 a2).f3), .int .i64 ((rd_T39 l0 a2).f4), .int .i64 0, .string (⟨#[]⟩ : ByteArray), .string (⟨#[]⟩ : ByteArray)]) ?_ 5 _ rfl; refine bx ?_; refine blk_put (cs := #[.string ((rd_T39 l0 a2).f0), .int .i64 ((rd_T39 l0 a2).f1), .string ((rd_T39 l0 a2).f2), .string ((rd_T39 l0 a2).f3), .int .i64 0, .int .i64 0, .string (⟨#[]⟩ : ByteArray), .string (⟨#[]⟩ : ByteArray)]) ?_ 4 _ rfl; refine bx ?_; refine blk_put (cs := #[.string ((rd_T39 l0 a2).f0), .int .i64 ((rd_T39 l0 a2).f1), .string ((rd_T39 l0 a2).f2), .string (⟨#[]⟩ : ByteArray), .int .i64 0, .int .i64 0, .string (⟨#[]⟩ : ByteArray), .string (⟨#[]⟩ : ByteArray)]) ?_ 3 _ rfl; refine bx ?_; refine blk_put (cs := #[.string ((rd_T39 l0 a2).f0), .int .i64 ((rd_T39 l0 a2).f1), .string (⟨#[]⟩ : ByteArray), .string (⟨#[]⟩ : ByteArray), .int .i64 0, .int .i64 0, .string (⟨#[]⟩ : ByteArray), .string (⟨#[]⟩ : ByteArray)]) ?_ 2 _ rfl; refine bx ?_; refine blk_put (cs := #[.string ((rd_T39 l0 a2).f0), .int .i64 0, .string (⟨#[]⟩ : ByteArray), .string (⟨#[]⟩ : ByteArray), .int .i64 0, .int .i64 0, .string (⟨#[]⟩ : ByteArray), .string (⟨#[]⟩ : ByteArray)]) ?_ 1 _ rfl; refine bx ?_; refine blk_put (cs := #[.string (⟨#[]⟩ : ByteArray), .int .i64 0, .string (⟨#[]⟩ : ByteArray), .string (⟨#[]⟩ : ByteArray), .int .i64 0, .int .i64 0, .string (⟨#[]⟩ : ByteArray), .string (⟨#[]⟩ : ByteArray)]) ?_ 0 _ rfl; refine bx ?_; exact BK645.out⟩, (hbw HB)⟩
   case rest =>
    clear HC7
    obtain ⟨kq, x31_6, rfl, HA, HJ6, BK641, BK642, BK643, BK645, HB⟩ := hcut
    cases kq with
    | zero => exact absurd HA.out (by simp [spec_l4Go.j0])
    | succ kj6 =>
     have H := HA.out
     clear HA
     simp only [spec_l4Go.j0] at H
     have HC33 := Aside0.mk H
     clear H
     go_upto_if 31 with (fail)
     go_cut [10] (fun v10 wc => ∃ (kq : Nat) (x10_32 : Int), v10 = .int .i64 x10_32 ∧ Aside0 (spec_l4Go.j1 kq l0 x10_32 a3_1 a1_0 a1_1 a1_2 ((rd_T39 l0 a2).f0) ((rd_T39 l0 a2).f1) ((rd_T39 l0 a2).f2) ((rd_T39 l0 a2).f3) ((rd_T39 l0 a2).f4) ((rd_T39 l0 a2).f5) ((rd_T39 l0 a2).f6) ((rd_T39 l0 a2).f7) = some (r1, r2, r3)) ∧ Aside0 (kq ≤ kj6) ∧ Aside0 (wc.heap[gb641]? = some (.cells #[.string a1_0, .int .i64 a1_1, .int .i64 a1_2] 31 (0, 0))) ∧ Aside0 (wc.heap[gb642]? = some (.cells #[.int .i64 a3_0, .bool a3_1] 43 (0, 0))) ∧ Aside0 (wc.heap[gb643]? = some (.cells #[.string (⟨#[]⟩ : ByteArray), .int .i64 0, .int .i64 0] 31 (0, 0))) ∧ Aside0 (wc.heap[gb645]? = some (.cells #[.string ((rd_T39 l0 a2).f0), .int .i64 ((rd_T39 l0 a2).f1), .string ((rd_T39 l0 a2).f2), .string ((rd_T39 l0 a2).f3), .int .i64 ((rd_T39 l0 a2).f4), .int .i64 ((rd_T39 l0 a2).f5), .string ((rd_T39 l0 a2).f6), .string ((rd_T39 l0 a2).f7)] 39 (0, 0))) ∧ Aside0 (Below w.heap.size w wc))
     case first =>
      have H := HC33.out
      clear HC33
      by_cases c34 : x31_6 = true
      ·subst c34
       rw [if_pos rfl] at H
       have H' := Aside0.mk H
       clear H
       have hnb35 := NB645_641.out
       have hnc35 := NB641_645.out
       have hnb36 := NB645_642.out
       have hnc36 := NB642_645.out
       have hnb37 := NB645_643.out
       have hnc37 := NB643_645.out
       have hcz38_0 := b0 BK645
       have hcz38_1 := b1 BK645
       have hcz38_2 := b2 BK645
       have hcz38_3 := b3 BK645
       have hcz38_4 := b4 BK645
       have hcz38_5 := b5 BK645
       have hcz38_6 := b6 BK645
       have hcz38_7 := b7 BK645
       have hfz38_0 := fz BK645 0
       have hfz38_1 := fz BK645 1
       have hfz38_2 := fz BK645 2
       have hfz38_3 := fz BK645 3
       have hfz38_4 := fz BK645 4
       have hfz38_5 := fz BK645 5
       have hfz38_6 := fz BK645 6
       have hfz38_7 := fz BK645 7
       go_wp2
       go_meet
       case rel => exact ⟨_, (((rd_T39 l0 a2).f4)), (by first | rfl | (simp; done) | (simp [*]; done)), H', ⟨by have := HJ6.out; first | omega | exact Nat.le_refl _⟩, (bk BK641), (bk BK642), (bk BK643), (bk BK645), (hbw HB)⟩
      ·replace c34 := Bool.eq_false_iff.mpr c34
       subst c34
       rw [if_neg (show ¬ (false = true) by decide)] at H
       have H' := Aside0.mk H
       clear H
       go_wp2
       go_meet
       case rel => exact ⟨_, (a3_0), (by first | rfl | (simp; done) | (simp [*]; done)), H', ⟨by have := HJ6.out; first | omega | exact Nat.le_refl _⟩, (bk BK641), (bk BK642), (bk BK643), (bk BK645), (hbw HB)⟩
     case rest =>
      clear HC33
      obtain ⟨kq, x10_32, rfl, HA, HJ32, BK641, BK642, BK643, BK645, HB⟩ := hcut
      cases kq with
      | zero => exact absurd HA.out (by simp [spec_l4Go.j1])
      | succ kj32 =>
       have H := HA.out
       clear HA
       simp only [spec_l4Go.j1] at H
       have HC39 := Aside0.mk H
       clear H
       have hnb40 := NB645_641.out
       have hnc40 := NB641_645.out
       have hnb41 := NB645_642.out
       have hnc41 := NB642_645.out
       have hnb42 := NB645_643.out
       have hnc42 := NB643_645.out
       have hcz43_0 := b0 BK645
       have hcz43_1 := b1 BK645
       have hcz43_2 := b2 BK645
       have hcz43_3 := b3 BK645
       have hcz43_4 := b4 BK645
       have hcz43_5 := b5 BK645
       have hcz43_6 := b6 BK645
       have hcz43_7 := b7 BK645
       have hfz43_0 := fz BK645 0
       have hfz43_1 := fz BK645 1
       have hfz43_2 := fz BK645 2
       have hfz43_3 := fz BK645 3
       have hfz43_4 := fz BK645 4
       have hfz43_5 := fz BK645 5
       have hfz43_6 := fz BK645 6
       have hfz43_7 := fz BK645 7
       go_upto_if 37 with (fail)
       go_cut [10, 11] (fun v10 v11 wc => ∃ (kq : Nat) (x10_38 : Int) (x11_38 : Bool), v10 = .int .i64 x10_38 ∧ v11 = .bool x11_38 ∧ Aside0 (spec_l4Go.j2 kq l0 x10_38 x11_38 a1_0 a1_1 a1_2 ((rd_T39 l0 a2).f0) ((rd_T39 l0 a2).f1) ((rd_T39 l0 a2).f2) ((rd_T39 l0 a2).f3) ((rd_T39 l0 a2).f4) ((rd_T39 l0 a2).f5) ((rd_T39 l0 a2).f6) ((rd_T39 l0 a2).f7) = some (r1, r2, r3)) ∧ Aside0 (kq ≤ kj32) ∧ Aside0 (wc.heap[gb641]? = some (.cells #[.string a1_0, .int .i64 a1_1, .int .i64 a1_2] 31 (0, 0))) ∧ Aside0 (wc.heap[gb642]? = some (.cells #[.int .i64 a3_0, .bool a3_1] 43 (0, 0))) ∧ Aside0 (wc.heap[gb643]? = some (.cells #[.string (⟨#[]⟩ : ByteArray), .int .i64 0, .int .i64 0] 31 (0, 0))) ∧ Aside0 (wc.heap[gb645]? = some (.cells #[.string ((rd_T39 l0 a2).f0), .int .i64 ((rd_T39 l0 a2).f1), .string ((rd_T39 l0 a2).f2), .string ((rd_T39 l0 a2).f3), .int .i64 ((rd_T39 l0 a2).f4), .int .i64 ((rd_T39 l0 a2).f5), .string ((rd_T39 l0 a2).f6), .string ((rd_T39 l0 a2).f7)] 39 (0, 0))) ∧ Aside0 (Below w.heap.size w wc))
       case first =>
        have H := HC39.out
        clear HC39
        by_cases c44 : x10_32 > ((rd_T39 l0 a2).f5)
        ·rw [if_pos c44] at H
         have c44b0 : decide (((rd_T39 l0 a2).f5) < x10_32) = true := decide_eq_true c44
         clear c44
         (first | rw [c44b0] | (simp only [i64_w, i32_w]; rw [c44b0]) | skip)
         have H' := Aside0.mk H
         clear H
         have hnb45 := NB645_641.out
         have hnc45 := NB641_645.out
         have hnb46 := NB645_642.out
         have hnc46 := NB642_645.out
         have hnb47 := NB645_643.out
         have hnc47 := NB643_645.out
         have hcz48_0 := b0 BK645
         have hcz48_1 := b1 BK645
         have hcz48_2 := b2 BK645
         have hcz48_3 := b3 BK645
         have hcz48_4 := b4 BK645
         have hcz48_5 := b5 BK645
         have hcz48_6 := b6 BK645
         have hcz48_7 := b7 BK645
         have hfz48_0 := fz BK645 0
         have hfz48_1 := fz BK645 1
         have hfz48_2 := fz BK645 2
         have hfz48_3 := fz BK645 3
         have hfz48_4 := fz BK645 4
         have hfz48_5 := fz BK645 5
         have hfz48_6 := fz BK645 6
         have hfz48_7 := fz BK645 7
         go_wp2
         go_meet
         case rel => exact ⟨_, (((rd_T39 l0 a2).f5)), (false), (by first | rfl | (simp; done) | (simp [*]; done)), (by first | rfl | (simp; done) | (simp [*]; done)), H', ⟨by have := HJ6.out; have := HJ32.out; first | omega | exact Nat.le_refl _⟩, (bk BK641), (bk BK642), (bk BK643), (bk BK645), (hbw HB)⟩
        ·rw [if_neg c44] at H
         have c44b0 : decide (((rd_T39 l0 a2).f5) < x10_32) = false := decide_eq_false c44
         clear c44
         (first | rw [c44b0] | (simp only [i64_w, i32_w]; rw [c44b0]) | skip)
         have H' := Aside0.mk H
         clear H
         go_wp2
         go_meet
         case rel => exact ⟨_, (x10_32), (a3_1), (by first | rfl | (simp; done) | (simp [*]; done)), (by first | rfl | (simp; done) | (simp [*]; done)), H', ⟨by have := HJ6.out; have := HJ32.out; first | omega | exact Nat.le_refl _⟩, (bk BK641), (bk BK642), (bk BK643), (bk BK645), (hbw HB)⟩
       case rest =>
        clear HC39
        obtain ⟨kq, x10_38, x11_38, rfl, rfl, HA, HJ38, BK641, BK642, BK643, BK645, HB⟩ := hcut
        cases kq with
        | zero => exact absurd HA.out (by simp [spec_l4Go.j2])
        | succ kj38 =>
         have H := HA.out
         clear HA
         simp only [spec_l4Go.j2] at H
         have HC49 := Aside0.mk H
         clear H
         go_upto_if 41 with (fail)
         go_cut [10] (fun v10 wc => ∃ (kq : Nat) (x10_48 : Int), v10 = .int .i64 x10_48 ∧ Aside0 (spec_l4Go.j3 kq l0 x10_48 x11_38 a1_0 a1_1 a1_2 ((rd_T39 l0 a2).f0) ((rd_T39 l0 a2).f1) ((rd_T39 l0 a2).f2) ((rd_T39 l0 a2).f3) ((rd_T39 l0 a2).f4) ((rd_T39 l0 a2).f5) ((rd_T39 l0 a2).f6) ((rd_T39 l0 a2).f7) = some (r1, r2, r3)) ∧ Aside0 (kq ≤ kj38) ∧ Aside0 (wc.heap[gb641]? = some (.cells #[.string a1_0, .int .i64 a1_1, .int .i64 a1_2] 31 (0, 0))) ∧ Aside0 (wc.heap[gb642]? = some (.cells #[.int .i64 a3_0, .bool a3_1] 43 (0, 0))) ∧ Aside0 (wc.heap[gb643]? = some (.cells #[.string (⟨#[]⟩ : ByteArray), .int .i64 0, .int .i64 0] 31 (0, 0))) ∧ Aside0 (wc.heap[gb645]? = some (.cells #[.string ((rd_T39 l0 a2).f0), .int .i64 ((rd_T39 l0 a2).f1), .string ((rd_T39 l0 a2).f2), .string ((rd_T39 l0 a2).f3), .int .i64 ((rd_T39 l0 a2).f4), .int .i64 ((rd_T39 l0 a2).f5), .string ((rd_T39 l0 a2).f6), .string ((rd_T39 l0 a2).f7)] 39 (0, 0))) ∧ Aside0 (Below w.heap.size w wc))
         case first =>
          have H := HC49.out
          clear HC49
          by_cases c50 : x10_38 < 0
          ·rw [if_pos c50] at H
           have c50b0 : decide (x10_38 < 0) = true := decide_eq_true c50
           clear c50
           (first | rw [c50b0] | (simp only [i64_w, i32_w]; rw [c50b0]) | skip)
           have H' := Aside0.mk H
           clear H
           go_wp2
           go_meet
           case rel => exact ⟨_, (0), (by first | rfl | (simp; done) | (simp [*]; done)), H', ⟨by have := HJ6.out; have := HJ32.out; have := HJ38.out; first | omega | exact Nat.le_refl _⟩, (bk BK641), (bk BK642), (bk BK643), (bk BK645), (hbw HB)⟩
          ·rw [if_neg c50] at H
           have c50b0 : decide (x10_38 < 0) = false := decide_eq_false c50
           clear c50
           (first | rw [c50b0] | (simp only [i64_w, i32_w]; rw [c50b0]) | skip)
           have H' := Aside0.mk H
           clear H
           go_wp2
           go_meet
           case rel => exact ⟨_, (x10_38), (by first | rfl | (simp; done) | (simp [*]; done)), H', ⟨by have := HJ6.out; have := HJ32.out; have := HJ38.out; first | omega | exact Nat.le_refl _⟩, (bk BK641), (bk BK642), (bk BK643), (bk BK645), (hbw HB)⟩
         case rest =>
          clear HC49
          obtain ⟨kq, x10_48, rfl, HA, HJ48, BK641, BK642, BK643, BK645, HB⟩ := hcut
          cases kq with
          | zero => exact absurd HA.out (by simp [spec_l4Go.j3])
          | succ kj48 =>
           have H := HA.out
           clear HA
           simp only [spec_l4Go.j3] at H
           by_cases c51 : x11_38 = true
           ·subst c51
            rw [if_pos rfl] at H
            replace H := Option.bind_eq_some_iff.mp H
            obtain ⟨⟨t646, t647, t648⟩, A520, H⟩ := H
            try dsimp only at H
            have A52 := Aside0.mk A520
            clear A520
            simp only [Option.some.injEq, Prod.mk.injEq] at H
            obtain ⟨rfl, rfl, rfl⟩ := H
            have hnb53 := NB645_641.out
            have hnc53 := NB641_645.out
            have hnb54 := NB645_642.out
            have hnc54 := NB642_645.out
            have hnb55 := NB645_643.out
            have hnc55 := NB643_645.out
            have hcz56_0 := b0 BK645
            have hcz56_1 := b1 BK645
            have hcz56_2 := b2 BK645
            have hcz56_3 := b3 BK645
            have hcz56_4 := b4 BK645
            have hcz56_5 := b5 BK645
            have hcz56_6 := b6 BK645
            have hcz56_7 := b7 BK645
            have hfz56_0 := fz BK645 0
            have hfz56_1 := fz BK645 1
            have hfz56_2 := fz BK645 2
            have hfz56_3 := fz BK645 3
            have hfz56_4 := fz BK645 4
            have hfz56_5 := fz BK645 5
            have hfz56_6 := fz BK645 6
            have hfz56_7 := fz BK645 7
            have hnb57 := NB641_642.out
            have hnc57 := NB642_641.out
            have hnb58 := NB641_643.out
            have hnc58 := NB643_641.out
            have hcz59_0 := b0 BK641
            have hcz59_1 := b1 BK641
            have hcz59_2 := b2 BK641
            have hfz59_0 := fz BK641 0
            have hfz59_1 := fz BK641 1
            have hfz59_2 := fz BK641 2
            go_wp2_with (first | ((with_reducible refine gate_callee (f := 86) rfl ?_); refine goesL_ (some 50) rfl rfl Try.func86 (by kernel_rfl) rfl #[.slice (some ad644) l0.length c0, .string ((rd_T39 l0 a2).f6), .int .i64 (wrap64 (a1_1 + x10_48))] rfl mxp ?_; (with_reducible refine (spec_l4At.calls kj48 _ _ l0 ((rd_T39 l0 a2).f6) (wrap64 (a1_1 + x10_48)) t646 t647 t648 _ ?side1 ?side2 A52.out).mono ?_); (case side1 => exact cx (Kd.C_below HR0.out HB.out)); (case side2 => exact HC0.out); rintro e w60 ⟨rfl, hb⟩; refine ⟨_, rfl, ?_⟩; replace BK641 := up BK641 hb; replace BK642 := up BK642 hb; replace BK643 := up BK643 hb; replace BK645 := up BK645 hb; replace HB := bs HB hb; (try clear hb); (try clear hb2); (try clear hk); (try clear hi); have hnb61 := NB643_642.out; have hnc61 := NB642_643.out; have hcz62_0 := b0 BK643; have hcz62_1 := b1 BK643; have hcz62_2 := b2 BK643; have hfz62_0 := fz BK643 0; have hfz62_1 := fz BK643 1; have hfz62_2 := fz BK643 2))
            refine bodyPost_ret (results_cell_row rfl _ _ gb643 31 #[.string t646, .int .i64 t647, .int .i64 t648] (0, 0) _ rfl (by refine bx ?_; refine blk_put (cs := #[.string t646, .int .i64 t647, .int .i64 0]) ?_ 2 _ rfl; refine bx ?_; refine blk_put (cs := #[.string t646, .int .i64 0, .int .i64 0]) ?_ 1 _ rfl; refine bx ?_; refine blk_put (cs := #[.string (⟨#[]⟩ : ByteArray), .int .i64 0, .int .i64 0]) ?_ 0 _ rfl; refine bx ?_; exact BK643.out) Try.underlying31 rfl (by kernel_rfl)) rfl ?_
            exact ⟨exq, bw HB.out⟩
           ·replace c51 := Bool.eq_false_iff.mpr c51
            subst c51
            rw [if_neg (show ¬ (false = true) by decide)] at H
            replace H := Option.bind_eq_some_iff.mp H
            obtain ⟨⟨t649, t650, t651⟩, A630, H⟩ := H
            try dsimp only at H
            have A63 := Aside0.mk A630
            clear A630
            simp only [Option.some.injEq, Prod.mk.injEq] at H
            obtain ⟨rfl, rfl, rfl⟩ := H
            have hnb64 := NB645_641.out
            have hnc64 := NB641_645.out
            have hnb65 := NB645_642.out
            have hnc65 := NB642_645.out
            have hnb66 := NB645_643.out
            have hnc66 := NB643_645.out
            have hcz67_0 := b0 BK645
            have hcz67_1 := b1 BK645
            have hcz67_2 := b2 BK645
            have hcz67_3 := b3 BK645
            have hcz67_4 := b4 BK645
            have hcz67_5 := b5 BK645
            have hcz67_6 := b6 BK645
            have hcz67_7 := b7 BK645
            have hfz67_0 := fz BK645 0
            have hfz67_1 := fz BK645 1
            have hfz67_2 := fz BK645 2
            have hfz67_3 := fz BK645 3
            have hfz67_4 := fz BK645 4
            have hfz67_5 := fz BK645 5
            have hfz67_6 := fz BK645 6
            have hfz67_7 := fz BK645 7
            have hnb68 := NB641_642.out
            have hnc68 := NB642_641.out
            have hnb69 := NB641_643.out
            have hnc69 := NB643_641.out
            have hcz70_0 := b0 BK641
            have hcz70_1 := b1 BK641
            have hcz70_2 := b2 BK641
            have hfz70_0 := fz BK641 0
            have hfz70_1 := fz BK641 1
            have hfz70_2 := fz BK641 2
            go_wp2_with (first | ((with_reducible refine gate_callee (f := 86) rfl ?_); refine goesL_ (some 58) rfl rfl Try.func86 (by kernel_rfl) rfl #[.slice (some ad644) l0.length c0, .string ((rd_T39 l0 a2).f7), .int .i64 (wrap64 (a1_1 + x10_48))] rfl mxp ?_; (with_reducible refine (spec_l4At.calls kj48 _ _ l0 ((rd_T39 l0 a2).f7) (wrap64 (a1_1 + x10_48)) t649 t650 t651 _ ?side1 ?side2 A63.out).mono ?_); (case side1 => exact cx (Kd.C_below HR0.out HB.out)); (case side2 => exact HC0.out); rintro e w71 ⟨rfl, hb⟩; refine ⟨_, rfl, ?_⟩; replace BK641 := up BK641 hb; replace BK642 := up BK642 hb; replace BK643 := up BK643 hb; replace BK645 := up BK645 hb; replace HB := bs HB hb; (try clear hb); (try clear hb2); (try clear hk); (try clear hi); have hnb72 := NB643_642.out; have hnc72 := NB642_643.out; have hcz73_0 := b0 BK643; have hcz73_1 := b1 BK643; have hcz73_2 := b2 BK643; have hfz73_0 := fz BK643 0; have hfz73_1 := fz BK643 1; have hfz73_2 := fz BK643 2))
            refine bodyPost_ret (results_cell_row rfl _ _ gb643 31 #[.string t649, .int .i64 t650, .int .i64 t651] (0, 0) _ rfl (by refine bx ?_; refine blk_put (cs := #[.string t649, .int .i64 t650, .int .i64 0]) ?_ 2 _ rfl; refine bx ?_; refine blk_put (cs := #[.string t649, .int .i64 0, .int .i64 0]) ?_ 1 _ rfl; refine bx ?_; refine blk_put (cs := #[.string (⟨#[]⟩ : ByteArray), .int .i64 0, .int .i64 0]) ?_ 0 _ rfl; refine bx ?_; exact BK643.out) Try.underlying31 rfl (by kernel_rfl)) rfl ?_
            exact ⟨exq, bw HB.out⟩
  ·rw [if_neg c6] at H
   exact absurd H (by simp)
 ·rw [if_neg c5] at H
  exact absurd H (by simp)


/-! ### spec_RecGo: function 47 -/
def spec_RecGo.f (k : Nat) (l0 : List (S39)) (a1_0 : ByteArray) (a1_1 : Int) (a1_2 : Int) (a2_0 : Int) (a2_1 : Bool) : Option (ByteArray × Int × Int × Bool) := (spec_l2At.f k l0 a1_0).bind fun t655 => ((spec_RecOk.f k l0).bind fun t656 => (if t656 = true then (if t655 < 0 then (some (a1_0, a1_1, a1_2, false)) else ((spec_l1In.f a1_1 0 12000).bind fun t657 => (if t657 = true then ((spec_l4Go.f k l0 a1_0 a1_1 a1_2 t655 a2_0 a2_1).bind fun bt658 => (some (bt658.1, bt658.2.1, bt658.2.2, true))) else (some (a1_0, a1_1, a1_2, false))))) else (some (a1_0, a1_1, a1_2, false))))
theorem spec_RecGo.mono : ∀ a0 a1 a2 a3 a4 a5 k, LeO (spec_RecGo.f k a0 a1 a2 a3 a4 a5) (spec_RecGo.f (k + 1) a0 a1 a2 a3 a4 a5) := by
 intro a0 a1 a2 a3 a4 a5 k
 unfold spec_RecGo.f
 repeat' first
   | (with_reducible exact spec_RecOk.mono _ _)
   | (with_reducible exact spec_l2At.mono _ _ _)
   | (with_reducible exact spec_l4Go.mono _ _ _ _ _ _ _ _)
   | (with_reducible exact LeO.refl _)
   | (with_reducible exact LeO.none _)
   | (with_reducible refine LeO.ite ?_ ?_)
   | (with_reducible refine LeO.bind ?_ (fun _ => ?_))
   | exact spec_RecOk.mono _ _
   | exact spec_l2At.mono _ _ _
   | exact spec_l4Go.mono _ _ _ _ _ _ _ _
   | exact LeO.none _
   | refine LeO.ite ?_ ?_
   | refine LeO.bind ?_ (fun _ => ?_)
set_option maxHeartbeats 8000000 in
set_option maxRecDepth 100000 in
theorem spec_RecGo.calls (k : Nat) (A0 : Option Addr) (c0 : Nat) (l0 : List (S39)) (a1_0 : ByteArray) (a1_1 : Int) (a1_2 : Int) (a2_0 : Int) (a2_1 : Bool) (r1 : ByteArray) (r2 : Int) (r3 : Int) (r4 : Bool) (w : World) (hr0 : Kd.C k39 w A0 l0.length l0) (hc0 : l0.length ≤ c0) (h : spec_RecGo.f k l0 a1_0 a1_1 a1_2 a2_0 a2_1 = some (r1, r2, r3, r4)) :
  Calls Try.prog 47 #[.slice A0 l0.length c0, .agg #[.string a1_0, .int .i64 a1_1, .int .i64 a1_2], .agg #[.int .i64 a2_0, .bool a2_1]] w fun e w' => e = .returned (.tuple #[.agg #[.string r1, .int .i64 r2, .int .i64 r3], .bool r4]) ∧ Below w.heap.size w w' := by
 have hu31 := Try.underlying31
 have hu43 := Try.underlying43
 have HR0 := Aside0.mk hr0
 have HC0 := Aside0.mk hc0
 clear hr0 hc0
 have HB := Aside0.mk (Below.refl w.heap.size w)
 have H : ((spec_l2At.f k l0 a1_0).bind fun t655 => ((spec_RecOk.f k l0).bind fun t656 => (if t656 = true then (if t655 < 0 then (some (a1_0, a1_1, a1_2, false)) else ((spec_l1In.f a1_1 0 12000).bind fun t657 => (if t657 = true then ((spec_l4Go.f k l0 a1_0 a1_1 a1_2 t655 a2_0 a2_1).bind fun bt658 => (some (bt658.1, bt658.2.1, bt658.2.2, true))) else (some (a1_0, a1_1, a1_2, false))))) else (some (a1_0, a1_1, a1_2, false))))) = some (r1, r2, r3, r4) := h
 clear h
 replace H := Option.bind_eq_some_iff.mp H
 obtain ⟨t655, A40, H⟩ := H
 try dsimp only at H
 have A4 := Aside0.mk A40
 clear A40
 replace H := Option.bind_eq_some_iff.mp H
 obtain ⟨t656, A50, H⟩ := H
 try dsimp only at H
 have A5 := Aside0.mk A50
 clear A50
 by_cases c6 : t656 = true
 ·subst c6
  rw [if_pos rfl] at H
  by_cases c7 : t655 < 0
  ·rw [if_pos c7] at H
   have c7b0 : decide (t655 < 0) = true := decide_eq_true c7
   clear c7
   simp only [Option.some.injEq, Prod.mk.injEq] at H
   obtain ⟨rfl, rfl, rfl, rfl⟩ := H
   go_enter Try.func47, Try.ntmps47
   go_wp2_with (first | ((with_reducible refine gate_dst (N := 4) rfl ?_); refine box_event ?hg (N := 4) ?hd (cs := #[.string a1_0, .int .i64 a1_1, .int .i64 a1_2]) (t := 31) ?hr ?_; (case hd => rfl); (case hg => rfl); (case hr => first | (go_simp; done) | (go_simp; rfl)); intro gb652 hg w8 hbox hb; have t_ := And.intro (bs HB hb) <| And.intro (Aside0.mk (hbox)) <| And.intro (gh hg HB) <| (gh hg HB); clear HB; obtain ⟨HB, BK652, GW652, GE652⟩ := t_; clear hb hbox hg) | ((with_reducible refine gate_dst (N := 5) rfl ?_); refine box_event ?hg (N := 5) ?hd (cs := #[.int .i64 a2_0, .bool a2_1]) (t := 43) ?hr ?_; (case hd => rfl); (case hg => rfl); (case hr => first | (go_simp; done) | (go_simp; rfl)); intro gb653 hg w9 hbox hb; have t_ := And.intro (up BK652 hb) <| And.intro (bs HB hb) <| And.intro (Aside0.mk (hbox)) <| And.intro (gh hg HB) <| And.intro (gh hg HB) <| And.intro (nlt' hg BK652) <| (ngt' hg BK652); clear BK652 HB; obtain ⟨BK652, HB, BK653, GW653, GE653, NB652_653, NB653_652⟩ := t_; clear hb hbox hg) | ((with_reducible refine gate_dst (N := 6) rfl ?_); refine box_event ?hg (N := 6) ?hd (cs := #[.string (⟨#[]⟩ : ByteArray), .int .i64 0, .int .i64 0]) (t := 31) ?hr ?_; (case hd => rfl); (case hg => rfl); (case hr => first | (go_simp; done) | (go_simp; rfl)); intro gb654 hg w10 hbox hb; have t_ := And.intro (up BK652 hb) <| And.intro (up BK653 hb) <| And.intro (bs HB hb) <| And.intro (Aside0.mk (hbox)) <| And.intro (gh hg HB) <| And.intro (gh hg HB) <| And.intro (nlt' hg BK652) <| And.intro (ngt' hg BK652) <| And.intro (nlt' hg BK653) <| (ngt' hg BK653); clear BK652 BK653 HB; obtain ⟨BK652, BK653, HB, BK654, GW654, GE654, NB652_654, NB654_652, NB653_654, NB654_653⟩ := t_; clear hb hbox hg; have hnb11 := NB652_653.out; have hnc11 := NB653_652.out; have hnb12 := NB652_654.out; have hnc12 := NB654_652.out; have hcz13_0 := b0 BK652; have hcz13_1 := b1 BK652; have hcz13_2 := b2 BK652; have hfz13_0 := fz BK652 0; have hfz13_1 := fz BK652 1; have hfz13_2 := fz BK652 2) | ((with_reducible refine gate_callee (f := 66) rfl ?_); refine goesL_ (some 12) rfl rfl Try.func66 (by kernel_rfl) rfl #[.slice A0 l0.length c0, .string a1_0] rfl mxp ?_; (with_reducible refine (spec_l2At.calls k _ _ l0 a1_0 t655 _ ?side1 ?side2 A4.out).mono ?_); (case side1 => exact cx (Kd.C_below HR0.out HB.out)); (case side2 => exact HC0.out); rintro e w' ⟨rfl, ⟨nd, rfl⟩⟩; refine ⟨_, rfl, ?_⟩; (try (rw [drewN_self w10]; generalize hq_ : World.drewN w10 _ = w10; have n0_ : Aside0 (w10.heap[gb652]? = some (.cells #[.string a1_0, .int .i64 a1_1, .int .i64 a1_2] 31 (0, 0))) := ⟨by rw [← hq_]; exact (bx BK652.out)⟩; have n1_ : Aside0 (w10.heap[gb653]? = some (.cells #[.int .i64 a2_0, .bool a2_1] 43 (0, 0))) := ⟨by rw [← hq_]; exact (bx BK653.out)⟩; have n2_ : Aside0 (w10.heap[gb654]? = some (.cells #[.string (⟨#[]⟩ : ByteArray), .int .i64 0, .int .i64 0] 31 (0, 0))) := ⟨by rw [← hq_]; exact (bx BK654.out)⟩; have n3_ : Aside0 (Below w.heap.size w w10) := ⟨by rw [← hq_]; exact (bw HB.out)⟩; clear BK652 BK653 BK654 HB hq_; have BK652 := n0_; have BK653 := n1_; have BK654 := n2_; have HB := n3_; clear n0_ n1_ n2_ n3_))) | ((with_reducible refine gate_callee (f := 24) rfl ?_); refine goesL_ (some 14) rfl rfl Try.func24 (by kernel_rfl) rfl #[.slice A0 l0.length c0] rfl mxp ?_; (with_reducible refine (spec_RecOk.calls k _ _ l0 true _ ?side1 ?side2 A5.out).mono ?_); (case side1 => exact cx (Kd.C_below HR0.out HB.out)); (case side2 => exact HC0.out); rintro e w14 ⟨rfl, hb⟩; refine ⟨_, rfl, ?_⟩; replace BK652 := up BK652 hb; replace BK653 := up BK653 hb; replace BK654 := up BK654 hb; replace HB := bs HB hb; (try clear hb); (try clear hb2); (try clear hk); (try clear hi); have hcz15_0 := b0 BK652; have hcz15_1 := b1 BK652; have hcz15_2 := b2 BK652; have hfz15_0 := fz BK652 0; have hfz15_1 := fz BK652 1; have hfz15_2 := fz BK652 2; have hnb16 := NB654_653.out; have hnc16 := NB653_654.out; have hcz17_0 := b0 BK654; have hcz17_1 := b1 BK654; have hcz17_2 := b2 BK654; have hfz17_0 := fz BK654 0; have hfz17_1 := fz BK654 1; have hfz17_2 := fz BK654 2))
   refine bodyPost_ret (results_ct rfl _ _ gb654 31 #[.string a1_0, .int .i64 a1_1, .int .i64 a1_2] (0, 0) _ rfl (by refine bx ?_; refine blk_put (cs := #[.string a1_0, .int .i64 a1_1, .int .i64 0]) ?_ 2 _ rfl; refine bx ?_; refine blk_put (cs := #[.string a1_0, .int .i64 0, .int .i64 0]) ?_ 1 _ rfl; refine bx ?_; refine blk_put (cs := #[.string (⟨#[]⟩ : ByteArray), .int .i64 0, .int .i64 0]) ?_ 0 _ rfl; refine bx ?_; exact BK654.out) Try.underlying31 rfl (by kernel_rfl)) rfl ?_
   exact ⟨exq, bw HB.out⟩
  ·rw [if_neg c7] at H
   have c7b0 : decide (t655 < 0) = false := decide_eq_false c7
   clear c7
   replace H := Option.bind_eq_some_iff.mp H
   obtain ⟨t657, A180, H⟩ := H
   try dsimp only at H
   have A18 := Aside0.mk A180
   clear A180
   by_cases c19 : t657 = true
   ·subst c19
    rw [if_pos rfl] at H
    replace H := Option.bind_eq_some_iff.mp H
    obtain ⟨⟨t658, t659, t660⟩, A200, H⟩ := H
    try dsimp only at H
    have A20 := Aside0.mk A200
    clear A200
    simp only [Option.some.injEq, Prod.mk.injEq] at H
    obtain ⟨rfl, rfl, rfl, rfl⟩ := H
    go_enter Try.func47, Try.ntmps47
    go_wp2_with (first | ((with_reducible refine gate_dst (N := 4) rfl ?_); refine box_event ?hg (N := 4) ?hd (cs := #[.string a1_0, .int .i64 a1_1, .int .i64 a1_2]) (t := 31) ?hr ?_; (case hd => rfl); (case hg => rfl); (case hr => first | (go_simp; done) | (go_simp; rfl)); intro gb652 hg w21 hbox hb; have t_ := And.intro (bs HB hb) <| And.intro (Aside0.mk (hbox)) <| And.intro (gh hg HB) <| (gh hg HB); clear HB; obtain ⟨HB, BK652, GW652, GE652⟩ := t_; clear hb hbox hg) | ((with_reducible refine gate_dst (N := 5) rfl ?_); refine box_event ?hg (N := 5) ?hd (cs := #[.int .i64 a2_0, .bool a2_1]) (t := 43) ?hr ?_; (case hd => rfl); (case hg => rfl); (case hr => first | (go_simp; done) | (go_simp; rfl)); intro gb653 hg w22 hbox hb; have t_ := And.intro (up BK652 hb) <| And.intro (bs HB hb) <| And.intro (Aside0.mk (hbox)) <| And.intro (gh hg HB) <| And.intro (gh hg HB) <| And.intro (nlt' hg BK652) <| (ngt' hg BK652); clear BK652 HB; obtain ⟨BK652, HB, BK653, GW653, GE653, NB652_653, NB653_652⟩ := t_; clear hb hbox hg) | ((with_reducible refine gate_dst (N := 6) rfl ?_); refine box_event ?hg (N := 6) ?hd (cs := #[.string (⟨#[]⟩ : ByteArray), .int .i64 0, .int .i64 0]) (t := 31) ?hr ?_; (case hd => rfl); (case hg => rfl); (case hr => first | (go_simp; done) | (go_simp; rfl)); intro gb654 hg w23 hbox hb; have t_ := And.intro (up BK652 hb) <| And.intro (up BK653 hb) <| And.intro (bs HB hb) <| And.intro (Aside0.mk (hbox)) <| And.intro (gh hg HB) <| And.intro (gh hg HB) <| And.intro (nlt' hg BK652) <| And.intro (ngt' hg BK652) <| And.intro (nlt' hg BK653) <| (ngt' hg BK653); clear BK652 BK653 HB; obtain ⟨BK652, BK653, HB, BK654, GW654, GE654, NB652_654, NB654_652, NB653_654, NB654_653⟩ := t_; clear hb hbox hg; have hnb24 := NB652_653.out; have hnc24 := NB653_652.out; have hnb25 := NB652_654.out; have hnc25 := NB654_652.out; have hcz26_0 := b0 BK652; have hcz26_1 := b1 BK652; have hcz26_2 := b2 BK652; have hfz26_0 := fz BK652 0; have hfz26_1 := fz BK652 1; have hfz26_2 := fz BK652 2) | ((with_reducible refine gate_callee (f := 66) rfl ?_); refine goesL_ (some 12) rfl rfl Try.func66 (by kernel_rfl) rfl #[.slice A0 l0.length c0, .string a1_0] rfl mxp ?_; (with_reducible refine (spec_l2At.calls k _ _ l0 a1_0 t655 _ ?side1 ?side2 A4.out).mono ?_); (case side1 => exact cx (Kd.C_below HR0.out HB.out)); (case side2 => exact HC0.out); rintro e w' ⟨rfl, ⟨nd, rfl⟩⟩; refine ⟨_, rfl, ?_⟩; (try (rw [drewN_self w23]; generalize hq_ : World.drewN w23 _ = w23; have n0_ : Aside0 (w23.heap[gb652]? = some (.cells #[.string a1_0, .int .i64 a1_1, .int .i64 a1_2] 31 (0, 0))) := ⟨by rw [← hq_]; exact (bx BK652.out)⟩; have n1_ : Aside0 (w23.heap[gb653]? = some (.cells #[.int .i64 a2_0, .bool a2_1] 43 (0, 0))) := ⟨by rw [← hq_]; exact (bx BK653.out)⟩; have n2_ : Aside0 (w23.heap[gb654]? = some (.cells #[.string (⟨#[]⟩ : ByteArray), .int .i64 0, .int .i64 0] 31 (0, 0))) := ⟨by rw [← hq_]; exact (bx BK654.out)⟩; have n3_ : Aside0 (Below w.heap.size w w23) := ⟨by rw [← hq_]; exact (bw HB.out)⟩; clear BK652 BK653 BK654 HB hq_; have BK652 := n0_; have BK653 := n1_; have BK654 := n2_; have HB := n3_; clear n0_ n1_ n2_ n3_))) | ((with_reducible refine gate_callee (f := 24) rfl ?_); refine goesL_ (some 14) rfl rfl Try.func24 (by kernel_rfl) rfl #[.slice A0 l0.length c0] rfl mxp ?_; (with_reducible refine (spec_RecOk.calls k _ _ l0 true _ ?side1 ?side2 A5.out).mono ?_); (case side1 => exact cx (Kd.C_below HR0.out HB.out)); (case side2 => exact HC0.out); rintro e w27 ⟨rfl, hb⟩; refine ⟨_, rfl, ?_⟩; replace BK652 := up BK652 hb; replace BK653 := up BK653 hb; replace BK654 := up BK654 hb; replace HB := bs HB hb; (try clear hb); (try clear hb2); (try clear hk); (try clear hi); have hcz28_0 := b0 BK652; have hcz28_1 := b1 BK652; have hcz28_2 := b2 BK652; have hfz28_0 := fz BK652 0; have hfz28_1 := fz BK652 1; have hfz28_2 := fz BK652 2) | (go_at_call 67; (with_reducible refine (spec_l1In.calls a1_1 0 12000 true _ A18.out).mono ?_); rintro e w' ⟨rfl, ⟨nd, rfl⟩⟩; (try (rw [drewN_self w27]; generalize hq_ : World.drewN w27 _ = w27; have n0_ : Aside0 (w27.heap[gb652]? = some (.cells #[.string a1_0, .int .i64 a1_1, .int .i64 a1_2] 31 (0, 0))) := ⟨by rw [← hq_]; exact (bx BK652.out)⟩; have n1_ : Aside0 (w27.heap[gb653]? = some (.cells #[.int .i64 a2_0, .bool a2_1] 43 (0, 0))) := ⟨by rw [← hq_]; exact (bx BK653.out)⟩; have n2_ : Aside0 (w27.heap[gb654]? = some (.cells #[.string (⟨#[]⟩ : ByteArray), .int .i64 0, .int .i64 0] 31 (0, 0))) := ⟨by rw [← hq_]; exact (bx BK654.out)⟩; have n3_ : Aside0 (Below w.heap.size w w27) := ⟨by rw [← hq_]; exact (bw HB.out)⟩; clear BK652 BK653 BK654 HB hq_; have BK652 := n0_; have BK653 := n1_; have BK654 := n2_; have HB := n3_; clear n0_ n1_ n2_ n3_)); have hcq0 : w27.cell? ⟨gb652, 0, none⟩ = some (.string a1_0) := (blk_cell BK652.out 0).trans rfl; have hcq1 : w27.cell? ⟨gb652, 1, none⟩ = some (.int .i64 a1_1) := (blk_cell BK652.out 1).trans rfl; have hcq2 : w27.cell? ⟨gb652, 2, none⟩ = some (.int .i64 a1_2) := (blk_cell BK652.out 2).trans rfl; have hnb29 := NB653_654.out; have hnc29 := NB654_653.out; have hcz30_0 := b0 BK653; have hcz30_1 := b1 BK653; have hfz30_0 := fz BK653 0; have hfz30_1 := fz BK653 1) | ((with_reducible refine gate_callee (f := 88) rfl ?_); refine goesL_ (some 31) rfl rfl Try.func88 (by kernel_rfl) rfl #[.slice A0 l0.length c0, .agg #[.string a1_0, .int .i64 a1_1, .int .i64 a1_2], .int .i64 t655, .agg #[.int .i64 a2_0, .bool a2_1]] rfl mxp ?_; (with_reducible refine (spec_l4Go.calls k _ _ l0 a1_0 a1_1 a1_2 t655 a2_0 a2_1 t658 t659 t660 _ ?side1 ?side2 A20.out).mono ?_); (case side1 => exact cx (Kd.C_below HR0.out HB.out)); (case side2 => exact HC0.out); rintro e w31 ⟨rfl, hb⟩; refine ⟨_, rfl, ?_⟩; replace BK652 := up BK652 hb; replace BK653 := up BK653 hb; replace BK654 := up BK654 hb; replace HB := bs HB hb; (try clear hb); (try clear hb2); (try clear hk); (try clear hi); have hcz32_0 := b0 BK654; have hcz32_1 := b1 BK654; have hcz32_2 := b2 BK654; have hfz32_0 := fz BK654 0; have hfz32_1 := fz BK654 1; have hfz32_2 := fz BK654 2))
    refine bodyPost_ret (results_ct rfl _ _ gb654 31 #[.string t658, .int .i64 t659, .int .i64 t660] (0, 0) _ rfl (by refine bx ?_; refine blk_put (cs := #[.string t658, .int .i64 t659, .int .i64 0]) ?_ 2 _ rfl; refine bx ?_; refine blk_put (cs := #[.string t658, .int .i64 0, .int .i64 0]) ?_ 1 _ rfl; refine bx ?_; refine blk_put (cs := #[.string (⟨#[]⟩ : ByteArray), .int .i64 0, .int .i64 0]) ?_ 0 _ rfl; refine bx ?_; exact BK654.out) Try.underlying31 rfl (by kernel_rfl)) rfl ?_
    exact ⟨exq, bw HB.out⟩
   ·replace c19 := Bool.eq_false_iff.mpr c19
    subst c19
    rw [if_neg (show ¬ (false = true) by decide)] at H
    simp only [Option.some.injEq, Prod.mk.injEq] at H
    obtain ⟨rfl, rfl, rfl, rfl⟩ := H
    go_enter Try.func47, Try.ntmps47
    go_wp2_with (first | ((with_reducible refine gate_dst (N := 4) rfl ?_); refine box_event ?hg (N := 4) ?hd (cs := #[.string a1_0, .int .i64 a1_1, .int .i64 a1_2]) (t := 31) ?hr ?_; (case hd => rfl); (case hg => rfl); (case hr => first | (go_simp; done) | (go_simp; rfl)); intro gb652 hg w33 hbox hb; have t_ := And.intro (bs HB hb) <| And.intro (Aside0.mk (hbox)) <| And.intro (gh hg HB) <| (gh hg HB); clear HB; obtain ⟨HB, BK652, GW652, GE652⟩ := t_; clear hb hbox hg) | ((with_reducible refine gate_dst (N := 5) rfl ?_); refine box_event ?hg (N := 5) ?hd (cs := #[.int .i64 a2_0, .bool a2_1]) (t := 43) ?hr ?_; (case hd => rfl); (case hg => rfl); (case hr => first | (go_simp; done) | (go_simp; rfl)); intro gb653 hg w34 hbox hb; have t_ := And.intro (up BK652 hb) <| And.intro (bs HB hb) <| And.intro (Aside0.mk (hbox)) <| And.intro (gh hg HB) <| And.intro (gh hg HB) <| And.intro (nlt' hg BK652) <| (ngt' hg BK652); clear BK652 HB; obtain ⟨BK652, HB, BK653, GW653, GE653, NB652_653, NB653_652⟩ := t_; clear hb hbox hg) | ((with_reducible refine gate_dst (N := 6) rfl ?_); refine box_event ?hg (N := 6) ?hd (cs := #[.string (⟨#[]⟩ : ByteArray), .int .i64 0, .int .i64 0]) (t := 31) ?hr ?_; (case hd => rfl); (case hg => rfl); (case hr => first | (go_simp; done) | (go_simp; rfl)); intro gb654 hg w35 hbox hb; have t_ := And.intro (up BK652 hb) <| And.intro (up BK653 hb) <| And.intro (bs HB hb) <| And.intro (Aside0.mk (hbox)) <| And.intro (gh hg HB) <| And.intro (gh hg HB) <| And.intro (nlt' hg BK652) <| And.intro (ngt' hg BK652) <| And.intro (nlt' hg BK653) <| (ngt' hg BK653); clear BK652 BK653 HB; obtain ⟨BK652, BK653, HB, BK654, GW654, GE654, NB652_654, NB654_652, NB653_654, NB654_653⟩ := t_; clear hb hbox hg; have hnb36 := NB652_653.out; have hnc36 := NB653_652.out; have hnb37 := NB652_654.out; have hnc37 := NB654_652.out; have hcz38_0 := b0 BK652; have hcz38_1 := b1 BK652; have hcz38_2 := b2 BK652; have hfz38_0 := fz BK652 0; have hfz38_1 := fz BK652 1; have hfz38_2 := fz BK652 2) | ((with_reducible refine gate_callee (f := 66) rfl ?_); refine goesL_ (some 12) rfl rfl Try.func66 (by kernel_rfl) rfl #[.slice A0 l0.length c0, .string a1_0] rfl mxp ?_; (with_reducible refine (spec_l2At.calls k _ _ l0 a1_0 t655 _ ?side1 ?side2 A4.out).mono ?_); (case side1 => exact cx (Kd.C_below HR0.out HB.out)); (case side2 => exact HC0.out); rintro e w' ⟨rfl, ⟨nd, rfl⟩⟩; refine ⟨_, rfl, ?_⟩; (try (rw [drewN_self w35]; generalize hq_ : World.drewN w35 _ = w35; have n0_ : Aside0 (w35.heap[gb652]? = some (.cells #[.string a1_0, .int .i64 a1_1, .int .i64 a1_2] 31 (0, 0))) := ⟨by rw [← hq_]; exact (bx BK652.out)⟩; have n1_ : Aside0 (w35.heap[gb653]? = some (.cells #[.int .i64 a2_0, .bool a2_1] 43 (0, 0))) := ⟨by rw [← hq_]; exact (bx BK653.out)⟩; have n2_ : Aside0 (w35.heap[gb654]? = some (.cells #[.string (⟨#[]⟩ : ByteArray), .int .i64 0, .int .i64 0] 31 (0, 0))) := ⟨by rw [← hq_]; exact (bx BK654.out)⟩; have n3_ : Aside0 (Below w.heap.size w w35) := ⟨by rw [← hq_]; exact (bw HB.out)⟩; clear BK652 BK653 BK654 HB hq_; have BK652 := n0_; have BK653 := n1_; have BK654 := n2_; have HB := n3_; clear n0_ n1_ n2_ n3_))) | ((with_reducible refine gate_callee (f := 24) rfl ?_); refine goesL_ (some 14) rfl rfl Try.func24 (by kernel_rfl) rfl #[.slice A0 l0.length c0] rfl mxp ?_; (with_reducible refine (spec_RecOk.calls k _ _ l0 true _ ?side1 ?side2 A5.out).mono ?_); (case side1 => exact cx (Kd.C_below HR0.out HB.out)); (case side2 => exact HC0.out); rintro e w39 ⟨rfl, hb⟩; refine ⟨_, rfl, ?_⟩; replace BK652 := up BK652 hb; replace BK653 := up BK653 hb; replace BK654 := up BK654 hb; replace HB := bs HB hb; (try clear hb); (try clear hb2); (try clear hk); (try clear hi); have hcz40_0 := b0 BK652; have hcz40_1 := b1 BK652; have hcz40_2 := b2 BK652; have hfz40_0 := fz BK652 0; have hfz40_1 := fz BK652 1; have hfz40_2 := fz BK652 2) | (go_at_call 67; (with_reducible refine (spec_l1In.calls a1_1 0 12000 false _ A18.out).mono ?_); rintro e w' ⟨rfl, ⟨nd, rfl⟩⟩; (try (rw [drewN_self w39]; generalize hq_ : World.drewN w39 _ = w39; have n0_ : Aside0 (w39.heap[gb652]? = some (.cells #[.string a1_0, .int .i64 a1_1, .int .i64 a1_2] 31 (0, 0))) := ⟨by rw [← hq_]; exact (bx BK652.out)⟩; have n1_ : Aside0 (w39.heap[gb653]? = some (.cells #[.int .i64 a2_0, .bool a2_1] 43 (0, 0))) := ⟨by rw [← hq_]; exact (bx BK653.out)⟩; have n2_ : Aside0 (w39.heap[gb654]? = some (.cells #[.string (⟨#[]⟩ : ByteArray), .int .i64 0, .int .i64 0] 31 (0, 0))) := ⟨by rw [← hq_]; exact (bx BK654.out)⟩; have n3_ : Aside0 (Below w.heap.size w w39) := ⟨by rw [← hq_]; exact (bw HB.out)⟩; clear BK652 BK653 BK654 HB hq_; have BK652 := n0_; have BK653 := n1_; have BK654 := n2_; have HB := n3_; clear n0_ n1_ n2_ n3_)); have hcq0 : w39.cell? ⟨gb652, 0, none⟩ = some (.string a1_0) := (blk_cell BK652.out 0).trans rfl; have hcq1 : w39.cell? ⟨gb652, 1, none⟩ = some (.int .i64 a1_1) := (blk_cell BK652.out 1).trans rfl; have hcq2 : w39.cell? ⟨gb652, 2, none⟩ = some (.int .i64 a1_2) := (blk_cell BK652.out 2).trans rfl; have hnb41 := NB654_653.out; have hnc41 := NB653_654.out; have hcz42_0 := b0 BK654; have hcz42_1 := b1 BK654; have hcz42_2 := b2 BK654; have hfz42_0 := fz BK654 0; have hfz42_1 := fz BK654 1; have hfz42_2 := fz BK654 2))
    refine bodyPost_ret (results_ct rfl _ _ gb654 31 #[.string a1_0, .int .i64 a1_1, .int .i64 a1_2] (0, 0) _ rfl (by refine bx ?_; refine blk_put (cs := #[.string a1_0, .int .i64 a1_1, .int .i64 0]) ?_ 2 _ rfl; refine bx ?_; refine blk_put (cs := #[.string a1_0, .int .i64 0, .int .i64 0]) ?_ 1 _ rfl; refine bx ?_; refine blk_put (cs := #[.string (⟨#[]⟩ : ByteArray), .int .i64 0, .int .i64 0]) ?_ 0 _ rfl; refine bx ?_; exact BK654.out) Try.underlying31 rfl (by kernel_rfl)) rfl ?_
    exact ⟨exq, bw HB.out⟩
 ·replace c6 := Bool.eq_false_iff.mpr c6
  subst c6
  rw [if_neg (show ¬ (false = true) by decide)] at H
  simp only [Option.some.injEq, Prod.mk.injEq] at H
  obtain ⟨rfl, rfl, rfl, rfl⟩ := H
  go_enter Try.func47, Try.ntmps47
  go_wp2_with (first | ((with_reducible refine gate_dst (N := 4) rfl ?_); refine box_event ?hg (N := 4) ?hd (cs := #[.string a1_0, .int .i64 a1_1, .int .i64 a1_2]) (t := 31) ?hr ?_; (case hd => rfl); (case hg => rfl); (case hr => first | (go_simp; done) | (go_simp; rfl)); intro gb652 hg w43 hbox hb; have t_ := And.intro (bs HB hb) <| And.intro (Aside0.mk (hbox)) <| And.intro (gh hg HB) <| (gh hg HB); clear HB; obtain ⟨HB, BK652, GW652, GE652⟩ := t_; clear hb hbox hg) | ((with_reducible refine gate_dst (N := 5) rfl ?_); refine box_event ?hg (N := 5) ?hd (cs := #[.int .i64 a2_0, .bool a2_1]) (t := 43) ?hr ?_; (case hd => rfl); (case hg => rfl); (case hr => first | (go_simp; done) | (go_simp; rfl)); intro gb653 hg w44 hbox hb; have t_ := And.intro (up BK652 hb) <| And.intro (bs HB hb) <| And.intro (Aside0.mk (hbox)) <| And.intro (gh hg HB) <| And.intro (gh hg HB) <| And.intro (nlt' hg BK652) <| (ngt' hg BK652); clear BK652 HB; obtain ⟨BK652, HB, BK653, GW653, GE653, NB652_653, NB653_652⟩ := t_; clear hb hbox hg) | ((with_reducible refine gate_dst (N := 6) rfl ?_); refine box_event ?hg (N := 6) ?hd (cs := #[.string (⟨#[]⟩ : ByteArray), .int .i64 0, .int .i64 0]) (t := 31) ?hr ?_; (case hd => rfl); (case hg => rfl); (case hr => first | (go_simp; done) | (go_simp; rfl)); intro gb654 hg w45 hbox hb; have t_ := And.intro (up BK652 hb) <| And.intro (up BK653 hb) <| And.intro (bs HB hb) <| And.intro (Aside0.mk (hbox)) <| And.intro (gh hg HB) <| And.intro (gh hg HB) <| And.intro (nlt' hg BK652) <| And.intro (ngt' hg BK652) <| And.intro (nlt' hg BK653) <| (ngt' hg BK653); clear BK652 BK653 HB; obtain ⟨BK652, BK653, HB, BK654, GW654, GE654, NB652_654, NB654_652, NB653_654, NB654_653⟩ := t_; clear hb hbox hg; have hnb46 := NB652_653.out; have hnc46 := NB653_652.out; have hnb47 := NB652_654.out; have hnc47 := NB654_652.out; have hcz48_0 := b0 BK652; have hcz48_1 := b1 BK652; have hcz48_2 := b2 BK652; have hfz48_0 := fz BK652 0; have hfz48_1 := fz BK652 1; have hfz48_2 := fz BK652 2) | ((with_reducible refine gate_callee (f := 66) rfl ?_); refine goesL_ (some 12) rfl rfl Try.func66 (by kernel_rfl) rfl #[.slice A0 l0.length c0, .string a1_0] rfl mxp ?_; (with_reducible refine (spec_l2At.calls k _ _ l0 a1_0 t655 _ ?side1 ?side2 A4.out).mono ?_); (case side1 => exact cx (Kd.C_below HR0.out HB.out)); (case side2 => exact HC0.out); rintro e w' ⟨rfl, ⟨nd, rfl⟩⟩; refine ⟨_, rfl, ?_⟩; (try (rw [drewN_self w45]; generalize hq_ : World.drewN w45 _ = w45; have n0_ : Aside0 (w45.heap[gb652]? = some (.cells #[.string a1_0, .int .i64 a1_1, .int .i64 a1_2] 31 (0, 0))) := ⟨by rw [← hq_]; exact (bx BK652.out)⟩; have n1_ : Aside0 (w45.heap[gb653]? = some (.cells #[.int .i64 a2_0, .bool a2_1] 43 (0, 0))) := ⟨by rw [← hq_]; exact (bx BK653.out)⟩; have n2_ : Aside0 (w45.heap[gb654]? = some (.cells #[.string (⟨#[]⟩ : ByteArray), .int .i64 0, .int .i64 0] 31 (0, 0))) := ⟨by rw [← hq_]; exact (bx BK654.out)⟩; have n3_ : Aside0 (Below w.heap.size w w45) := ⟨by rw [← hq_]; exact (bw HB.out)⟩; clear BK652 BK653 BK654 HB hq_; have BK652 := n0_; have BK653 := n1_; have BK654 := n2_; have HB := n3_; clear n0_ n1_ n2_ n3_))) | ((with_reducible refine gate_callee (f := 24) rfl ?_); refine goesL_ (some 14) rfl rfl Try.func24 (by kernel_rfl) rfl #[.slice A0 l0.length c0] rfl mxp ?_; (with_reducible refine (spec_RecOk.calls k _ _ l0 false _ ?side1 ?side2 A5.out).mono ?_); (case side1 => exact cx (Kd.C_below HR0.out HB.out)); (case side2 => exact HC0.out); rintro e w49 ⟨rfl, hb⟩; refine ⟨_, rfl, ?_⟩; replace BK652 := up BK652 hb; replace BK653 := up BK653 hb; replace BK654 := up BK654 hb; replace HB := bs HB hb; (try clear hb); (try clear hb2); (try clear hk); (try clear hi); have hcz50_0 := b0 BK652; have hcz50_1 := b1 BK652; have hcz50_2 := b2 BK652; have hfz50_0 := fz BK652 0; have hfz50_1 := fz BK652 1; have hfz50_2 := fz BK652 2; have hnb51 := NB654_653.out; have hnc51 := NB653_654.out; have hcz52_0 := b0 BK654; have hcz52_1 := b1 BK654; have hcz52_2 := b2 BK654; have hfz52_0 := fz BK654 0; have hfz52_1 := fz BK654 1; have hfz52_2 := fz BK654 2))
  refine bodyPost_ret (results_ct rfl _ _ gb654 31 #[.string a1_0, .int .i64 a1_1, .int .i64 a1_2] (0, 0) _ rfl (by refine bx ?_; refine blk_put (cs := #[.string a1_0, .int .i64 a1_1, .int .i64 0]) ?_ 2 _ rfl; refine bx ?_; refine blk_put (cs := #[.string a1_0, .int .i64 0, .int .i64 0]) ?_ 1 _ rfl; refine bx ?_; refine blk_put (cs := #[.string (⟨#[]⟩ : ByteArray), .int .i64 0, .int .i64 0]) ?_ 0 _ rfl; refine bx ?_; exact BK654.out) Try.underlying31 rfl (by kernel_rfl)) rfl ?_
  exact ⟨exq, bw HB.out⟩


/-! ### spec_RecRun: function 22 -/
mutual
def spec_RecRun.l0 : Nat → List (S39) → List (S43) → List ByteArray → Int → ByteArray → Int → Int → Option (ByteArray × Int × Int × List ByteArray)
 | 0, _, _, _, _, _, _, _ => none
 | k + 1, x0, x1, x7, x8, x811000, x811001, x811002 => (spec_RecOk.f k x0).bind fun t814 => (if t814 = true then ((spec_l2At.f k x0 x811000).bind fun t815 => (spec_RecRun.j1 k x0 x1 x7 x8 (decide (t815 ≥ 0)) x811000 x811001 x811002)) else (spec_RecRun.j1 k x0 x1 x7 x8 false x811000 x811001 x811002))
def spec_RecRun.j1 : Nat → List (S39) → List (S43) → List ByteArray → Int → Bool → ByteArray → Int → Int → Option (ByteArray × Int × Int × List ByteArray)
 | 0, _, _, _, _, _, _, _, _ => none
 | k + 1, x0, x1, x7, x8, x23, x811000, x811001, x811002 => if x23 = true then (if x8 < (x1.length : Int) then (if 0 ≤ x8 then (if x7.length < 8796093022208 then ((spec_RecGo.f k x0 x811000 x811001 x811002 ((rd_T43 x1 x8).f0) ((rd_T43 x1 x8).f1)).bind fun bt821 => (spec_RecRun.l0 k x0 x1 (x7 ++ [x811000]) (wrap64 (x8 + 1)) bt821.1 bt821.2.1 bt821.2.2.1)) else (none)) else (none)) else (if x7.length < 8796093022208 then ((spec_RecGo.f k x0 x811000 x811001 x811002 1001 false).bind fun bt829 => (spec_RecRun.l0 k x0 x1 (x7 ++ [x811000]) (wrap64 (x8 + 1)) bt829.1 bt829.2.1 bt829.2.2.1)) else (none))) else (some (x811000, x811001, x811002, x7))
end
def spec_RecRun.f (k : Nat) (l0 : List (S39)) (l1 : List (S43)) : Option (ByteArray × Int × Int × List ByteArray) := (spec_RecBegin.f k l0).bind fun bt807 => (spec_RecRun.l0 k l0 l1 (([] : List ByteArray)) 0 bt807.1 bt807.2.1 bt807.2.2)
theorem spec_RecRun.mono_l : ∀ k, (∀ y0 y1 y2 y3 y4 y5 y6, LeO (spec_RecRun.l0 k y0 y1 y2 y3 y4 y5 y6) (spec_RecRun.l0 (k + 1) y0 y1 y2 y3 y4 y5 y6)) ∧ (∀ y0 y1 y2 y3 y4 y5 y6 y7, LeO (spec_RecRun.j1 k y0 y1 y2 y3 y4 y5 y6 y7) (spec_RecRun.j1 (k + 1) y0 y1 y2 y3 y4 y5 y6 y7))
 | 0 => ⟨fun _ _ _ _ _ _ _ r h => by simp [spec_RecRun.l0] at h, fun _ _ _ _ _ _ _ _ r h => by simp [spec_RecRun.j1] at h⟩
 | k + 1 => by
  obtain ⟨ih0, ih1⟩ := spec_RecRun.mono_l k
  refine ⟨?_, ?_⟩
  ·intro y0 y1 y2 y3 y4 y5 y6
   unfold spec_RecRun.l0
   repeat' first
   | (with_reducible exact ih0 _ _ _ _ _ _ _)
   | (with_reducible exact ih1 _ _ _ _ _ _ _ _)
   | (with_reducible exact spec_RecBegin.mono _ _)
   | (with_reducible exact spec_RecGo.mono _ _ _ _ _ _ _)
   | (with_reducible exact spec_RecOk.mono _ _)
   | (with_reducible exact spec_l2At.mono _ _ _)
   | (with_reducible exact LeO.refl _)
   | (with_reducible exact LeO.none _)
   | (with_reducible refine LeO.ite ?_ ?_)
   | (with_reducible refine LeO.bind ?_ (fun _ => ?_))
   | exact ih0 _ _ _ _ _ _ _
   | exact ih1 _ _ _ _ _ _ _ _
   | exact spec_RecBegin.mono _ _
   | exact spec_RecGo.mono _ _ _ _ _ _ _
   | exact spec_RecOk.mono _ _
   | exact spec_l2At.mono _ _ _
   | exact LeO.none _
   | refine LeO.ite ?_ ?_
   | refine LeO.bind ?_ (fun _ => ?_)
  ·intro y0 y1 y2 y3 y4 y5 y6 y7
   unfold spec_RecRun.j1
   repeat' first
   | (with_reducible exact ih0 _ _ _ _ _ _ _)
   | (with_reducible exact ih1 _ _ _ _ _ _ _ _)
   | (with_reducible exact spec_RecBegin.mono _ _)
   | (with_reducible exact spec_RecGo.mono _ _ _ _ _ _ _)
   | (with_reducible exact spec_RecOk.mono _ _)
   | (with_reducible exact spec_l2At.mono _ _ _)
   | (with_reducible exact LeO.refl _)
   | (with_reducible exact LeO.none _)
   | (with_reducible refine LeO.ite ?_ ?_)
   | (with_reducible refine LeO.bind ?_ (fun _ => ?_))
   | exact ih0 _ _ _ _ _ _ _
   | exact ih1 _ _ _ _ _ _ _ _
   | exact spec_RecBegin.mono _ _
   | exact spec_RecGo.mono _ _ _ _ _ _ _
   | exact spec_RecOk.mono _ _
   | exact spec_l2At.mono _ _ _
   | exact LeO.none _
   | refine LeO.ite ?_ ?_
   | refine LeO.bind ?_ (fun _ => ?_)
theorem spec_RecRun.mono : ∀ a0 a1 k, LeO (spec_RecRun.f k a0 a1) (spec_RecRun.f (k + 1) a0 a1) := by
 intro a0 a1 k
 obtain ⟨ih0, ih1⟩ := spec_RecRun.mono_l k
 unfold spec_RecRun.f
 repeat' first
   | (with_reducible exact ih0 _ _ _ _ _ _ _)
   | (with_reducible exact ih1 _ _ _ _ _ _ _ _)
   | (with_reducible exact spec_RecBegin.mono _ _)
   | (with_reducible exact spec_RecGo.mono _ _ _ _ _ _ _)
   | (with_reducible exact spec_RecOk.mono _ _)
   | (with_reducible exact spec_l2At.mono _ _ _)
   | (with_reducible exact LeO.refl _)
   | (with_reducible exact LeO.none _)
   | (with_reducible refine LeO.ite ?_ ?_)
   | (with_reducible refine LeO.bind ?_ (fun _ => ?_))
   | exact ih0 _ _ _ _ _ _ _
   | exact ih1 _ _ _ _ _ _ _ _
   | exact spec_RecBegin.mono _ _
   | exact spec_RecGo.mono _ _ _ _ _ _ _
   | exact spec_RecOk.mono _ _
   | exact spec_l2At.mono _ _ _
   | exact LeO.none _
   | refine LeO.ite ?_ ?_
   | refine LeO.bind ?_ (fun _ => ?_)
set_option maxHeartbeats 8000000 in
set_option maxRecDepth 100000 in
theorem spec_RecRun.calls (k : Nat) (A0 : Option Addr) (c0 : Nat) (l0 : List (S39)) (A1 : Option Addr) (c1 : Nat) (l1 : List (S43)) (r1 : ByteArray) (r2 : Int) (r3 : Int) (r4 : List ByteArray) (w : World) (hr0 : Kd.C k39 w A0 l0.length l0) (hc0 : l0.length ≤ c0) (hr1 : Kd.C k43 w A1 l1.length l1) (hc1 : l1.length ≤ c1) (h : spec_RecRun.f k l0 l1 = some (r1, r2, r3, r4)) :
  Calls Try.prog 22 #[.slice A0 l0.length c0, .slice A1 l1.length c1] w fun e w' => ∃ v3_ : Value, e = .returned (.tuple #[.agg #[.string r1, .int .i64 r2, .int .i64 r3], v3_]) ∧ Kd.R Kd.string 9 w' w.heap.size (fun _ => True) v3_ r4 ∧ Below w.heap.size w w' := by
 have hu31 := Try.underlying31
 have hu43 := Try.underlying43
 have HR0 := Aside0.mk hr0
 have HC0 := Aside0.mk hc0
 clear hr0 hc0
 have HR1 := Aside0.mk hr1
 have HC1 := Aside0.mk hc1
 clear hr1 hc1
 have HB := Aside0.mk (Below.refl w.heap.size w)
 have H : ((spec_RecBegin.f k l0).bind fun bt807 => (spec_RecRun.l0 k l0 l1 (([] : List ByteArray)) 0 bt807.1 bt807.2.1 bt807.2.2)) = some (r1, r2, r3, r4) := h
 clear h
 replace H := Option.bind_eq_some_iff.mp H
 obtain ⟨⟨t807, t808, t809⟩, A30, H⟩ := H
 try dsimp only at H
 have A3 := Aside0.mk A30
 clear A30
 obtain ⟨y811, hy811⟩ : ∃ y_ : List ByteArray, y_ = (([] : List ByteArray)) := ⟨_, rfl⟩
 replace H : (spec_RecRun.l0 k l0 l1 y811 0 t807 t808 t809) = some (r1, r2, r3, r4) := rpl H hy811
 have Ny811 := Aside0.mk hy811
 clear hy811
 have H' := Aside0.mk H
 clear H
 go_enter Try.func22, Try.ntmps22
 go_wp2_with (first | ((with_reducible refine gate_dst (N := 4) rfl ?_); refine box_event ?hg (N := 4) ?hd (cs := #[.string (⟨#[]⟩ : ByteArray), .int .i64 0, .int .i64 0]) (t := 31) ?hr ?_; (case hd => rfl); (case hg => rfl); (case hr => first | (go_simp; done) | (go_simp; rfl)); intro gb806 hg w4 hbox hb; have t_ := And.intro (bs HB hb) <| And.intro (Aside0.mk (hbox)) <| And.intro (gh hg HB) <| (gh hg HB); clear HB; obtain ⟨HB, BK806, GW806, GE806⟩ := t_; clear hb hbox hg) | ((with_reducible refine gate_callee (f := 42) rfl ?_); refine goesL_ (some 13) rfl rfl Try.func42 (by kernel_rfl) rfl #[.slice A0 l0.length c0] rfl mxp ?_; (with_reducible refine (spec_RecBegin.calls k _ _ l0 t807 t808 t809 _ ?side1 ?side2 A3.out).mono ?_); (case side1 => exact cx (Kd.C_below HR0.out HB.out)); (case side2 => exact HC0.out); rintro e w5 ⟨rfl, hb⟩; refine ⟨_, rfl, ?_⟩; replace BK806 := up BK806 hb; replace HB := bs HB hb; (try clear hb); (try clear hb2); (try clear hk); (try clear hi)) | ((with_reducible refine gate_dst (N := 6) rfl ?_); refine box_event ?hg (N := 6) ?hd (cs := #[.string (⟨#[]⟩ : ByteArray), .int .i64 0, .int .i64 0]) (t := 31) ?hr ?_; (case hd => rfl); (case hg => rfl); (case hr => first | (go_simp; done) | (go_simp; rfl)); intro gb810 hg w6 hbox hb; have t_ := And.intro (up BK806 hb) <| And.intro (bs HB hb) <| And.intro (Aside0.mk (hbox)) <| And.intro (gh hg HB) <| And.intro (gh hg HB) <| And.intro (nlt' hg BK806) <| (ngt' hg BK806); clear BK806 HB; obtain ⟨BK806, HB, BK810, GW810, GE810, NB806_810, NB810_806⟩ := t_; clear hb hbox hg; have hnb7 := NB810_806.out; have hnc7 := NB806_810.out; have hcz8_0 := b0 BK810; have hcz8_1 := b1 BK810; have hcz8_2 := b2 BK810; have hfz8_0 := fz BK810 0; have hfz8_1 := fz BK810 1; have hfz8_2 := fz BK810 2) | ((with_reducible refine gate_dst (N := 14) rfl ?_); refine Kd.R_lit Kd.string _ 9 ?hg (N := 14) ?hd (xs := ([] : List ByteArray)) (inner := []) (ok := fun _ => True) (okp := fun _ => True) ?hr ?hp (fun _ hk => hk) trivial (Below.refl _ _) (Nat.le_refl _) (by simp) ?_; (case hd => rfl); (case hg => rfl); (case hr => first | (go_simp; done) | (go_simp; rfl)); (case hp => exact (Reps.none _ _)); intro v812 w9 ho10 hb hg_ hnew_; clear hg_ hnew_; (first | rw [← Ny811.out] at ho10 | (simp only [Int.reduceToNat] at ho10; rw [← Ny811.out] at ho10)); have t_ := And.intro (Aside0.mk (Kd.R_lower ho10 (below_size (bw HB.out)))) <| And.intro (Aside0.mk (blk_below (g := gb806) (o := .cells #[.string (⟨#[]⟩ : ByteArray), .int .i64 0, .int .i64 0] 31 (0, 0)) (by refine bx ?_; refine blk_far ?_ NB806_810.out _; refine bx ?_; refine blk_far ?_ NB806_810.out _; refine bx ?_; refine blk_far ?_ NB806_810.out _; refine bx ?_; exact BK806.out) hb)) <| And.intro (Aside0.mk (blk_below (g := gb810) (o := .cells #[.string t807, .int .i64 t808, .int .i64 t809] 31 (0, 0)) (by refine bx ?_; refine blk_put (cs := #[.string t807, .int .i64 t808, .int .i64 0]) ?_ 2 _ rfl; refine bx ?_; refine blk_put (cs := #[.string t807, .int .i64 0, .int .i64 0]) ?_ 1 _ rfl; refine bx ?_; refine blk_put (cs := #[.string (⟨#[]⟩ : ByteArray), .int .i64 0, .int .i64 0]) ?_ 0 _ rfl; refine bx ?_; exact BK810.out) hb)) <| (bs HB hb); clear BK806 BK810 HB; obtain ⟨HO813, BK806, BK810, HB⟩ := t_; clear hb ho10))
 go_loopg [7, 8] k (fun kq v7 v8 w' => ∃ (x7_1 : List ByteArray) (x8_1 : Int) (x811000_1 : ByteArray) (x811001_1 : Int) (x811002_1 : Int), v8 = .int .i64 x8_1 ∧ Aside0 (spec_RecRun.l0 kq l0 l1 x7_1 x8_1 x811000_1 x811001_1 x811002_1 = some (r1, r2, r3, r4)) ∧ Aside0 (kq ≤ k) ∧ Aside0 (Kd.R Kd.string 9 w' w.heap.size (fun _ => True) v7 x7_1) ∧ Aside0 (w'.heap[gb806]? = some (.cells #[.string (⟨#[]⟩ : ByteArray), .int .i64 0, .int .i64 0] 31 (0, 0))) ∧ Aside0 (w'.heap[gb810]? = some (.cells #[.string x811000_1, .int .i64 x811001_1, .int .i64 x811002_1] 31 (0, 0))) ∧ Aside0 (Below w.heap.size w w'))
 case atStart => exact ⟨(y811), (0), (t807), (t808), (t809), (by first | rfl | (simp; done) | (simp [*]; done)), H', ⟨Nat.le_refl _⟩, ⟨by refine rx ?_; exact HO813.out⟩, (bk BK806), (bk BK810), (hbw HB)⟩
 case round =>
  clear H'
  obtain ⟨x7_1, x8_1, x811000_1, x811001_1, x811002_1, rfl, HA, HK1, HO_7, BK806, BK810, HB⟩ := hrel
  cases gk with
  | zero => exact absurd HA.out (by simp [spec_RecRun.l0])
  | succ k1 =>
   have H := HA.out
   clear HA
   simp only [spec_RecRun.l0] at H
   have HC11 := Aside0.mk H
   clear H
   go_upto_region 4 with (fail)
   go_cut [23] (fun v23 wc => ∃ (kq : Nat) (x23_10 : Bool), v23 = .bool x23_10 ∧ Aside0 (spec_RecRun.j1 kq l0 l1 x7_1 x8_1 x23_10 x811000_1 x811001_1 x811002_1 = some (r1, r2, r3, r4)) ∧ Aside0 (kq ≤ k1) ∧ Aside0 (Kd.R Kd.string 9 wc w.heap.size (fun _ => True) u7 x7_1) ∧ Aside0 (wc.heap[gb806]? = some (.cells #[.string (⟨#[]⟩ : ByteArray), .int .i64 0, .int .i64 0] 31 (0, 0))) ∧ Aside0 (wc.heap[gb810]? = some (.cells #[.string x811000_1, .int .i64 x811001_1, .int .i64 x811002_1] 31 (0, 0))) ∧ Aside0 (Below w.heap.size w wc))
   case first =>
    have H := HC11.out
    clear HC11
    replace H := Option.bind_eq_some_iff.mp H
    obtain ⟨t814, A120, H⟩ := H
    try dsimp only at H
    have A12 := Aside0.mk A120
    clear A120
    by_cases c13 : t814 = true
    ·subst c13
     rw [if_pos rfl] at H
     replace H := Option.bind_eq_some_iff.mp H
     obtain ⟨t815, A140, H⟩ := H
     try dsimp only at H
     have A14 := Aside0.mk A140
     clear A140
     have H' := Aside0.mk H
     clear H
     go_wp2_with (first | ((with_reducible refine gate_callee (f := 24) rfl ?_); refine goesL_ (some 16) rfl rfl Try.func24 (by kernel_rfl) rfl #[.slice A0 l0.length c0] rfl mxp ?_; (with_reducible refine (spec_RecOk.calls k1 _ _ l0 true _ ?side1 ?side2 A12.out).mono ?_); (case side1 => exact cx (Kd.C_below HR0.out HB.out)); (case side2 => exact HC0.out); rintro e w15 ⟨rfl, hb⟩; refine ⟨_, rfl, ?_⟩; have t_ := And.intro (Aside0.mk (Kd.R_below (rx HO_7.out) hb)) <| And.intro (up BK806 hb) <| And.intro (up BK810 hb) <| (bs HB hb); clear HO_7 BK806 BK810 HB; obtain ⟨HO_7, BK806, BK810, HB⟩ := t_; (try clear hb); (try clear hb2); (try clear hk); (try clear hi); have hnb16 := NB810_806.out; have hnc16 := NB806_810.out; have hcz17_0 := b0 BK810; have hcz17_1 := b1 BK810; have hcz17_2 := b2 BK810; have hfz17_0 := fz BK810 0; have hfz17_1 := fz BK810 1; have hfz17_2 := fz BK810 2) | (go_at_call 66; (with_reducible refine (spec_l2At.calls k1 _ _ l0 x811000_1 t815 _ ?side1 ?side2 A14.out).mono ?_); (case side1 => exact cx (Kd.C_below HR0.out HB.out)); (case side2 => exact HC0.out); rintro e w' ⟨rfl, ⟨nd, rfl⟩⟩))
     go_meet
     case rel => exact ⟨_, (decide (t815 ≥ 0)), (by first | rfl | (simp; done) | (simp [*]; done)), H', ⟨by have := HK1.out; first | omega | exact Nat.le_refl _⟩, ⟨by refine rx ?_; exact HO_7.out⟩, (bk BK806), (bk BK810), (hbw HB)⟩
    ·replace c13 := Bool.eq_false_iff.mpr c13
     subst c13
     rw [if_neg (show ¬ (false = true) by decide)] at H
     have H' := Aside0.mk H
     clear H
     go_wp2_with (first | ((with_reducible refine gate_callee (f := 24) rfl ?_); refine goesL_ (some 16) rfl rfl Try.func24 (by kernel_rfl) rfl #[.slice A0 l0.length c0] rfl mxp ?_; (with_reducible refine (spec_RecOk.calls k1 _ _ l0 false _ ?side1 ?side2 A12.out).mono ?_); (case side1 => exact cx (Kd.C_below HR0.out HB.out)); (case side2 => exact HC0.out); rintro e w18 ⟨rfl, hb⟩; refine ⟨_, rfl, ?_⟩; have t_ := And.intro (Aside0.mk (Kd.R_below (rx HO_7.out) hb)) <| And.intro (up BK806 hb) <| And.intro (up BK810 hb) <| (bs HB hb); clear HO_7 BK806 BK810 HB; obtain ⟨HO_7, BK806, BK810, HB⟩ := t_; (try clear hb); (try clear hb2); (try clear hk); (try clear hi)))
     go_meet
     case rel => exact ⟨_, (false), (by first | rfl | (simp; done) | (simp [*]; done)), H', ⟨by have := HK1.out; first | omega | exact Nat.le_refl _⟩, ⟨by refine rx ?_; exact HO_7.out⟩, (bk BK806), (bk BK810), (hbw HB)⟩
   case rest =>
    clear HC11
    obtain ⟨kq, x23_10, rfl, HA, HJ10, HO_7, BK806, BK810, HB⟩ := hcut
    cases kq with
    | zero => exact absurd HA.out (by simp [spec_RecRun.j1])
    | succ kj10 =>
     have H := HA.out
     clear HA
     simp only [spec_RecRun.j1] at H
     by_cases c19 : x23_10 = true
     ·subst c19
      rw [if_pos rfl] at H
      by_cases c20 : x8_1 < (l1.length : Int)
      ·rw [if_pos c20] at H
       have c20b0 : decide (x8_1 < (l1.length : Int)) = true := decide_eq_true c20
       clear c20
       by_cases c21 : 0 ≤ x8_1
       ·rw [if_pos c21] at H
        have c21b0 : decide (0 ≤ x8_1) = true := decide_eq_true c21
        clear c21
        by_cases c22 : x7_1.length < 8796093022208
        ·rw [if_pos c22] at H
         have LMc22 := Aside0.mk c22
         clear c22
         obtain ⟨y818, hy818⟩ : ∃ y_ : List ByteArray, y_ = (x7_1 ++ [x811000_1]) := ⟨_, rfl⟩
         replace H : ((spec_RecGo.f kj10 l0 x811000_1 x811001_1 x811002_1 ((rd_T43 l1 x8_1).f0) ((rd_T43 l1 x8_1).f1)).bind fun bt821 => (spec_RecRun.l0 kj10 l0 l1 y818 (wrap64 (x8_1 + 1)) bt821.1 bt821.2.1 bt821.2.2.1)) = some (r1, r2, r3, r4) := rpl H hy818
         have Ny818 := Aside0.mk hy818
         clear hy818
         replace H := Option.bind_eq_some_iff.mp H
         obtain ⟨⟨t821, t822, t823, t824⟩, A230, H⟩ := H
         try dsimp only at H
         have A23 := Aside0.mk A230
         clear A230
         have H' := Aside0.mk H
         clear H
         go_wp2_with (first | ((with_reducible refine gate_dst (N := 9) rfl ?_); refine box_event ?hg (N := 9) ?hd (cs := #[.int .i64 0, .bool false]) (t := 43) ?hr ?_; (case hd => rfl); (case hg => rfl); (case hr => first | (go_simp; done) | (go_simp; rfl)); intro gb816 hg w24 hbox hb; have t_ := And.intro (Aside0.mk (Kd.R_below (rx HO_7.out) hb)) <| And.intro (up BK806 hb) <| And.intro (up BK810 hb) <| And.intro (bs HB hb) <| And.intro (Aside0.mk (hbox)) <| And.intro (gh hg HB) <| And.intro (gh hg HB) <| And.intro (nlt' hg BK806) <| And.intro (ngt' hg BK806) <| And.intro (nlt' hg BK810) <| (ngt' hg BK810); clear HO_7 BK806 BK810 HB; obtain ⟨HO_7, BK806, BK810, HB, BK816, GW816, GE816, NB806_816, NB816_806, NB810_816, NB816_810⟩ := t_; clear hb hbox hg; have hnb25 := NB816_806.out; have hnc25 := NB806_816.out; have hnb26 := NB816_810.out; have hnc26 := NB810_816.out; have hcz27_0 := b0 BK816; have hcz27_1 := b1 BK816; have hfz27_0 := fz BK816 0; have hfz27_1 := fz BK816 1; have p817 : 0 ≤ (x8_1 : Int) := oda; have q817 : x8_1 < (l1.length : Int) := oda; obtain ⟨ad817, e817, hx817_0, hx817_1⟩ := at_T43 HR1.out x8_1 p817 q817; cases e817; have hn817_0 : ad817.block ≠ gb816 := Nat.ne_of_lt (Nat.lt_of_lt_of_le (by have := World.block_lt_of_cell? _ _ hx817_0; first | rwa [add_block] at this | exact this) GW816.out); have hn817_1 : ad817.block ≠ gb816 := Nat.ne_of_lt (Nat.lt_of_lt_of_le (by have := World.block_lt_of_cell? _ _ hx817_0; first | rwa [add_block] at this | exact this) GW816.out); replace hx817_0 := bcl HB hx817_0; replace hx817_1 := bcl HB hx817_1; replace hx817_0 := (cell_far (p := ⟨gb816, 0, none⟩) (by first | (rw [add_block]; exact hn817_0) | (show (Addr.add _ _).block ≠ _; rw [add_block]; exact hn817_0) | exact hn817_0) (.int .i64 1001)).trans hx817_0; replace hx817_1 := (cell_far (p := ⟨gb816, 0, none⟩) (by first | (rw [add_block]; exact hn817_0) | (show (Addr.add _ _).block ≠ _; rw [add_block]; exact hn817_0) | exact hn817_0) (.int .i64 1001)).trans hx817_1; replace hx817_0 := (cell_far (p := ⟨gb816, 1, none⟩) (by first | (rw [add_block]; exact hn817_1) | (show (Addr.add _ _).block ≠ _; rw [add_block]; exact hn817_1) | exact hn817_1) (.bool false)).trans hx817_0; replace hx817_1 := (cell_far (p := ⟨gb816, 1, none⟩) (by first | (rw [add_block]; exact hn817_1) | (show (Addr.add _ _).block ≠ _; rw [add_block]; exact hn817_1) | exact hn817_1) (.bool false)).trans hx817_1; clear hn817_0; clear hn817_1; replace p817 := eq_true p817; replace q817 := eq_true q817; have hnb28 := NB810_806.out; have hnc28 := NB806_810.out; have hcz29_0 := b0 BK810; have hcz29_1 := b1 BK810; have hcz29_2 := b2 BK810; have hfz29_0 := fz BK810 0; have hfz29_1 := fz BK810 1; have hfz29_2 := fz BK810 2) | ((with_reducible refine gate_builtin (b := .append) (xs := #[.tmp 35, .tmp 38]) rfl ?_); at_builtin; refine Kd.R_append Kd.string (w0 := w) w.heap.size rfl (.tmp 35) (.tmp 38) 32 9 (.string ⟨#[]⟩) 16 rfl Try.underlying32 info9 rfl (by decide) (by omega) u7 x7_1 x811000_1 [.string x811000_1] (fun _ => True) (fun _ => False) rfl (by first | (go_simp; done) | (go_simp; rfl)) ?aP (fun _ hk => hk.elim) ?aF ?aO ?aB ?aS ?aL ?_; (case aP => exact rfl); (case aB => exact (bw HB.out)); (case aF => exact (fun _ _ => trivial)); (case aO => exact (by refine rx ?_; exact Kd.R_mono (Kd.R_far (p := ⟨gb816, 1, none⟩) (Kd.R_far (p := ⟨gb816, 0, none⟩) (Kd.R_far (p := ⟨gb816, 1, none⟩) (Kd.R_far (p := ⟨gb816, 0, none⟩) (Kd.R_types HO_7.out BK816.out (by decide)) (fun _ hk => hk.2) (.int .i64 1001)) (fun _ hk => hk.2) (.bool false)) (fun _ hk => hk.2) (.int .i64 ((rd_T43 l1 x8_1).f0))) (fun _ hk => hk.2) (.bool ((rd_T43 l1 x8_1).f1))) (fun _ hk => trivial))); (case aS => exact (below_size (bw HB.out))); (case aL => have := LMc22.out; omega); intro v819 w30 ho hb hg hat; rw [← Ny818.out] at ho; have t_ := And.intro (Aside0.mk (blk_grown (g := gb806) (o := .cells #[.string (⟨#[]⟩ : ByteArray), .int .i64 0, .int .i64 0] 31 (0, 0)) (by refine bx ?_; refine blk_far ?_ NB806_816.out _; refine bx ?_; refine blk_far ?_ NB806_816.out _; refine bx ?_; refine blk_far ?_ NB806_816.out _; refine bx ?_; refine blk_far ?_ NB806_816.out _; refine bx ?_; exact BK806.out) hg (Kd.R_ne HO_7.out BK806.out (by decide)))) <| And.intro (Aside0.mk (blk_grown (g := gb810) (o := .cells #[.string x811000_1, .int .i64 x811001_1, .int .i64 x811002_1] 31 (0, 0)) (by refine bx ?_; refine blk_far ?_ NB810_816.out _; refine bx ?_; refine blk_far ?_ NB810_816.out _; refine bx ?_; refine blk_far ?_ NB810_816.out _; refine bx ?_; refine blk_far ?_ NB810_816.out _; refine bx ?_; exact BK810.out) hg (Kd.R_ne HO_7.out BK810.out (by decide)))) <| And.intro (Aside0.mk (blk_grown (g := gb816) (o := .cells #[.int .i64 ((rd_T43 l1 x8_1).f0), .bool ((rd_T43 l1 x8_1).f1)] 43 (0, 0)) (by refine bx ?_; refine blk_put (cs := #[.int .i64 ((rd_T43 l1 x8_1).f0), .bool false]) ?_ 1 _ rfl; refine bx ?_; refine blk_put (cs := #[.int .i64 1001, .bool false]) ?_ 0 _ rfl; refine bx ?_; refine blk_put (cs := #[.int .i64 1001, .bool false]) ?_ 1 _ rfl; refine bx ?_; refine blk_put (cs := #[.int .i64 0, .bool false]) ?_ 0 _ rfl; refine bx ?_; exact BK816.out) hg (Kd.R_ne HO_7.out BK816.out (by decide)))) <| And.intro (Aside0.mk (hb)) <| (Aside0.mk (ho)); clear BK806 BK810 BK816 HB HO_7; obtain ⟨BK806, BK810, BK816, HB, HO820⟩ := t_; clear ho hb hg hat; have hcz31_0 := b0 BK810; have hcz31_1 := b1 BK810; have hcz31_2 := b2 BK810; have hfz31_0 := fz BK810 0; have hfz31_1 := fz BK810 1; have hfz31_2 := fz BK810 2; have hcz32_0 := b0 BK816; have hcz32_1 := b1 BK816; have hfz32_0 := fz BK816 0; have hfz32_1 := fz BK816 1) | ((with_reducible refine gate_callee (f := 47) rfl ?_); refine goesL_ (some 44) rfl rfl Try.func47 (by kernel_rfl) rfl #[.slice A0 l0.length c0, .agg #[.string x811000_1, .int .i64 x811001_1, .int .i64 x811002_1], .agg #[.int .i64 ((rd_T43 l1 x8_1).f0), .bool ((rd_T43 l1 x8_1).f1)]] rfl mxp ?_; (with_reducible refine (spec_RecGo.calls kj10 _ _ l0 x811000_1 x811001_1 x811002_1 ((rd_T43 l1 x8_1).f0) ((rd_T43 l1 x8_1).f1) t821 t822 t823 t824 _ ?side1 ?side2 A23.out).mono ?_); (case side1 => exact cx (Kd.C_below HR0.out HB.out)); (case side2 => exact HC0.out); rintro e w33 ⟨rfl, hb⟩; refine ⟨_, rfl, ?_⟩; have t_ := And.intro (Aside0.mk (Kd.R_below (rx HO820.out) hb)) <| And.intro (up BK806 hb) <| And.intro (up BK810 hb) <| And.intro (up BK816 hb) <| (bs HB hb); clear HO820 BK806 BK810 BK816 HB; obtain ⟨HO820, BK806, BK810, BK816, HB⟩ := t_; (try clear hb); (try clear hb2); (try clear hk); (try clear hi)) | ((with_reducible refine gate_dst (N := 10) rfl ?_); refine box_event ?hg (N := 10) ?hd (cs := #[.string (⟨#[]⟩ : ByteArray), .int .i64 0, .int .i64 0]) (t := 31) ?hr ?_; (case hd => rfl); (case hg => rfl); (case hr => first | (go_simp; done) | (go_simp; rfl)); intro gb825 hg w34 hbox hb; have t_ := And.intro (Aside0.mk (Kd.R_below (rx HO820.out) hb)) <| And.intro (up BK806 hb) <| And.intro (up BK810 hb) <| And.intro (up BK816 hb) <| And.intro (bs HB hb) <| And.intro (Aside0.mk (hbox)) <| And.intro (gh hg HB) <| And.intro (gh hg HB) <| And.intro (nlt' hg BK806) <| And.intro (ngt' hg BK806) <| And.intro (nlt' hg BK810) <| And.intro (ngt' hg BK810) <| And.intro (nlt' hg BK816) <| (ngt' hg BK816); clear HO820 BK806 BK810 BK816 HB; obtain ⟨HO820, BK806, BK810, BK816, HB, BK825, GW825, GE825, NB806_825, NB825_806, NB810_825, NB825_810, NB816_825, NB825_816⟩ := t_; clear hb hbox hg; have hnb35 := NB825_806.out; have hnc35 := NB806_825.out; have hnb36 := NB825_810.out; have hnc36 := NB810_825.out; have hnb37 := NB825_816.out; have hnc37 := NB816_825.out; have hcz38_0 := b0 BK825; have hcz38_1 := b1 BK825; have hcz38_2 := b2 BK825; have hfz38_0 := fz BK825 0; have hfz38_1 := fz BK825 1; have hfz38_2 := fz BK825 2; have hcz39_0 := b0 BK810; have hcz39_1 := b1 BK810; have hcz39_2 := b2 BK810; have hfz39_0 := fz BK810 0; have hfz39_1 := fz BK810 1; have hfz39_2 := fz BK810 2))
         go_roundg kj10
         case measure => have := HK1.out; have := HJ10.out; omega
         case rel => exact ⟨(y818), (wrap64 (x8_1 + 1)), (t821), (t822), (t823), (by first | rfl | (simp; done) | (simp [*]; done)), H', ⟨by have := HK1.out; have := HJ10.out; omega⟩, ⟨by refine rx ?_; exact Kd.R_mono (Kd.R_far (p := ⟨gb810, 2, none⟩) (Kd.R_far (p := ⟨gb810, 1, none⟩) (Kd.R_far (p := ⟨gb810, 0, none⟩) (Kd.R_far (p := ⟨gb825, 2, none⟩) (Kd.R_far (p := ⟨gb825, 1, none⟩) (Kd.R_far (p := ⟨gb825, 0, none⟩) (Kd.R_types (Kd.R_types HO820.out BK825.out (by decide)) BK810.out (by decide)) (fun _ hk => hk.1.2) (.string t821)) (fun _ hk => hk.1.2) (.int .i64 t822)) (fun _ hk => hk.1.2) (.int .i64 t823)) (fun _ hk => hk.2) (.string t821)) (fun _ hk => hk.2) (.int .i64 t822)) (fun _ hk => hk.2) (.int .i64 t823)) (fun _ hk => trivial)⟩, ⟨by refine bx ?_; refine blk_far ?_ NB806_810.out _; refine bx ?_; refine blk_far ?_ NB806_810.out _; refine bx ?_; refine blk_far ?_ NB806_810.out _; refine bx ?_; refine blk_far ?_ NB806_825.out _; refine bx ?_; refine blk_far ?_ NB806_825.out _; refine bx ?_; refine blk_far ?_ NB806_825.out _; refine bx ?_; exact BK806.out⟩, ⟨by refine bx ?_; refine blk_put (cs := #[.string t821, .int .i64 t822, .int .i64 x811002_1]) ?_ 2 _ rfl; refine bx ?_; refine blk_put (cs := #[.string t821, .int .i64 x811001_1, .int .i64 x811002_1]) ?_ 1 _ rfl; refine bx ?_; refine blk_put (cs := #[.string x811000_1, .int .i64 x811001_1, .int .i64 x811002_1]) ?_ 0 _ rfl; refine bx ?_; refine blk_far ?_ NB810_825.out _; refine bx ?_; refine blk_far ?_ NB810_825.out _; refine bx ?_; refine blk_far ?_ NB810_825.out _; refine bx ?_; exact BK810.out⟩, (hbw HB)⟩
        ·rw [if_neg c22] at H
         exact absurd H (by simp)
       ·rw [if_neg c21] at H
        exact absurd H (by simp)
      ·rw [if_neg c20] at H
       have c20b0 : decide (x8_1 < (l1.length : Int)) = false := decide_eq_false c20
       clear c20
       by_cases c40 : x7_1.length < 8796093022208
       ·rw [if_pos c40] at H
        have LMc40 := Aside0.mk c40
        clear c40
        obtain ⟨y826, hy826⟩ : ∃ y_ : List ByteArray, y_ = (x7_1 ++ [x811000_1]) := ⟨_, rfl⟩
        replace H : ((spec_RecGo.f kj10 l0 x811000_1 x811001_1 x811002_1 1001 false).bind fun bt829 => (spec_RecRun.l0 kj10 l0 l1 y826 (wrap64 (x8_1 + 1)) bt829.1 bt829.2.1 bt829.2.2.1)) = some (r1, r2, r3, r4) := rpl H hy826
        have Ny826 := Aside0.mk hy826
        clear hy826
        replace H := Option.bind_eq_some_iff.mp H
        obtain ⟨⟨t829, t830, t831, t832⟩, A410, H⟩ := H
        try dsimp only at H
        have A41 := Aside0.mk A410
        clear A410
        have H' := Aside0.mk H
        clear H
        go_wp2_with (first | ((with_reducible refine gate_dst (N := 9) rfl ?_); refine box_event ?hg (N := 9) ?hd (cs := #[.int .i64 0, .bool false]) (t := 43) ?hr ?_; (case hd => rfl); (case hg => rfl); (case hr => first | (go_simp; done) | (go_simp; rfl)); intro gb816 hg w42 hbox hb; have t_ := And.intro (Aside0.mk (Kd.R_below (rx HO_7.out) hb)) <| And.intro (up BK806 hb) <| And.intro (up BK810 hb) <| And.intro (bs HB hb) <| And.intro (Aside0.mk (hbox)) <| And.intro (gh hg HB) <| And.intro (gh hg HB) <| And.intro (nlt' hg BK806) <| And.intro (ngt' hg BK806) <| And.intro (nlt' hg BK810) <| (ngt' hg BK810); clear HO_7 BK806 BK810 HB; obtain ⟨HO_7, BK806, BK810, HB, BK816, GW816, GE816, NB806_816, NB816_806, NB810_816, NB816_810⟩ := t_; clear hb hbox hg; have hnb43 := NB816_806.out; have hnc43 := NB806_816.out; have hnb44 := NB816_810.out; have hnc44 := NB810_816.out; have hcz45_0 := b0 BK816; have hcz45_1 := b1 BK816; have hfz45_0 := fz BK816 0; have hfz45_1 := fz BK816 1; have hnb46 := NB810_806.out; have hnc46 := NB806_810.out; have hcz47_0 := b0 BK810; have hcz47_1 := b1 BK810; have hcz47_2 := b2 BK810; have hfz47_0 := fz BK810 0; have hfz47_1 := fz BK810 1; have hfz47_2 := fz BK810 2) | ((with_reducible refine gate_builtin (b := .append) (xs := #[.tmp 35, .tmp 38]) rfl ?_); at_builtin; refine Kd.R_append Kd.string (w0 := w) w.heap.size rfl (.tmp 35) (.tmp 38) 32 9 (.string ⟨#[]⟩) 16 rfl Try.underlying32 info9 rfl (by decide) (by omega) u7 x7_1 x811000_1 [.string x811000_1] (fun _ => True) (fun _ => False) rfl (by first | (go_simp; done) | (go_simp; rfl)) ?aP (fun _ hk => hk.elim) ?aF ?aO ?aB ?aS ?aL ?_; (case aP => exact rfl); (case aB => exact (bw HB.out)); (case aF => exact (fun _ _ => trivial)); (case aO => exact (by refine rx ?_; exact Kd.R_mono (Kd.R_far (p := ⟨gb816, 1, none⟩) (Kd.R_far (p := ⟨gb816, 0, none⟩) (Kd.R_types HO_7.out BK816.out (by decide)) (fun _ hk => hk.2) (.int .i64 1001)) (fun _ hk => hk.2) (.bool false)) (fun _ hk => trivial))); (case aS => exact (below_size (bw HB.out))); (case aL => have := LMc40.out; omega); intro v827 w48 ho hb hg hat; rw [← Ny826.out] at ho; have t_ := And.intro (Aside0.mk (blk_grown (g := gb806) (o := .cells #[.string (⟨#[]⟩ : ByteArray), .int .i64 0, .int .i64 0] 31 (0, 0)) (by refine bx ?_; refine blk_far ?_ NB806_816.out _; refine bx ?_; refine blk_far ?_ NB806_816.out _; refine bx ?_; exact BK806.out) hg (Kd.R_ne HO_7.out BK806.out (by decide)))) <| And.intro (Aside0.mk (blk_grown (g := gb810) (o := .cells #[.string x811000_1, .int .i64 x811001_1, .int .i64 x811002_1] 31 (0, 0)) (by refine bx ?_; refine blk_far ?_ NB810_816.out _; refine bx ?_; refine blk_far ?_ NB810_816.out _; refine bx ?_; exact BK810.out) hg (Kd.R_ne HO_7.out BK810.out (by decide)))) <| And.intro (Aside0.mk (blk_grown (g := gb816) (o := .cells #[.int .i64 1001, .bool false] 43 (0, 0)) (by refine bx ?_; refine blk_put (cs := #[.int .i64 1001, .bool false]) ?_ 1 _ rfl; refine bx ?_; refine blk_put (cs := #[.int .i64 0, .bool false]) ?_ 0 _ rfl; refine bx ?_; exact BK816.out) hg (Kd.R_ne HO_7.out BK816.out (by decide)))) <| And.intro (Aside0.mk (hb)) <| (Aside0.mk (ho)); clear BK806 BK810 BK816 HB HO_7; obtain ⟨BK806, BK810, BK816, HB, HO828⟩ := t_; clear ho hb hg hat; have hcz49_0 := b0 BK810; have hcz49_1 := b1 BK810; have hcz49_2 := b2 BK810; have hfz49_0 := fz BK810 0; have hfz49_1 := fz BK810 1; have hfz49_2 := fz BK810 2; have hcz50_0 := b0 BK816; have hcz50_1 := b1 BK816; have hfz50_0 := fz BK816 0; have hfz50_1 := fz BK816 1) | ((with_reducible refine gate_callee (f := 47) rfl ?_); refine goesL_ (some 44) rfl rfl Try.func47 (by kernel_rfl) rfl #[.slice A0 l0.length c0, .agg #[.string x811000_1, .int .i64 x811001_1, .int .i64 x811002_1], .agg #[.int .i64 1001, .bool false]] rfl mxp ?_; (with_reducible refine (spec_RecGo.calls kj10 _ _ l0 x811000_1 x811001_1 x811002_1 1001 false t829 t830 t831 t832 _ ?side1 ?side2 A41.out).mono ?_); (case side1 => exact cx (Kd.C_below HR0.out HB.out)); (case side2 => exact HC0.out); rintro e w51 ⟨rfl, hb⟩; refine ⟨_, rfl, ?_⟩; have t_ := And.intro (Aside0.mk (Kd.R_below (rx HO828.out) hb)) <| And.intro (up BK806 hb) <| And.intro (up BK810 hb) <| And.intro (up BK816 hb) <| (bs HB hb); clear HO828 BK806 BK810 BK816 HB; obtain ⟨HO828, BK806, BK810, BK816, HB⟩ := t_; (try clear hb); (try clear hb2); (try clear hk); (try clear hi)) | ((with_reducible refine gate_dst (N := 10) rfl ?_); refine box_event ?hg (N := 10) ?hd (cs := #[.string (⟨#[]⟩ : ByteArray), .int .i64 0, .int .i64 0]) (t := 31) ?hr ?_; (case hd => rfl); (case hg => rfl); (case hr => first | (go_simp; done) | (go_simp; rfl)); intro gb833 hg w52 hbox hb; have t_ := And.intro (Aside0.mk (Kd.R_below (rx HO828.out) hb)) <| And.intro (up BK806 hb) <| And.intro (up BK810 hb) <| And.intro (up BK816 hb) <| And.intro (bs HB hb) <| And.intro (Aside0.mk (hbox)) <| And.intro (gh hg HB) <| And.intro (gh hg HB) <| And.intro (nlt' hg BK806) <| And.intro (ngt' hg BK806) <| And.intro (nlt' hg BK810) <| And.intro (ngt' hg BK810) <| And.intro (nlt' hg BK816) <| (ngt' hg BK816); clear HO828 BK806 BK810 BK816 HB; obtain ⟨HO828, BK806, BK810, BK816, HB, BK833, GW833, GE833, NB806_833, NB833_806, NB810_833, NB833_810, NB816_833, NB833_816⟩ := t_; clear hb hbox hg; have hnb53 := NB833_806.out; have hnc53 := NB806_833.out; have hnb54 := NB833_810.out; have hnc54 := NB810_833.out; have hnb55 := NB833_816.out; have hnc55 := NB816_833.out; have hcz56_0 := b0 BK833; have hcz56_1 := b1 BK833; have hcz56_2 := b2 BK833; have hfz56_0 := fz BK833 0; have hfz56_1 := fz BK833 1; have hfz56_2 := fz BK833 2; have hcz57_0 := b0 BK810; have hcz57_1 := b1 BK810; have hcz57_2 := b2 BK810; have hfz57_0 := fz BK810 0; have hfz57_1 := fz BK810 1; have hfz57_2 := fz BK810 2))
        go_roundg kj10
        case measure => have := HK1.out; have := HJ10.out; omega
        case rel => exact ⟨(y826), (wrap64 (x8_1 + 1)), (t829), (t830), (t831), (by first | rfl | (simp; done) | (simp [*]; done)), H', ⟨by have := HK1.out; have := HJ10.out; omega⟩, ⟨by refine rx ?_; exact Kd.R_mono (Kd.R_far (p := ⟨gb810, 2, none⟩) (Kd.R_far (p := ⟨gb810, 1, none⟩) (Kd.R_far (p := ⟨gb810, 0, none⟩) (Kd.R_far (p := ⟨gb833, 2, none⟩) (Kd.R_far (p := ⟨gb833, 1, none⟩) (Kd.R_far (p := ⟨gb833, 0, none⟩) (Kd.R_types (Kd.R_types HO828.out BK833.out (by decide)) BK810.out (by decide)) (fun _ hk => hk.1.2) (.string t829)) (fun _ hk => hk.1.2) (.int .i64 t830)) (fun _ hk => hk.1.2) (.int .i64 t831)) (fun _ hk => hk.2) (.string t829)) (fun _ hk => hk.2) (.int .i64 t830)) (fun _ hk => hk.2) (.int .i64 t831)) (fun _ hk => trivial)⟩, ⟨by refine bx ?_; refine blk_far ?_ NB806_810.out _; refine bx ?_; refine blk_far ?_ NB806_810.out _; refine bx ?_; refine blk_far ?_ NB806_810.out _; refine bx ?_; refine blk_far ?_ NB806_833.out _; refine bx ?_; refine blk_far ?_ NB806_833.out _; refine bx ?_; refine blk_far ?_ NB806_833.out _; refine bx ?_; exact BK806.out⟩, ⟨by refine bx ?_; refine blk_put (cs := #[.string t829, .int .i64 t830, .int .i64 x811002_1]) ?_ 2 _ rfl; refine bx ?_; refine blk_put (cs := #[.string t829, .int .i64 x811001_1, .int .i64 x811002_1]) ?_ 1 _ rfl; refine bx ?_; refine blk_put (cs := #[.string x811000_1, .int .i64 x811001_1, .int .i64 x811002_1]) ?_ 0 _ rfl; refine bx ?_; refine blk_far ?_ NB810_833.out _; refine bx ?_; refine blk_far ?_ NB810_833.out _; refine bx ?_; refine blk_far ?_ NB810_833.out _; refine bx ?_; exact BK810.out⟩, (hbw HB)⟩
       ·rw [if_neg c40] at H
        exact absurd H (by simp)
     ·replace c19 := Bool.eq_false_iff.mpr c19
      subst c19
      rw [if_neg (show ¬ (false = true) by decide)] at H
      simp only [Option.some.injEq, Prod.mk.injEq] at H
      obtain ⟨rfl, rfl, rfl, rfl⟩ := H
      have hnb58 := NB810_806.out
      have hnc58 := NB806_810.out
      have hcz59_0 := b0 BK810
      have hcz59_1 := b1 BK810
      have hcz59_2 := b2 BK810
      have hfz59_0 := fz BK810 0
      have hfz59_1 := fz BK810 1
      have hfz59_2 := fz BK810 2
      have hcz60_0 := b0 BK806
      have hcz60_1 := b1 BK806
      have hcz60_2 := b2 BK806
      have hfz60_0 := fz BK806 0
      have hfz60_1 := fz BK806 1
      have hfz60_2 := fz BK806 2
      go_wp2
      refine bodyPost_ret (results_ct rfl _ _ gb806 31 #[.string x811000_1, .int .i64 x811001_1, .int .i64 x811002_1] (0, 0) _ rfl (by refine bx ?_; refine blk_put (cs := #[.string x811000_1, .int .i64 x811001_1, .int .i64 0]) ?_ 2 _ rfl; refine bx ?_; refine blk_put (cs := #[.string x811000_1, .int .i64 0, .int .i64 0]) ?_ 1 _ rfl; refine bx ?_; refine blk_put (cs := #[.string (⟨#[]⟩ : ByteArray), .int .i64 0, .int .i64 0]) ?_ 0 _ rfl; refine bx ?_; exact BK806.out) Try.underlying31 rfl (by kernel_rfl)) rfl ?_
      exact ⟨_, exq, by refine rx ?_; exact Kd.R_mono (Kd.R_far (p := ⟨gb806, 2, none⟩) (Kd.R_far (p := ⟨gb806, 1, none⟩) (Kd.R_far (p := ⟨gb806, 0, none⟩) (Kd.R_types HO_7.out BK806.out (by decide)) (fun _ hk => hk.2) (.string x811000_1)) (fun _ hk => hk.2) (.int .i64 x811001_1)) (fun _ hk => hk.2) (.int .i64 x811002_1)) (fun _ hk => trivial), bw HB.out⟩


/-! ### laws_wTexts: function 23 -/
def laws_wTexts.l0 : Nat → List ByteArray → List ByteArray → Int → Option (Bool)
 | 0, _, _, _ => none
 | k + 1, x0, x1, x5 => if x5 < (x0.length : Int) then (if 0 ≤ x5 then (if x5 < (x1.length : Int) then (if (rdOf ByteArray.empty x0 x5).toList = (rdOf ByteArray.empty x1 x5).toList then (laws_wTexts.l0 k x0 x1 (wrap64 (x5 + 1))) else (some false)) else (none)) else (none)) else (some true)
def laws_wTexts.f (k : Nat) (l0 : List ByteArray) (l1 : List ByteArray) : Option (Bool) := if (l0.length : Int) = (l1.length : Int) then (laws_wTexts.l0 k l0 l1 0) else (some false)
theorem laws_wTexts.mono_l : ∀ k, (∀ y0 y1 y2, LeO (laws_wTexts.l0 k y0 y1 y2) (laws_wTexts.l0 (k + 1) y0 y1 y2))
 | 0 => fun _ _ _ r h => by simp [laws_wTexts.l0] at h
 | k + 1 => by
  have ih0 := laws_wTexts.mono_l k
  ·intro y0 y1 y2
   unfold laws_wTexts.l0
   repeat' first
   | (with_reducible exact ih0 _ _ _)
   | (with_reducible exact LeO.refl _)
   | (with_reducible exact LeO.none _)
   | (with_reducible refine LeO.ite ?_ ?_)
   | (with_reducible refine LeO.bind ?_ (fun _ => ?_))
   | exact ih0 _ _ _
   | exact LeO.none _
   | refine LeO.ite ?_ ?_
   | refine LeO.bind ?_ (fun _ => ?_)
theorem laws_wTexts.mono : ∀ a0 a1 k, LeO (laws_wTexts.f k a0 a1) (laws_wTexts.f (k + 1) a0 a1) := by
 intro a0 a1 k
 have ih0 := laws_wTexts.mono_l k
 unfold laws_wTexts.f
 repeat' first
   | (with_reducible exact ih0 _ _ _)
   | (with_reducible exact LeO.refl _)
   | (with_reducible exact LeO.none _)
   | (with_reducible refine LeO.ite ?_ ?_)
   | (with_reducible refine LeO.bind ?_ (fun _ => ?_))
   | exact ih0 _ _ _
   | exact LeO.none _
   | refine LeO.ite ?_ ?_
   | refine LeO.bind ?_ (fun _ => ?_)
set_option maxHeartbeats 8000000 in
set_option maxRecDepth 100000 in
theorem laws_wTexts.calls (k : Nat) (A0 : Option Addr) (c0 : Nat) (l0 : List ByteArray) (A1 : Option Addr) (c1 : Nat) (l1 : List ByteArray) (r : Bool) (w : World) (hr0 : Kd.C Kd.string w A0 l0.length l0) (hc0 : l0.length ≤ c0) (hr1 : Kd.C Kd.string w A1 l1.length l1) (hc1 : l1.length ≤ c1) (h : laws_wTexts.f k l0 l1 = some r) :
  Calls Try.prog 23 #[.slice A0 l0.length c0, .slice A1 l1.length c1] w fun e w' => e = .returned (.bool r) ∧ Drawn0 w w' := by
 have HR0 := Aside0.mk hr0
 have HC0 := Aside0.mk hc0
 clear hr0 hc0
 have HR1 := Aside0.mk hr1
 have HC1 := Aside0.mk hc1
 clear hr1 hc1
 have H : (if (l0.length : Int) = (l1.length : Int) then (laws_wTexts.l0 k l0 l1 0) else (some false)) = some r := h
 clear h
 by_cases c3 : (l0.length : Int) = (l1.length : Int)
 ·rw [if_pos c3] at H
  have c3b0 : ((l0.length : Int) == (l1.length : Int)) = true := beq_iff_eq.mpr c3
  have c3b1 : ((l0.length : Int) != (l1.length : Int)) = false := bne_eq_false_iff_eq.mpr c3
  have c3b2 : (l0.length == l1.length) = true := by first | simpa using c3 | (simp at c3 ⊢; omega)
  clear c3
  have H' := Aside0.mk H
  clear H
  go_enter Try.func23, Try.ntmps23
  go_wp2
  repeat (go_quiet (fail); try go_wp2)
  go_loopg [5] k (fun kq v5 w' => ∃ (x5_1 : Int), v5 = .int .i64 x5_1 ∧ Aside0 (laws_wTexts.l0 kq l0 l1 x5_1 = some r) ∧ Aside0 (kq ≤ k) ∧ Drawn0 w w')
  case atStart => exact ⟨(0), (by first | rfl | (simp; done) | (simp [*]; done)), H', ⟨Nat.le_refl _⟩, by repeat (first | exact Drawn0.refl _ | apply Drawn0.step)⟩
  case round =>
   clear H'
   obtain ⟨x5_1, rfl, HA, HK1, ⟨m1, rfl⟩⟩ := hrel
   cases gk with
   | zero => exact absurd HA.out (by simp [laws_wTexts.l0])
   | succ k1 =>
    have H := HA.out
    clear HA
    simp only [laws_wTexts.l0] at H
    by_cases c4 : x5_1 < (l0.length : Int)
    ·rw [if_pos c4] at H
     have c4b0 : decide (x5_1 < (l0.length : Int)) = true := decide_eq_true c4
     clear c4
     by_cases c5 : 0 ≤ x5_1
     ·rw [if_pos c5] at H
      have c5b0 : decide (0 ≤ x5_1) = true := decide_eq_true c5
      clear c5
      by_cases c6 : x5_1 < (l1.length : Int)
      ·rw [if_pos c6] at H
       have c6b0 : decide (x5_1 < (l1.length : Int)) = true := decide_eq_true c6
       clear c6
       by_cases c7 : (rdOf ByteArray.empty l0 x5_1).toList = (rdOf ByteArray.empty l1 x5_1).toList
       ·rw [if_pos c7] at H
        have c7b0 : ((rdOf ByteArray.empty l0 x5_1).toList == (rdOf ByteArray.empty l1 x5_1).toList) = true := beq_iff_eq.mpr c7
        have c7b1 : ((rdOf ByteArray.empty l0 x5_1).toList != (rdOf ByteArray.empty l1 x5_1).toList) = false := bne_eq_false_iff_eq.mpr c7
        clear c7
        have H' := Aside0.mk H
        clear H
        have p965 : 0 ≤ (x5_1 : Int) := oda
        have q965 : x5_1 < (l0.length : Int) := oda
        obtain ⟨ad965, e965, hx965_0⟩ := Kd.at_string HR0.out x5_1 p965 q965
        cases e965
        replace p965 := eq_true p965
        replace q965 := eq_true q965
        have p966 : 0 ≤ (x5_1 : Int) := oda
        have q966 : x5_1 < (l1.length : Int) := oda
        obtain ⟨ad966, e966, hx966_0⟩ := Kd.at_string HR1.out x5_1 p966 q966
        cases e966
        replace p966 := eq_true p966
        replace q966 := eq_true q966
        go_wp2
        repeat (go_quiet (fail); try go_wp2)
        go_roundg k1
        case measure => have := HK1.out; omega
        case rel => exact ⟨(wrap64 (x5_1 + 1)), (by first | rfl | (simp; done) | (simp [*]; done)), H', ⟨by have := HK1.out; omega⟩, by repeat (first | exact Drawn0.refl _ | apply Drawn0.step)⟩
       ·rw [if_neg c7] at H
        have c7b0 : ((rdOf ByteArray.empty l0 x5_1).toList == (rdOf ByteArray.empty l1 x5_1).toList) = false := beq_eq_false_iff_ne.mpr c7
        have c7b1 : ((rdOf ByteArray.empty l0 x5_1).toList != (rdOf ByteArray.empty l1 x5_1).toList) = true := bne_iff_ne.mpr c7
        obtain rfl := Option.some.inj H
        have p965 : 0 ≤ (x5_1 : Int) := oda
        have q965 : x5_1 < (l0.length : Int) := oda
        obtain ⟨ad965, e965, hx965_0⟩ := Kd.at_string HR0.out x5_1 p965 q965
        cases e965
        replace p965 := eq_true p965
        replace q965 := eq_true q965
        have p966 : 0 ≤ (x5_1 : Int) := oda
        have q966 : x5_1 < (l1.length : Int) := oda
        obtain ⟨ad966, e966, hx966_0⟩ := Kd.at_string HR1.out x5_1 p966 q966
        cases e966
        replace p966 := eq_true p966
        replace q966 := eq_true q966
        go_wp2
        repeat (go_quiet (fail); try go_wp2)
        go_ret
        exact ⟨by first | rfl | (simp; done) | (simp [*]; done), by repeat (first | exact Drawn0.refl _ | apply Drawn0.step)⟩
      ·rw [if_neg c6] at H
       exact absurd H (by simp)
     ·rw [if_neg c5] at H
      exact absurd H (by simp)
    ·rw [if_neg c4] at H
     have c4b0 : decide (x5_1 < (l0.length : Int)) = false := decide_eq_false c4
     clear c4
     obtain rfl := Option.some.inj H
     go_wp2
     repeat (go_quiet (fail); try go_wp2)
     go_ret
     exact ⟨by first | rfl | (simp; done) | (simp [*]; done), by repeat (first | exact Drawn0.refl _ | apply Drawn0.step)⟩
 ·rw [if_neg c3] at H
  have c3b0 : ((l0.length : Int) == (l1.length : Int)) = false := beq_eq_false_iff_ne.mpr c3
  have c3b1 : ((l0.length : Int) != (l1.length : Int)) = true := bne_iff_ne.mpr c3
  have c3b2 : (l0.length == l1.length) = false := by first | simpa using c3 | (simp at c3 ⊢; omega)
  obtain rfl := Option.some.inj H
  go_enter Try.func23, Try.ntmps23
  go_wp2
  repeat (go_quiet (fail); try go_wp2)
  go_ret
  exact ⟨by first | rfl | (simp; done) | (simp [*]; done), by repeat (first | exact Drawn0.refl _ | apply Drawn0.step)⟩


/-! ### laws_wHas: function 72 -/
def laws_wHas.l0 : Nat → List ByteArray → ByteArray → Int → Option (Bool)
 | 0, _, _, _ => none
 | k + 1, x0, x1, x5 => if x5 < (x0.length : Int) then (if 0 ≤ x5 then (if (rdOf ByteArray.empty x0 x5).toList = x1.toList then (some true) else (laws_wHas.l0 k x0 x1 (wrap64 (x5 + 1)))) else (none)) else (some false)
def laws_wHas.f (k : Nat) (l0 : List ByteArray) (a1 : ByteArray) : Option (Bool) := laws_wHas.l0 k l0 a1 0
theorem laws_wHas.mono_l : ∀ k, (∀ y0 y1 y2, LeO (laws_wHas.l0 k y0 y1 y2) (laws_wHas.l0 (k + 1) y0 y1 y2))
 | 0 => fun _ _ _ r h => by simp [laws_wHas.l0] at h
 | k + 1 => by
  have ih0 := laws_wHas.mono_l k
  ·intro y0 y1 y2
   unfold laws_wHas.l0
   repeat' first
   | (with_reducible exact ih0 _ _ _)
   | (with_reducible exact LeO.refl _)
   | (with_reducible exact LeO.none _)
   | (with_reducible refine LeO.ite ?_ ?_)
   | (with_reducible refine LeO.bind ?_ (fun _ => ?_))
   | exact ih0 _ _ _
   | exact LeO.none _
   | refine LeO.ite ?_ ?_
   | refine LeO.bind ?_ (fun _ => ?_)
theorem laws_wHas.mono : ∀ a0 a1 k, LeO (laws_wHas.f k a0 a1) (laws_wHas.f (k + 1) a0 a1) := by
 intro a0 a1 k
 have ih0 := laws_wHas.mono_l k
 unfold laws_wHas.f
 repeat' first
   | (with_reducible exact ih0 _ _ _)
   | (with_reducible exact LeO.refl _)
   | (with_reducible exact LeO.none _)
   | (with_reducible refine LeO.ite ?_ ?_)
   | (with_reducible refine LeO.bind ?_ (fun _ => ?_))
   | exact ih0 _ _ _
   | exact LeO.none _
   | refine LeO.ite ?_ ?_
   | refine LeO.bind ?_ (fun _ => ?_)
set_option maxHeartbeats 8000000 in
set_option maxRecDepth 100000 in
theorem laws_wHas.calls (k : Nat) (A0 : Option Addr) (c0 : Nat) (l0 : List ByteArray) (a1 : ByteArray) (r : Bool) (w : World) (hr0 : Kd.C Kd.string w A0 l0.length l0) (hc0 : l0.length ≤ c0) (h : laws_wHas.f k l0 a1 = some r) :
  Calls Try.prog 72 #[.slice A0 l0.length c0, .string a1] w fun e w' => e = .returned (.bool r) ∧ Drawn0 w w' := by
 have HR0 := Aside0.mk hr0
 have HC0 := Aside0.mk hc0
 clear hr0 hc0
 have H : (laws_wHas.l0 k l0 a1 0) = some r := h
 clear h
 have H' := Aside0.mk H
 clear H
 go_enter Try.func72, Try.ntmps72
 go_wp2
 go_loopg [5] k (fun kq v5 w' => ∃ (x5_1 : Int), v5 = .int .i64 x5_1 ∧ Aside0 (laws_wHas.l0 kq l0 a1 x5_1 = some r) ∧ Aside0 (kq ≤ k) ∧ Drawn0 w w')
 case atStart => exact ⟨(0), (by first | rfl | (simp; done) | (simp [*]; done)), H', ⟨Nat.le_refl _⟩, by repeat (first | exact Drawn0.refl _ | apply Drawn0.step)⟩
 case round =>
  clear H'
  obtain ⟨x5_1, rfl, HA, HK1, ⟨m1, rfl⟩⟩ := hrel
  cases gk with
  | zero => exact absurd HA.out (by simp [laws_wHas.l0])
  | succ k1 =>
   have H := HA.out
   clear HA
   simp only [laws_wHas.l0] at H
   by_cases c3 : x5_1 < (l0.length : Int)
   ·rw [if_pos c3] at H
    have c3b0 : decide (x5_1 < (l0.length : Int)) = true := decide_eq_true c3
    clear c3
    by_cases c4 : 0 ≤ x5_1
    ·rw [if_pos c4] at H
     have c4b0 : decide (0 ≤ x5_1) = true := decide_eq_true c4
     clear c4
     by_cases c5 : (rdOf ByteArray.empty l0 x5_1).toList = a1.toList
     ·rw [if_pos c5] at H
      have c5b0 : ((rdOf ByteArray.empty l0 x5_1).toList == a1.toList) = true := beq_iff_eq.mpr c5
      have c5b1 : ((rdOf ByteArray.empty l0 x5_1).toList != a1.toList) = false := bne_eq_false_iff_eq.mpr c5
      clear c5
      obtain rfl := Option.some.inj H
      have p967 : 0 ≤ (x5_1 : Int) := oda
      have q967 : x5_1 < (l0.length : Int) := oda
      obtain ⟨ad967, e967, hx967_0⟩ := Kd.at_string HR0.out x5_1 p967 q967
      cases e967
      replace p967 := eq_true p967
      replace q967 := eq_true q967
      go_wp2
      go_ret
      exact ⟨by first | rfl | (simp; done) | (simp [*]; done), by repeat (first | exact Drawn0.refl _ | apply Drawn0.step)⟩
     ·rw [if_neg c5] at H
      have c5b0 : ((rdOf ByteArray.empty l0 x5_1).toList == a1.toList) = false := beq_eq_false_iff_ne.mpr c5
      have c5b1 : ((rdOf ByteArray.empty l0 x5_1).toList != a1.toList) = true := bne_iff_ne.mpr c5
      have H' := Aside0.mk H
      clear H
      have p967 : 0 ≤ (x5_1 : Int) := oda
      have q967 : x5_1 < (l0.length : Int) := oda
      obtain ⟨ad967, e967, hx967_0⟩ := Kd.at_string HR0.out x5_1 p967 q967
      cases e967
      replace p967 := eq_true p967
      replace q967 := eq_true q967
      go_wp2
      go_roundg k1
      case measure => have := HK1.out; omega
      case rel => exact ⟨(wrap64 (x5_1 + 1)), (by first | rfl | (simp; done) | (simp [*]; done)), H', ⟨by have := HK1.out; omega⟩, by repeat (first | exact Drawn0.refl _ | apply Drawn0.step)⟩
    ·rw [if_neg c4] at H
     exact absurd H (by simp)
   ·rw [if_neg c3] at H
    have c3b0 : decide (x5_1 < (l0.length : Int)) = false := decide_eq_false c3
    clear c3
    obtain rfl := Option.some.inj H
    go_wp2
    go_ret
    exact ⟨by first | rfl | (simp; done) | (simp [*]; done), by repeat (first | exact Drawn0.refl _ | apply Drawn0.step)⟩


/-! ### laws_wAll: function 29 -/
def laws_wAll.l0 : Nat → List ByteArray → List ByteArray → Int → Option (Bool)
 | 0, _, _, _ => none
 | k + 1, x0, x1, x5 => if x5 < (x0.length : Int) then (if 0 ≤ x5 then ((laws_wHas.f k x1 (rdOf ByteArray.empty x0 x5)).bind fun t969 => (if t969 = true then (laws_wAll.l0 k x0 x1 (wrap64 (x5 + 1))) else (some false))) else (none)) else (some true)
def laws_wAll.f (k : Nat) (l0 : List ByteArray) (l1 : List ByteArray) : Option (Bool) := laws_wAll.l0 k l0 l1 0
theorem laws_wAll.mono_l : ∀ k, (∀ y0 y1 y2, LeO (laws_wAll.l0 k y0 y1 y2) (laws_wAll.l0 (k + 1) y0 y1 y2))
 | 0 => fun _ _ _ r h => by simp [laws_wAll.l0] at h
 | k + 1 => by
  have ih0 := laws_wAll.mono_l k
  ·intro y0 y1 y2
   unfold laws_wAll.l0
   repeat' first
   | (with_reducible exact ih0 _ _ _)
   | (with_reducible exact laws_wHas.mono _ _ _)
   | (with_reducible exact LeO.refl _)
   | (with_reducible exact LeO.none _)
   | (with_reducible refine LeO.ite ?_ ?_)
   | (with_reducible refine LeO.bind ?_ (fun _ => ?_))
   | exact ih0 _ _ _
   | exact laws_wHas.mono _ _ _
   | exact LeO.none _
   | refine LeO.ite ?_ ?_
   | refine LeO.bind ?_ (fun _ => ?_)
theorem laws_wAll.mono : ∀ a0 a1 k, LeO (laws_wAll.f k a0 a1) (laws_wAll.f (k + 1) a0 a1) := by
 intro a0 a1 k
 have ih0 := laws_wAll.mono_l k
 unfold laws_wAll.f
 repeat' first
   | (with_reducible exact ih0 _ _ _)
   | (with_reducible exact laws_wHas.mono _ _ _)
   | (with_reducible exact LeO.refl _)
   | (with_reducible exact LeO.none _)
   | (with_reducible refine LeO.ite ?_ ?_)
   | (with_reducible refine LeO.bind ?_ (fun _ => ?_))
   | exact ih0 _ _ _
   | exact laws_wHas.mono _ _ _
   | exact LeO.none _
   | refine LeO.ite ?_ ?_
   | refine LeO.bind ?_ (fun _ => ?_)
set_option maxHeartbeats 8000000 in
set_option maxRecDepth 100000 in
theorem laws_wAll.calls (k : Nat) (A0 : Option Addr) (c0 : Nat) (l0 : List ByteArray) (A1 : Option Addr) (c1 : Nat) (l1 : List ByteArray) (r : Bool) (w : World) (hr0 : Kd.C Kd.string w A0 l0.length l0) (hc0 : l0.length ≤ c0) (hr1 : Kd.C Kd.string w A1 l1.length l1) (hc1 : l1.length ≤ c1) (h : laws_wAll.f k l0 l1 = some r) :
  Calls Try.prog 29 #[.slice A0 l0.length c0, .slice A1 l1.length c1] w fun e w' => e = .returned (.bool r) ∧ Drawn0 w w' := by
 have HR0 := Aside0.mk hr0
 have HC0 := Aside0.mk hc0
 clear hr0 hc0
 have HR1 := Aside0.mk hr1
 have HC1 := Aside0.mk hc1
 clear hr1 hc1
 have H : (laws_wAll.l0 k l0 l1 0) = some r := h
 clear h
 have H' := Aside0.mk H
 clear H
 go_enter Try.func29, Try.ntmps29
 go_wp2
 go_loopg [5] k (fun kq v5 w' => ∃ (x5_1 : Int), v5 = .int .i64 x5_1 ∧ Aside0 (laws_wAll.l0 kq l0 l1 x5_1 = some r) ∧ Aside0 (kq ≤ k) ∧ Drawn0 w w')
 case atStart => exact ⟨(0), (by first | rfl | (simp; done) | (simp [*]; done)), H', ⟨Nat.le_refl _⟩, by repeat (first | exact Drawn0.refl _ | apply Drawn0.step)⟩
 case round =>
  clear H'
  obtain ⟨x5_1, rfl, HA, HK1, ⟨m1, rfl⟩⟩ := hrel
  cases gk with
  | zero => exact absurd HA.out (by simp [laws_wAll.l0])
  | succ k1 =>
   have H := HA.out
   clear HA
   simp only [laws_wAll.l0] at H
   by_cases c3 : x5_1 < (l0.length : Int)
   ·rw [if_pos c3] at H
    have c3b0 : decide (x5_1 < (l0.length : Int)) = true := decide_eq_true c3
    clear c3
    by_cases c4 : 0 ≤ x5_1
    ·rw [if_pos c4] at H
     have c4b0 : decide (0 ≤ x5_1) = true := decide_eq_true c4
     clear c4
     replace H := Option.bind_eq_some_iff.mp H
     obtain ⟨t969, A50, H⟩ := H
     try dsimp only at H
     have A5 := Aside0.mk A50
     clear A50
     by_cases c6 : t969 = true
     ·subst c6
      rw [if_pos rfl] at H
      have H' := Aside0.mk H
      clear H
      have p968 : 0 ≤ (x5_1 : Int) := oda
      have q968 : x5_1 < (l0.length : Int) := oda
      obtain ⟨ad968, e968, hx968_0⟩ := Kd.at_string HR0.out x5_1 p968 q968
      cases e968
      replace p968 := eq_true p968
      replace q968 := eq_true q968
      go_wp2_with (first | ((with_reducible refine gate_callee (f := 72) rfl ?_); refine goesL_ (some 17) rfl rfl Try.func72 (by kernel_rfl) rfl #[.slice A1 l1.length c1, .string (rdOf ByteArray.empty l0 x5_1)] rfl mxp ?_; (with_reducible refine (laws_wHas.calls k1 _ _ l1 (rdOf ByteArray.empty l0 x5_1) true _ ?side1 ?side2 A5.out).mono ?_); (case side1 => exact cx HR1.out); (case side2 => exact HC1.out); rintro e w' ⟨rfl, ⟨nd, rfl⟩⟩; refine ⟨_, rfl, ?_⟩))
      go_roundg k1
      case measure => have := HK1.out; omega
      case rel => exact ⟨(wrap64 (x5_1 + 1)), (by first | rfl | (simp; done) | (simp [*]; done)), H', ⟨by have := HK1.out; omega⟩, by repeat (first | exact Drawn0.refl _ | apply Drawn0.step)⟩
     ·replace c6 := Bool.eq_false_iff.mpr c6
      subst c6
      rw [if_neg (show ¬ (false = true) by decide)] at H
      obtain rfl := Option.some.inj H
      have p968 : 0 ≤ (x5_1 : Int) := oda
      have q968 : x5_1 < (l0.length : Int) := oda
      obtain ⟨ad968, e968, hx968_0⟩ := Kd.at_string HR0.out x5_1 p968 q968
      cases e968
      replace p968 := eq_true p968
      replace q968 := eq_true q968
      go_wp2_with (first | ((with_reducible refine gate_callee (f := 72) rfl ?_); refine goesL_ (some 17) rfl rfl Try.func72 (by kernel_rfl) rfl #[.slice A1 l1.length c1, .string (rdOf ByteArray.empty l0 x5_1)] rfl mxp ?_; (with_reducible refine (laws_wHas.calls k1 _ _ l1 (rdOf ByteArray.empty l0 x5_1) false _ ?side1 ?side2 A5.out).mono ?_); (case side1 => exact cx HR1.out); (case side2 => exact HC1.out); rintro e w' ⟨rfl, ⟨nd, rfl⟩⟩; refine ⟨_, rfl, ?_⟩))
      go_ret
      exact ⟨by first | rfl | (simp; done) | (simp [*]; done), by repeat (first | exact Drawn0.refl _ | apply Drawn0.step)⟩
    ·rw [if_neg c4] at H
     exact absurd H (by simp)
   ·rw [if_neg c3] at H
    have c3b0 : decide (x5_1 < (l0.length : Int)) = false := decide_eq_false c3
    clear c3
    obtain rfl := Option.some.inj H
    go_wp2
    go_ret
    exact ⟨by first | rfl | (simp; done) | (simp [*]; done), by repeat (first | exact Drawn0.refl _ | apply Drawn0.step)⟩


/-- A state of type 107 at block g of W; what its slices lead to came in by w0. -/
def IsS107 (w0 W : World) (g : Nat) (f0 : List Int) (f1 : Int) : Prop := ∃ A0 c0, W.heap[g]? = some (.cells #[.slice A0 f0.length c0, .int .i64 f1] 107 (0, 0)) ∧ w0.heap.size ≤ g ∧ Kd.C (Kd.int .u8) w0 A0 f0.length f0
theorem IsS107.grown {w0 W : World} {g : Nat} {f0 : List Int} {f1 : Int} {W1 : World} {row : Option Nat} (h : IsS107 w0 W g f0 f1) (hw : W.grownBy W1 row) (hne : some g ≠ row) : IsS107 w0 W1 g f0 f1 := by
 obtain ⟨A0, c0, hb, hg, hr0⟩ := h
 exact ⟨A0, c0, blk_grown hb hw hne, hg, hr0⟩
theorem IsS107.own_neN {w0 W : World} {g : Nat} {f0 : List Int} {f1 : Int} {α : Type} {d : Kd α} {e : Nat} {base : Nat} {ok : Nat → Prop} {v : Value} {xs : List α} (h : IsS107 w0 W g f0 f1) (ho : Kd.N d e W base ok v xs) (ht : e ≠ 107) : some g ≠ v.ownBlock := by
 obtain ⟨A0, c0, hb, hg, hr0⟩ := h
 exact Kd.N_ne ho hb ht
theorem IsS107.fresh {w0 W : World} {g : Nat} {f0 : List Int} {f1 : Int} (h : IsS107 w0 W g f0 f1) : ∀ k, W.heap.size ≤ k → k ≠ g := by
 obtain ⟨A0, c0, hb, hg, hr0⟩ := h
 exact Kd.freshB hb
theorem IsS107.kept {w0 W : World} {g : Nat} {f0 : List Int} {f1 : Int} {W1 : World} {S : Nat → Prop} (h : IsS107 w0 W g f0 f1) (hk : Kept W W1 S) (hne : ¬ S g) : IsS107 w0 W1 g f0 f1 := by
 obtain ⟨A0, c0, hb, hg, hr0⟩ := h
 exact ⟨A0, c0, blk_kept hb hk hne, hg, hr0⟩
theorem IsS107.below {w0 W : World} {g : Nat} {f0 : List Int} {f1 : Int} {W1 : World} (h : IsS107 w0 W g f0 f1) (hw : Below W.heap.size W W1) : IsS107 w0 W1 g f0 f1 := h.grown (grown_of_below hw none) (by simp)
theorem IsS107.alloc {w0 W : World} {g : Nat} {f0 : List Int} {f1 : Int} (h : IsS107 w0 W g f0 f1) (o : Obj) : IsS107 w0 (W.alloc o) g f0 f1 := h.below (below_alloc (Below.refl _ _) o)
theorem IsS107.drewN {w0 W : World} {g : Nat} {f0 : List Int} {f1 : Int} (h : IsS107 w0 W g f0 f1) (m : Nat) : IsS107 w0 (W.drewN m) g f0 f1 := h
theorem IsS107.drew {w0 W : World} {g : Nat} {f0 : List Int} {f1 : Int} (h : IsS107 w0 W g f0 f1) : IsS107 w0 W.drew g f0 f1 := h
theorem IsS107.at_ {w0 W : World} {g : Nat} {f0 : List Int} {f1 : Int} {w' : World} {m : Nat} (hq : W.drewN m = w') (h : IsS107 w0 W g f0 f1) : IsS107 w0 w' g f0 f1 := by subst hq; exact IsS107.drewN h m
theorem IsS107.apart {w0 W : World} {g : Nat} {f0 : List Int} {f1 : Int} {α : Type} {d : Kd α} {e : Nat} {base : Nat} {ok : Nat → Prop} {v : Value} {xs : List α} (h : IsS107 w0 W g f0 f1) (ho : d.R e W base ok v xs) (ht : ∀ q, q ∈ e :: d.E → q ≠ 107) : d.R e W base (fun k => ok k ∧ k ≠ g) v xs := by
 obtain ⟨A0, c0, hb, hg, hr0⟩ := h
 exact Kd.R_types ho hb ht
theorem IsS107.own_ne {w0 W : World} {g : Nat} {f0 : List Int} {f1 : Int} {α : Type} {d : Kd α} {e : Nat} {base : Nat} {ok : Nat → Prop} {v : Value} {xs : List α} (h : IsS107 w0 W g f0 f1) (ho : d.R e W base ok v xs) (ht : e ≠ 107) : some g ≠ v.ownBlock := by
 obtain ⟨A0, c0, hb, hg, hr0⟩ := h
 exact Kd.R_ne ho hb ht
theorem IsS107.apartQ {w0 W : World} {g : Nat} {f0 : List Int} {f1 : Int} {α : Type} {d : Kd α} {e : Nat} {base : Nat} {ok : Nat → Prop} {v : Value} {xs : List α} (h : IsS107 w0 W g f0 f1) (ho : d.Q e W base ok v xs) (ht : ∀ q, q ∈ e :: d.E → q ≠ 107) : d.Q e W base (fun k => ok k ∧ k ≠ g) v xs := by
 obtain ⟨A0, c0, hb, hg, hr0⟩ := h
 exact Kd.Q_types ho hb ht
theorem IsS107.own_neQ {w0 W : World} {g : Nat} {f0 : List Int} {f1 : Int} {α : Type} {d : Kd α} {e : Nat} {base : Nat} {ok : Nat → Prop} {v : Value} {xs : List α} (h : IsS107 w0 W g f0 f1) (ho : d.Q e W base ok v xs) (ht : e ≠ 107) : some g ≠ v.ownBlock := by
 obtain ⟨A0, c0, hb, hg, hr0⟩ := h
 exact Kd.Q_ne ho hb ht
theorem IsS107.apartS {w0 W : World} {g : Nat} {f0 : List Int} {f1 : Int} {α : Type} {d : Kd α} {e : Nat} {base : Nat} {ok : Nat → Prop} {v : Value} {xs : List α} (h : IsS107 w0 W g f0 f1) (ho : d.S e W base ok v xs) (ht : ∀ q, q ∈ e :: d.E → q ≠ 107) : d.S e W base (fun k => ok k ∧ k ≠ g) v xs := by
 obtain ⟨A0, c0, hb, hg, hr0⟩ := h
 exact Kd.S_types ho hb ht
theorem IsS107.own_neS {w0 W : World} {g : Nat} {f0 : List Int} {f1 : Int} {α : Type} {d : Kd α} {e : Nat} {base : Nat} {ok : Nat → Prop} {v : Value} {xs : List α} (h : IsS107 w0 W g f0 f1) (ho : d.S e W base ok v xs) (ht : e ≠ 107) : some g ≠ v.ownBlock := by
 obtain ⟨A0, c0, hb, hg, hr0⟩ := h
 exact Kd.S_ne ho hb ht
theorem IsS107.lt {w0 W : World} {g : Nat} {f0 : List Int} {f1 : Int} (h : IsS107 w0 W g f0 f1) : g < W.heap.size := by
 obtain ⟨A0, c0, hb, hg, hr0⟩ := h
 exact blk_lt hb
theorem IsS107.ge {w0 W : World} {g : Nat} {f0 : List Int} {f1 : Int} (h : IsS107 w0 W g f0 f1) : w0.heap.size ≤ g := by
 obtain ⟨A0, c0, hb, hg, hr0⟩ := h
 exact hg
theorem IsS107.ne_blk {w0 W : World} {g : Nat} {f0 : List Int} {f1 : Int} {a : Nat} {cs : Array Value} {t : TypeId} {fr : Nat × Nat} (h : IsS107 w0 W g f0 f1) (hb2 : W.heap[a]? = some (.cells cs t fr)) (ht : t ≠ 107) : g ≠ a := by
 obtain ⟨A0, c0, hb, hg, hr0⟩ := h
 rintro rfl
 rw [hb] at hb2
 injection hb2 with hb2
 injection hb2 with _ ht2
 exact ht ht2.symm
theorem IsS107.far {w0 W : World} {g : Nat} {f0 : List Int} {f1 : Int} {p : Addr} (h : IsS107 w0 W g f0 f1) (hne : g ≠ p.block) (u : Value) : IsS107 w0 (W.setCell p u) g f0 f1 := by
 obtain ⟨A0, c0, hb, hg, hr0⟩ := h
 exact ⟨A0, c0, blk_far hb hne u, hg, hr0⟩
theorem cellS107_0 {W : World} {g : Nat} {A0 : Option Addr} {c0 : Nat} {f0 : List Int} {f1 : Int} (h : W.heap[g]? = some (.cells #[.slice A0 f0.length c0, .int .i64 f1] 107 (0, 0))) : W.cell? ⟨g, 0, none⟩ = some (.slice A0 f0.length c0) := (blk_cell h 0).trans rfl
theorem cellS107_1 {W : World} {g : Nat} {A0 : Option Addr} {c0 : Nat} {f0 : List Int} {f1 : Int} (h : W.heap[g]? = some (.cells #[.slice A0 f0.length c0, .int .i64 f1] 107 (0, 0))) : W.cell? ⟨g, 1, none⟩ = some (.int .i64 f1) := (blk_cell h 1).trans rfl
theorem IsS107.set_1 {w0 W : World} {g : Nat} {f0 : List Int} {f1 : Int} (h : IsS107 w0 W g f0 f1) (x : Int) : IsS107 w0 (W.setCell ⟨g, 1, none⟩ (.int .i64 x)) g f0 x := by
 obtain ⟨A0, c0, hb, hg, hr0⟩ := h
 exact ⟨A0, c0, by simpa using blk_set hb 1 (.int .i64 x), hg, hr0⟩
theorem IsS107.new (w0 W : World) (A0 : Option Addr) (c0 : Nat) (f0 : List Int) (f1 : Int) (hB : Below w0.heap.size w0 W) (hr0 : Kd.C (Kd.int .u8) w0 A0 f0.length f0) : IsS107 w0 (W.alloc (.cells #[.slice A0 f0.length c0, .int .i64 f1] 107)) W.heap.size f0 f1 := ⟨A0, c0, by simpa using heap_alloc_new W _, hB.size, hr0⟩

/-! ### spec_l1Open: function 62 -/
def spec_l1Open.f (l0 : List Int) : Option (List Int × Int) := if (l0.length : Int) > 2000 then (if 2000 ≤ (l0.length : Int) then (some (l0.take 2000, 0)) else (none)) else (some (l0, 0))
set_option maxHeartbeats 8000000 in
set_option maxRecDepth 100000 in
theorem spec_l1Open.calls (A0 : Option Addr) (c0 : Nat) (l0 : List Int) (r1 : List Int) (r2 : Int) (w0 w : World) (hB : Below w0.heap.size w0 w) (hr0 : Kd.C (Kd.int .u8) w0 A0 l0.length l0) (hc0 : l0.length ≤ c0) (h : spec_l1Open.f l0 = some (r1, r2)) :
  Calls Try.prog 62 #[.slice A0 l0.length c0] w fun e w' => ∃ g_ : Nat, e = .returned (.pointer (some ⟨g_, 0, none⟩)) ∧ IsS107 w0 w' g_ r1 r2 ∧ Below w0.heap.size w0 w' ∧ Below w.heap.size w w' := by
 have hu107 := Try.underlying107
 have HR0 := Aside0.mk hr0
 have HC0 := Aside0.mk hc0
 clear hr0 hc0
 have HBW := Aside0.mk (Below.refl w.heap.size w)
 have HW0 := Aside0.mk hB.size
 have HB := Aside0.mk hB
 clear hB
 have H : (if (l0.length : Int) > 2000 then (if 2000 ≤ (l0.length : Int) then (some (l0.take 2000, 0)) else (none)) else (some (l0, 0))) = some (r1, r2) := h
 clear h
 by_cases c2 : (l0.length : Int) > 2000
 ·rw [if_pos c2] at H
  have c2b0 : decide (2000 < (l0.length : Int)) = true := decide_eq_true c2
  have c2b1 : decide (2000 < l0.length) = true := decide_eq_true (by omega)
  clear c2
  by_cases c3 : 2000 ≤ (l0.length : Int)
  ·rw [if_pos c3] at H
   have c3b0 := eq_true c3
   have c3b1 : decide (2000 ≤ (l0.length : Int)) = true := decide_eq_true c3
   clear c3
   simp only [Option.some.injEq, Prod.mk.injEq] at H
   obtain ⟨rfl, rfl⟩ := H
   obtain ⟨i04, hi04, _, hsz4, _⟩ := info_parts info5
   obtain ⟨hcut4, hA4, hC4⟩ := print_take_of (P := Try.prog) (Value.int .u8) 0 25 5 .i64 Try.underlying25 hi04 hsz4 A0 c0 l0 2000 (by omega) (oda) HC0.out
   have HR185 := Aside0.mk (Kd.C_of_reads (h1 := fun _ => rfl) (hA4 _ (Kd.reads_of_C HR0.out)))
   have HC185 := Aside0.mk hC4
   clear hA4 hC4 hi04 hsz4
   go_enter Try.func62, Try.ntmps62
   go_wp2_with (first | ((with_reducible refine gate_dst (N := 10) rfl ?_); refine box_event ?hg (N := 10) ?hd (cs := #[.slice A0 (l0.take 2000).length c0, .int .i64 0]) (t := 107) ?hr ?_; (case hd => rfl); (case hg => rfl); (case hr => first | (go_simp; done) | (go_simp; rfl)); intro gb186 hg w5 hbox hb; have t_ := And.intro (Aside0.mk (below_step HBW.out hb)) <| And.intro (bs HB hb) <| And.intro (Aside0.mk (hbox)) <| And.intro (gh hg HBW) <| (Aside0.mk ((Nat.le_trans HW0.out (by rw [hg]; exact (below_size (bw HBW.out)) : w.heap.size ≤ gb186) : w0.heap.size ≤ gb186))); clear HBW HB; obtain ⟨HBW, HB, BK186, GW186, GE186⟩ := t_; clear hb hbox hg))
   go_ret
   exact ⟨_, rfl, (show IsS107 w0 _ gb186 (l0.take 2000) 0 from ⟨_, _, by refine bx ?_; exact BK186.out, GE186.out, HR185.out⟩), bw HB.out, bw HBW.out⟩
  ·rw [if_neg c3] at H
   exact absurd H (by simp)
 ·rw [if_neg c2] at H
  have c2b0 : decide (2000 < (l0.length : Int)) = false := decide_eq_false c2
  have c2b1 : decide (2000 < l0.length) = false := decide_eq_false (by omega)
  clear c2
  simp only [Option.some.injEq, Prod.mk.injEq] at H
  obtain ⟨rfl, rfl⟩ := H
  go_enter Try.func62, Try.ntmps62
  go_wp2_with (first | ((with_reducible refine gate_dst (N := 10) rfl ?_); refine box_event ?hg (N := 10) ?hd (cs := #[.slice A0 l0.length c0, .int .i64 0]) (t := 107) ?hr ?_; (case hd => rfl); (case hg => rfl); (case hr => first | (go_simp; done) | (go_simp; rfl)); intro gb187 hg w6 hbox hb; have t_ := And.intro (Aside0.mk (below_step HBW.out hb)) <| And.intro (bs HB hb) <| And.intro (Aside0.mk (hbox)) <| And.intro (gh hg HBW) <| (Aside0.mk ((Nat.le_trans HW0.out (by rw [hg]; exact (below_size (bw HBW.out)) : w.heap.size ≤ gb187) : w0.heap.size ≤ gb187))); clear HBW HB; obtain ⟨HBW, HB, BK187, GW187, GE187⟩ := t_; clear hb hbox hg))
  go_ret
  exact ⟨_, rfl, (show IsS107 w0 _ gb187 l0 0 from ⟨_, _, by refine bx ?_; exact BK187.out, GE187.out, HR0.out⟩), bw HB.out, bw HBW.out⟩

end Go.Proofs.Ytdkologncoofdaa.P
-- Short2
namespace Go.Proofs.Ytdkologncoofdaa.P
open Go.RowKit Go.Proofs.YtdkologncoofdaaW.PrintWords Go.Proofs.YtdkologncoofdaaW.PrintLast Go.Proofs.YtdkologncoofdaaW.PrintMore
/-! Short words, where a reader's struct lies in memory. -/
theorem ib {P Q : Prop} (h : Q) (f : Q → P := by intro h; repeat (first | (with_reducible first | exact h | apply IsS107.alloc | apply IsS107.drewN | apply IsS107.drew | apply IsS107.set_1 | refine IsS107.far ?_ (Aside0.out (by assumption)) _) | exact h)) : P := f h
theorem bi {P Q : Prop} (h : Q) (f : Q → P := by intro h; repeat (first | (with_reducible first | exact h | apply below_alloc | apply pw_below_drewN | apply below_drew1 | refine below_set ?_ (Aside0.out (by assumption)) | refine below_set ?_ (IsS107.ge (Aside0.out (by assumption)))) | exact h)) : P := f h
theorem hbi {P Q : Prop} (h : Aside0 Q) (f : Q → P := by intro h; repeat (first | (with_reducible first | exact h | apply below_alloc | apply pw_below_drewN | apply below_drew1 | refine below_set ?_ (Aside0.out (by assumption)) | refine below_set ?_ (IsS107.ge (Aside0.out (by assumption)))) | exact h)) : Aside0 P := ⟨f h.out⟩
theorem bsi {w W W' w2 : World} (h : Aside0 (Below w.heap.size w W)) (hb : Below W'.heap.size W' w2) (f : Below w.heap.size w W → Below w.heap.size w W' := by intro h; repeat (first | (with_reducible first | exact h | apply below_alloc | apply pw_below_drewN | apply below_drew1 | refine below_set ?_ (Aside0.out (by assumption)) | refine below_set ?_ (IsS107.ge (Aside0.out (by assumption)))) | exact h)) : Aside0 (Below w.heap.size w w2) := ⟨below_step (f h.out) hb⟩
end Go.Proofs.Ytdkologncoofdaa.P
-- Px21
namespace Go.Proofs.Ytdkologncoofdaa.P
open Go.RowKit Go.Proofs.YtdkologncoofdaaW.PrintWords Go.Proofs.YtdkologncoofdaaW.PrintLast Go.Proofs.YtdkologncoofdaaW.PrintMore
attribute [local go_sem] max2_int min2_int max_two min_two max_three min_three max_four min_four   -- for this text's walks alone
set_option linter.unusedVariables false
set_option linter.unusedSimpArgs false

/-! ### spec_l1Rd_pick: function 64 -/
def spec_l1Rd_pick.j0 : Nat → Int → Bool → List Int → Int → Option (Int × Int)
 | 0, _, _, _, _ => none
 | k + 1, x1, x24, x1000, x1001 => if x24 = true then (some (0, x1001)) else (if (wrap64 (x1001 - 1)) < (x1000.length : Int) then (if 0 ≤ (wrap64 (x1001 - 1)) then (if x1 = 0 then (none) else (some (Int.tmod (wrap64 (rd x1000 (wrap64 (x1001 - 1)))) x1, x1001))) else (none)) else (if (x1000.length : Int) = 0 then (none) else (if 0 ≤ (Int.tmod (wrap64 (x1001 - 1)) (x1000.length : Int)) then (if (Int.tmod (wrap64 (x1001 - 1)) (x1000.length : Int)) < (x1000.length : Int) then (if 0 ≤ (Int.tmod (wrap64 ((wrap64 ((wrap64 (x1001 - 1)) * 7)) + 3)) (x1000.length : Int)) then (if (Int.tmod (wrap64 ((wrap64 ((wrap64 (x1001 - 1)) * 7)) + 3)) (x1000.length : Int)) < (x1000.length : Int) then (if x1 = 0 then (none) else (some (Int.tmod (Go.bits .xor .i64 (wrap64 ((wrap64 ((wrap64 ((wrap64 ((wrap64 (rd x1000 (Int.tmod (wrap64 (x1001 - 1)) (x1000.length : Int)))) * 131)) + (wrap64 ((wrap64 (rd x1000 (Int.tmod (wrap64 ((wrap64 ((wrap64 (x1001 - 1)) * 7)) + 3)) (x1000.length : Int)))) * 1117)))) + (wrap64 ((wrap64 (x1001 - 1)) * 29)))) + (wrap64 ((wrap64 (Int.tdiv (wrap64 (x1001 - 1)) (x1000.length : Int))) * 53)))) (wrap64 (Int.tdiv (wrap64 ((wrap64 ((wrap64 ((wrap64 ((wrap64 (rd x1000 (Int.tmod (wrap64 (x1001 - 1)) (x1000.length : Int)))) * 131)) + (wrap64 ((wrap64 (rd x1000 (Int.tmod (wrap64 ((wrap64 ((wrap64 (x1001 - 1)) * 7)) + 3)) (x1000.length : Int)))) * 1117)))) + (wrap64 ((wrap64 (x1001 - 1)) * 29)))) + (wrap64 ((wrap64 (Int.tdiv (wrap64 (x1001 - 1)) (x1000.length : Int))) * 53)))) 64))) x1, x1001))) else (none)) else (none)) else (none)) else (none))))
def spec_l1Rd_pick.f (k : Nat) (s0_0 : List Int) (s0_1 : Int) (a1 : Int) : Option (Int × Int) := if a1 < 1 then (spec_l1Rd_pick.j0 k a1 true s0_0 (wrap64 (s0_1 + 1))) else (spec_l1Rd_pick.j0 k a1 ((s0_0.length : Int) == 0) s0_0 (wrap64 (s0_1 + 1)))
theorem spec_l1Rd_pick.mono_l : ∀ k, (∀ y0 y1 y2 y3, LeO (spec_l1Rd_pick.j0 k y0 y1 y2 y3) (spec_l1Rd_pick.j0 (k + 1) y0 y1 y2 y3))
 | 0 => fun _ _ _ _ r h => by simp [spec_l1Rd_pick.j0] at h
 | k + 1 => by
  have ih0 := spec_l1Rd_pick.mono_l k
  ·intro y0 y1 y2 y3
   unfold spec_l1Rd_pick.j0
   repeat' first
   | (with_reducible exact ih0 _ _ _ _)
   | (with_reducible exact LeO.refl _)
   | (with_reducible exact LeO.none _)
   | (with_reducible refine LeO.ite ?_ ?_)
   | (with_reducible refine LeO.bind ?_ (fun _ => ?_))
   | exact ih0 _ _ _ _
   | exact LeO.none _
   | refine LeO.ite ?_ ?_
   | refine LeO.bind ?_ (fun _ => ?_)
theorem spec_l1Rd_pick.mono : ∀ a0 a1 a2 k, LeO (spec_l1Rd_pick.f k a0 a1 a2) (spec_l1Rd_pick.f (k + 1) a0 a1 a2) := by
 intro a0 a1 a2 k
 have ih0 := spec_l1Rd_pick.mono_l k
 unfold spec_l1Rd_pick.f
 repeat' first
   | (with_reducible exact ih0 _ _ _ _)
   | (with_reducible exact LeO.refl _)
   | (with_reducible exact LeO.none _)
   | (with_reducible refine LeO.ite ?_ ?_)
   | (with_reducible refine LeO.bind ?_ (fun _ => ?_))
   | exact ih0 _ _ _ _
   | exact LeO.none _
   | refine LeO.ite ?_ ?_
   | refine LeO.bind ?_ (fun _ => ?_)
set_option maxHeartbeats 8000000 in
set_option maxRecDepth 100000 in
theorem spec_l1Rd_pick.calls (k : Nat) (g : Nat) (s0_0 : List Int) (s0_1 : Int) (a1 : Int) (r1 : Int) (r2 : Int) (w0 w : World) (hI : IsS107 w0 w g s0_0 s0_1) (hB : Below w0.heap.size w0 w) (h : spec_l1Rd_pick.f k s0_0 s0_1 a1 = some (r1, r2)) :
  Calls Try.prog 64 #[.pointer (some ⟨g, 0, none⟩), .int .i64 a1] w fun e w' => e = .returned (.int .i64 r1) ∧ IsS107 w0 w' g s0_0 r2 ∧ Below w0.heap.size w0 w' ∧ KeepBut w w' g none := by
 have HI0 := Aside0.mk hI
 have HK := Aside0.mk (KeepBut.refl w g none)
 have HL := Aside0.mk hB.size
 clear hI
 have HW0 := Aside0.mk hB.size
 have HB := Aside0.mk hB
 clear hB
 have H : (if a1 < 1 then (spec_l1Rd_pick.j0 k a1 true s0_0 (wrap64 (s0_1 + 1))) else (spec_l1Rd_pick.j0 k a1 ((s0_0.length : Int) == 0) s0_0 (wrap64 (s0_1 + 1)))) = some (r1, r2) := h
 clear h
 have HC3 := Aside0.mk H
 clear H
 obtain ⟨ASz4_0, cSz4_0, HGz4, hgz4, HSz4_0⟩ := HI0.out
 have hcz4_0 := cellS107_0 HGz4
 have hcz4_1 := cellS107_1 HGz4
 have hfz4_1 := blk_frozen HGz4 1
 clear HGz4 hgz4
 go_enter Try.func64, Try.ntmps64
 go_upto_region 2 with (fail)
 repeat (go_quiet (fail); go_upto_region 2 with (fail))
 go_cut [24] (fun v24 wc => ∃ (kq : Nat) (x24_2 : Bool), v24 = .bool x24_2 ∧ Aside0 (spec_l1Rd_pick.j0 kq a1 x24_2 s0_0 (wrap64 (s0_1 + 1)) = some (r1, r2)) ∧ Aside0 (kq ≤ k) ∧ Aside0 (IsS107 w0 wc g s0_0 (wrap64 (s0_1 + 1))) ∧ Aside0 (KeepBut w wc g none) ∧ Aside0 (Below w0.heap.size w0 wc))
 case first =>
  have H := HC3.out
  clear HC3
  by_cases c5 : a1 < 1
  ·rw [if_pos c5] at H
   have c5b0 : decide (a1 < 1) = true := decide_eq_true c5
   clear c5
   (first | rw [c5b0] | (simp only [i64_w, i32_w]; rw [c5b0]) | skip)
   have H' := Aside0.mk H
   clear H
   go_wp2
   repeat (go_quiet (fail); try go_wp2)
   go_meet
   case rel => exact ⟨_, (true), (by first | rfl | (simp; done) | (simp [*]; done)), H', ⟨by first | omega | exact Nat.le_refl _⟩, ⟨ib HI0.out⟩, ⟨kb HK.out⟩, (hbi HB)⟩
  ·rw [if_neg c5] at H
   have c5b0 : decide (a1 < 1) = false := decide_eq_false c5
   clear c5
   (first | rw [c5b0] | (simp only [i64_w, i32_w]; rw [c5b0]) | skip)
   have H' := Aside0.mk H
   clear H
   obtain ⟨ASz6_0, cSz6_0, HGz6, hgz6, HSz6_0⟩ := HI0.out
   have hcz6_0 := cellS107_0 HGz6
   have hcz6_1 := cellS107_1 HGz6
   have hfz6_1 := blk_frozen HGz6 1
   clear HGz6 hgz6
   go_wp2
   repeat (go_quiet (fail); try go_wp2)
   go_meet
   case rel => exact ⟨_, (((s0_0.length : Int) == 0)), (by first | rfl | (simp; done) | (simp [*]; done)), H', ⟨by first | omega | exact Nat.le_refl _⟩, ⟨ib HI0.out⟩, ⟨kb HK.out⟩, (hbi HB)⟩
 case rest =>
  clear HC3
  obtain ⟨kq, x24_2, rfl, HA, HJ2, HI0, HK, HB⟩ := hcut
  cases kq with
  | zero => exact absurd HA.out (by simp [spec_l1Rd_pick.j0])
  | succ kj2 =>
   have H := HA.out
   clear HA
   simp only [spec_l1Rd_pick.j0] at H
   by_cases c7 : x24_2 = true
   ·subst c7
    rw [if_pos rfl] at H
    simp only [Option.some.injEq, Prod.mk.injEq] at H
    obtain ⟨rfl, rfl⟩ := H
    go_wp2
    repeat (go_quiet (fail); try go_wp2)
    go_ret
    exact ⟨exq, ib HI0.out, bi HB.out, kb HK.out⟩
   ·replace c7 := Bool.eq_false_iff.mpr c7
    subst c7
    rw [if_neg (show ¬ (false = true) by decide)] at H
    by_cases c8 : (wrap64 ((wrap64 (s0_1 + 1)) - 1)) < (s0_0.length : Int)
    ·rw [if_pos c8] at H
     have c8b0 : decide ((wrap64 ((wrap64 (s0_1 + 1)) - 1)) < (s0_0.length : Int)) = true := decide_eq_true c8
     clear c8
     obtain ⟨ji9, hji9⟩ : ∃ j_ : Int, (wrap64 ((wrap64 (s0_1 + 1)) - 1)) = j_ := ⟨_, rfl⟩
     replace H : (if 0 ≤ (ji9) then (if a1 = 0 then (none) else (some (Int.tmod (wrap64 (rd s0_0 (ji9))) a1, (wrap64 (s0_1 + 1))))) else (none)) = some (r1, r2) := by first | (rw [hji9] at H; exact H) | (simp only [hji9] at H ⊢; exact H)
     (try rw [hji9] at c8b0)
     have hji9w : (IntKind.i64.wrap ((wrap64 (s0_1 + 1)) - 1)) = ji9 := (i64_w _).trans hji9
     by_cases c10 : 0 ≤ (ji9)
     ·rw [if_pos c10] at H
      have c10b0 : decide (0 ≤ (ji9)) = true := decide_eq_true c10
      clear c10
      by_cases c11 : a1 = 0
      ·rw [if_pos c11] at H
       exact absurd H (by simp)
      ·rw [if_neg c11] at H
       have c11b0 : (a1 == 0) = false := beq_eq_false_iff_ne.mpr c11
       have c11b1 : (a1 != 0) = true := bne_iff_ne.mpr c11
       simp only [Option.some.injEq, Prod.mk.injEq] at H
       obtain ⟨rfl, rfl⟩ := H
       obtain ⟨ASz12_0, cSz12_0, HGz12, hgz12, HSz12_0⟩ := HI0.out
       have hcz12_0 := cellS107_0 HGz12
       have hcz12_1 := cellS107_1 HGz12
       have hfz12_1 := blk_frozen HGz12 1
       clear HGz12 hgz12
       have p188 : 0 ≤ ((ji9) : Int) := oda
       have q188 : (ji9) < (s0_0.length : Int) := oda
       obtain ⟨ad188, e188, hx188_0⟩ := Kd.at_int HSz12_0 (ji9) p188 q188
       cases e188
       replace hx188_0 := pw_cell_below HB.out hx188_0
       replace p188 := eq_true p188
       replace q188 := eq_true q188
       go_wp2
       repeat (go_quiet (fail); try go_wp2)
       go_ret
       exact ⟨by first | rfl | (simp [errW_none, errW_some] <;> rfl) | (simp only [← hji9]; first | rfl | (simp [errW_none, errW_some] <;> rfl)) | (simp [*, errW_none, errW_some] <;> rfl), ib HI0.out, bi HB.out, kb HK.out⟩
     ·rw [if_neg c10] at H
      exact absurd H (by simp)
    ·rw [if_neg c8] at H
     have c8b0 : decide ((wrap64 ((wrap64 (s0_1 + 1)) - 1)) < (s0_0.length : Int)) = false := decide_eq_false c8
     clear c8
     by_cases c13 : (s0_0.length : Int) = 0
     ·rw [if_pos c13] at H
      exact absurd H (by simp)
     ·rw [if_neg c13] at H
      have c13b0 : ((s0_0.length : Int) == 0) = false := beq_eq_false_iff_ne.mpr c13
      have c13b1 : ((s0_0.length : Int) != 0) = true := bne_iff_ne.mpr c13
      have c13b2 : ¬ (s0_0 = []) := fun h_ => c13 (by rw [h_]; rfl)
      obtain ⟨ji14, hji14⟩ : ∃ j_ : Int, (Int.tmod (wrap64 ((wrap64 (s0_1 + 1)) - 1)) (s0_0.length : Int)) = j_ := ⟨_, rfl⟩
      replace H : (if 0 ≤ (ji14) then (if (ji14) < (s0_0.length : Int) then (if 0 ≤ (Int.tmod (wrap64 ((wrap64 ((wrap64 ((wrap64 (s0_1 + 1)) - 1)) * 7)) + 3)) (s0_0.length : Int)) then (if (Int.tmod (wrap64 ((wrap64 ((wrap64 ((wrap64 (s0_1 + 1)) - 1)) * 7)) + 3)) (s0_0.length : Int)) < (s0_0.length : Int) then (if a1 = 0 then (none) else (some (Int.tmod (Go.bits .xor .i64 (wrap64 ((wrap64 ((wrap64 ((wrap64 ((wrap64 (rd s0_0 (ji14))) * 131)) + (wrap64 ((wrap64 (rd s0_0 (Int.tmod (wrap64 ((wrap64 ((wrap64 ((wrap64 (s0_1 + 1)) - 1)) * 7)) + 3)) (s0_0.length : Int)))) * 1117)))) + (wrap64 ((wrap64 ((wrap64 (s0_1 + 1)) - 1)) * 29)))) + (wrap64 ((wrap64 (Int.tdiv (wrap64 ((wrap64 (s0_1 + 1)) - 1)) (s0_0.length : Int))) * 53)))) (wrap64 (Int.tdiv (wrap64 ((wrap64 ((wrap64 ((wrap64 ((wrap64 (rd s0_0 (ji14))) * 131)) + (wrap64 ((wrap64 (rd s0_0 (Int.tmod (wrap64 ((wrap64 ((wrap64 ((wrap64 (s0_1 + 1)) - 1)) * 7)) + 3)) (s0_0.length : Int)))) * 1117)))) + (wrap64 ((wrap64 ((wrap64 (s0_1 + 1)) - 1)) * 29)))) + (wrap64 ((wrap64 (Int.tdiv (wrap64 ((wrap64 (s0_1 + 1)) - 1)) (s0_0.length : Int))) * 53)))) 64))) a1, (wrap64 (s0_1 + 1))))) else (none)) else (none)) else (none)) else (none)) = some (r1, r2) := by first | (rw [hji14] at H; exact H) | (simp only [hji14] at H ⊢; exact H)
      by_cases c15 : 0 ≤ (ji14)
      ·rw [if_pos c15] at H
       have c15b0 : decide (0 ≤ (ji14)) = true := decide_eq_true c15
       clear c15
       by_cases c16 : (ji14) < (s0_0.length : Int)
       ·rw [if_pos c16] at H
        have c16b0 : decide ((ji14) < (s0_0.length : Int)) = true := decide_eq_true c16
        clear c16
        obtain ⟨ji17, hji17⟩ : ∃ j_ : Int, (Int.tmod (wrap64 ((wrap64 ((wrap64 ((wrap64 (s0_1 + 1)) - 1)) * 7)) + 3)) (s0_0.length : Int)) = j_ := ⟨_, rfl⟩
        replace H : (if 0 ≤ (ji17) then (if (ji17) < (s0_0.length : Int) then (if a1 = 0 then (none) else (some (Int.tmod (Go.bits .xor .i64 (wrap64 ((wrap64 ((wrap64 ((wrap64 ((wrap64 (rd s0_0 (ji14))) * 131)) + (wrap64 ((wrap64 (rd s0_0 (ji17))) * 1117)))) + (wrap64 ((wrap64 ((wrap64 (s0_1 + 1)) - 1)) * 29)))) + (wrap64 ((wrap64 (Int.tdiv (wrap64 ((wrap64 (s0_1 + 1)) - 1)) (s0_0.length : Int))) * 53)))) (wrap64 (Int.tdiv (wrap64 ((wrap64 ((wrap64 ((wrap64 ((wrap64 (rd s0_0 (ji14))) * 131)) + (wrap64 ((wrap64 (rd s0_0 (ji17))) * 1117)))) + (wrap64 ((wrap64 ((wrap64 (s0_1 + 1)) - 1)) * 29)))) + (wrap64 ((wrap64 (Int.tdiv (wrap64 ((wrap64 (s0_1 + 1)) - 1)) (s0_0.length : Int))) * 53)))) 64))) a1, (wrap64 (s0_1 + 1))))) else (none)) else (none)) = some (r1, r2) := by first | (rw [hji17] at H; exact H) | (simp only [hji17] at H ⊢; exact H)
        by_cases c18 : 0 ≤ (ji17)
        ·rw [if_pos c18] at H
         have c18b0 : decide (0 ≤ (ji17)) = true := decide_eq_true c18
         clear c18
         by_cases c19 : (ji17) < (s0_0.length : Int)
         ·rw [if_pos c19] at H
          have c19b0 : decide ((ji17) < (s0_0.length : Int)) = true := decide_eq_true c19
          clear c19
          by_cases c20 : a1 = 0
          ·rw [if_pos c20] at H
           exact absurd H (by simp)
          ·rw [if_neg c20] at H
           have c20b0 : (a1 == 0) = false := beq_eq_false_iff_ne.mpr c20
           have c20b1 : (a1 != 0) = true := bne_iff_ne.mpr c20
           simp only [Option.some.injEq, Prod.mk.injEq] at H
           obtain ⟨rfl, rfl⟩ := H
           obtain ⟨ASz21_0, cSz21_0, HGz21, hgz21, HSz21_0⟩ := HI0.out
           have hcz21_0 := cellS107_0 HGz21
           have hcz21_1 := cellS107_1 HGz21
           have hfz21_1 := blk_frozen HGz21 1
           clear HGz21 hgz21
           have p189 : 0 ≤ ((ji14) : Int) := oda
           have q189 : (ji14) < (s0_0.length : Int) := oda
           obtain ⟨ad189, e189, hx189_0⟩ := Kd.at_int HSz21_0 (ji14) p189 q189
           cases e189
           replace hx189_0 := pw_cell_below HB.out hx189_0
           replace p189 := eq_true p189
           replace q189 := eq_true q189
           have p190 : 0 ≤ ((ji17) : Int) := oda
           have q190 : (ji17) < (s0_0.length : Int) := oda
           obtain ⟨ad190, e190, hx190_0⟩ := Kd.at_int HSz21_0 (ji17) p190 q190
           obtain rfl : ad189 = ad190 := (by injection e190)
           replace hx190_0 := pw_cell_below HB.out hx190_0
           replace p190 := eq_true p190
           replace q190 := eq_true q190
           go_wp2
           repeat (go_quiet (fail); try go_wp2)
           go_ret
           exact ⟨by first | rfl | (simp [errW_none, errW_some] <;> rfl) | (simp only [← hji14, ← hji17]; first | rfl | (simp [errW_none, errW_some] <;> rfl)) | (simp [*, errW_none, errW_some] <;> rfl), ib HI0.out, bi HB.out, kb HK.out⟩
         ·rw [if_neg c19] at H
          exact absurd H (by simp)
        ·rw [if_neg c18] at H
         exact absurd H (by simp)
       ·rw [if_neg c16] at H
        exact absurd H (by simp)
      ·rw [if_neg c15] at H
       exact absurd H (by simp)


/-! ### spec_l1Rd_of: function 80 -/
def spec_l1Rd_of.f (k : Nat) (s0_0 : List Int) (s0_1 : Int) (l1 : List ByteArray) : Option (ByteArray × Int) := (spec_l1Rd_pick.f k s0_0 s0_1 (l1.length : Int)).bind fun bt191 => (if 0 ≤ bt191.1 then (if bt191.1 < (l1.length : Int) then (some (rdOf ByteArray.empty l1 bt191.1, bt191.2)) else (none)) else (none))
theorem spec_l1Rd_of.mono : ∀ a0 a1 a2 k, LeO (spec_l1Rd_of.f k a0 a1 a2) (spec_l1Rd_of.f (k + 1) a0 a1 a2) := by
 intro a0 a1 a2 k
 unfold spec_l1Rd_of.f
 repeat' first
   | (with_reducible exact spec_l1Rd_pick.mono _ _ _ _)
   | (with_reducible exact LeO.refl _)
   | (with_reducible exact LeO.none _)
   | (with_reducible refine LeO.ite ?_ ?_)
   | (with_reducible refine LeO.bind ?_ (fun _ => ?_))
   | exact spec_l1Rd_pick.mono _ _ _ _
   | exact LeO.none _
   | refine LeO.ite ?_ ?_
   | refine LeO.bind ?_ (fun _ => ?_)
set_option maxHeartbeats 8000000 in
set_option maxRecDepth 100000 in
theorem spec_l1Rd_of.calls (k : Nat) (g : Nat) (s0_0 : List Int) (s0_1 : Int) (A1 : Option Addr) (c1 : Nat) (l1 : List ByteArray) (r1 : ByteArray) (r2 : Int) (w0 w : World) (hI : IsS107 w0 w g s0_0 s0_1) (hB : Below w0.heap.size w0 w) (hr1 : Kd.C Kd.string w A1 l1.length l1) (hc1 : l1.length ≤ c1) (hf1 : ∀ ad, A1 = some ad → 0 < l1.length → ad.block ≠ g) (h : spec_l1Rd_of.f k s0_0 s0_1 l1 = some (r1, r2)) :
  Calls Try.prog 80 #[.pointer (some ⟨g, 0, none⟩), .slice A1 l1.length c1] w fun e w' => e = .returned (.string r1) ∧ IsS107 w0 w' g s0_0 r2 ∧ Below w0.heap.size w0 w' ∧ KeepBut w w' g none := by
 have HR1 := Aside0.mk hr1
 have HC1 := Aside0.mk hc1
 clear hr1 hc1
 have HI0 := Aside0.mk hI
 have HK := Aside0.mk (KeepBut.refl w g none)
 have HL := Aside0.mk hB.size
 clear hI
 have HW0 := Aside0.mk hB.size
 have HB := Aside0.mk hB
 clear hB
 have H : ((spec_l1Rd_pick.f k s0_0 s0_1 (l1.length : Int)).bind fun bt191 => (if 0 ≤ bt191.1 then (if bt191.1 < (l1.length : Int) then (some (rdOf ByteArray.empty l1 bt191.1, bt191.2)) else (none)) else (none))) = some (r1, r2) := h
 clear h
 replace H := Option.bind_eq_some_iff.mp H
 obtain ⟨⟨t191, t192⟩, A30, H⟩ := H
 try dsimp only at H
 have A3 := Aside0.mk A30
 clear A30
 by_cases c4 : 0 ≤ t191
 ·rw [if_pos c4] at H
  have c4b0 : decide (0 ≤ t191) = true := decide_eq_true c4
  clear c4
  by_cases c5 : t191 < (l1.length : Int)
  ·rw [if_pos c5] at H
   have c5b0 : decide (t191 < (l1.length : Int)) = true := decide_eq_true c5
   clear c5
   simp only [Option.some.injEq, Prod.mk.injEq] at H
   obtain ⟨rfl, rfl⟩ := H
   go_enter Try.func80, Try.ntmps80
   go_wp2_with (first | ((with_reducible refine gate_callee (f := 64) rfl ?_); refine goesL_ (some 9) rfl rfl Try.func64 (by kernel_rfl) rfl #[.pointer (some ⟨g, 0, none⟩), .int .i64 (l1.length : Int)] rfl mxp ?_; (with_reducible refine (spec_l1Rd_pick.calls k g s0_0 s0_1 (l1.length : Int) t191 t192 w0 _ ?side1 ?side2 A3.out).mono ?_); (case side1 => exact ib HI0.out); (case side2 => exact bi HB.out); rintro e w6 ⟨rfl, hi, hb, hk⟩; refine ⟨_, rfl, ?_⟩; have t_ := And.intro (kt HK hk) <| And.intro (Aside0.mk (hb)) <| (Aside0.mk (hi)); clear HK HB HI0; obtain ⟨HK, HB, HI0⟩ := t_; (try clear hb); (try clear hb2); (try clear hk); (try clear hi); have p193 : 0 ≤ (t191 : Int) := oda; have q193 : t191 < (l1.length : Int) := oda; obtain ⟨ad193, e193, hx193_0⟩ := Kd.at_string HR1.out t191 p193 q193; cases e193; replace hx193_0 := keep_cell HK.out hx193_0 (by first | (rw [add_block]; exact hf1 _ rfl (by omega)) | exact hf1 _ rfl (by omega) | exact hf1 ad193 rfl (by omega)); replace p193 := eq_true p193; replace q193 := eq_true q193))
   go_ret
   exact ⟨exq, ib HI0.out, bi HB.out, kb HK.out⟩
  ·rw [if_neg c5] at H
   exact absurd H (by simp)
 ·rw [if_neg c4] at H
  exact absurd H (by simp)

end Go.Proofs.Ytdkologncoofdaa.P
