/- Part 6 of the texts that the law FnExactRecRun reaches: contracts of the functions and plain lemmas. -/
import Derived.Test.YtdkologncoofdaaCFnExactRecRun2
import Derived.Test.YtdkologncoofdaaCFnExactRecRun3
import Derived.Test.YtdkologncoofdaaCFnExactRecRun4
import Derived.Test.YtdkologncoofdaaCFnExactRecRun5
-- Px80
namespace Go.Proofs.Ytdkologncoofdaa.P
open Go.RowKit Go.Proofs.YtdkologncoofdaaW.PrintWords Go.Proofs.YtdkologncoofdaaW.PrintLast Go.Proofs.YtdkologncoofdaaW.PrintMore
attribute [local go_sem] max2_int min2_int max_two min_two max_three min_three max_four min_four   -- for this text's walks alone
set_option linter.unusedVariables false
set_option linter.unusedSimpArgs false

/-! ### laws_FnExactRecRun: function 15 -/
mutual
def laws_FnExactRecRun.j0 : Nat → List (S48) → List (S66) → List ByteArray → List (S39) → List (S43) → List ByteArray → Bool → ByteArray → Int → Int → ByteArray → Int → Int → Option (Bool)
  | 0, _, _, _, _, _, _, _, _, _, _, _, _, _ => none
  | k + 1, x0, x1, x7, x8, x9, x11, x54, x885000, x885001, x885002, x898000, x898001, x898002 => if x54 = true then (some false) else ((laws_toRecPhaseS.f k x0).bind fun t900 => ((laws_eqRecPhaseS.f k x8 t900).bind fun t903 => (if t903 = true then ((laws_toRecSayS.f k x1).bind fun t904 => ((laws_eqRecSayS.f k x9 t904).bind fun t907 => (if t907 = true then ((laws_markRecPhaseS.f k x8 1).bind fun bt908 => ((laws_markRecSayS.f k x9 bt908.1).bind fun bt910 => (if bt910.1 < 0 then (laws_FnExactRecRun.j1 k x0 x1 x7 x11 true x885000 x885001 x885002) else ((laws_eqRecState.f x898000 x898001 x898002 x885000 x885001 x885002).bind fun t912 => (if t912 = true then ((laws_eqStringS.f k x11 x7).bind fun t913 => (laws_FnExactRecRun.j1 k x0 x1 x7 x11 (!t913) x885000 x885001 x885002)) else (laws_FnExactRecRun.j1 k x0 x1 x7 x11 true x885000 x885001 x885002)))))) else (some false)))) else (some false))))
def laws_FnExactRecRun.j1 : Nat → List (S48) → List (S66) → List ByteArray → List ByteArray → Bool → ByteArray → Int → Int → Option (Bool)
  | 0, _, _, _, _, _, _, _, _ => none
  | k + 1, x0, x1, x7, x11, x84, x885000, x885001, x885002 => if x84 = true then (some false) else ((laws_markStringS.f k x11 1).bind fun bt914 => ((laws_heldStringS.f k bt914.2 1).bind fun t916 => (if t916 < 0 then (some false) else (if t916 = bt914.1 then ((laws_toRecPhaseS.f k x0).bind fun t917 => ((laws_toRecSayS.f k x1).bind fun t920 => ((impl_RecRun.f k t917 t920).bind fun bt923 => ((laws_eqRecState.f bt923.1 bt923.2.1 bt923.2.2.1 x885000 x885001 x885002).bind fun t930 => (if t930 = true then ((laws_eqStringS.f k bt923.2.2.2 x7).bind fun t931 => (laws_FnExactRecRun.j2 k bt914.2 bt914.1 (!t931))) else (laws_FnExactRecRun.j2 k bt914.2 bt914.1 true)))))) else (some false)))))
def laws_FnExactRecRun.j2 : Nat → List ByteArray → Int → Bool → Option (Bool)
  | 0, _, _, _ => none
  | k + 1, x11, x13, x113 => if x113 = true then (some false) else ((laws_heldStringS.f k x11 1).bind fun t932 => (if t932 < 0 then (some false) else (if t932 = x13 then (some true) else (some false))))
end
def laws_FnExactRecRun.f (k : Nat) (l0 : List (S48)) (l1 : List (S66)) : Option (Bool) := (laws_szRecPhaseS.f k l0 1048576).bind fun t870 => (if t870 < 0 then (some true) else ((laws_szRecSayS.f l1 t870).bind fun t871 => (if t871 < 0 then (some true) else ((laws_toRecPhaseS.f k l0).bind fun t872 => ((laws_toRecSayS.f k l1).bind fun t875 => ((spec_RecRun.f k t872 t875).bind fun bt878 => ((laws_toRecPhaseS.f k l0).bind fun t885 => ((laws_toRecSayS.f k l1).bind fun t888 => ((impl_RecRun.f k t885 t888).bind fun bt891 => ((laws_eqRecState.f bt891.1 bt891.2.1 bt891.2.2.1 bt878.1 bt878.2.1 bt878.2.2.1).bind fun t898 => (if t898 = true then ((laws_eqStringS.f k bt891.2.2.2 bt878.2.2.2).bind fun t899 => (laws_FnExactRecRun.j0 k l0 l1 bt878.2.2.2 t885 t888 bt891.2.2.2 (!t899) bt878.1 bt878.2.1 bt878.2.2.1 bt891.1 bt891.2.1 bt891.2.2.1)) else (laws_FnExactRecRun.j0 k l0 l1 bt878.2.2.2 t885 t888 bt891.2.2.2 true bt878.1 bt878.2.1 bt878.2.2.1 bt891.1 bt891.2.1 bt891.2.2.1))))))))))))
theorem laws_FnExactRecRun.mono_l : ∀ k, (∀ y0 y1 y2 y3 y4 y5 y6 y7 y8 y9 y10 y11 y12, LeO (laws_FnExactRecRun.j0 k y0 y1 y2 y3 y4 y5 y6 y7 y8 y9 y10 y11 y12) (laws_FnExactRecRun.j0 (k + 1) y0 y1 y2 y3 y4 y5 y6 y7 y8 y9 y10 y11 y12)) ∧ (∀ y0 y1 y2 y3 y4 y5 y6 y7, LeO (laws_FnExactRecRun.j1 k y0 y1 y2 y3 y4 y5 y6 y7) (laws_FnExactRecRun.j1 (k + 1) y0 y1 y2 y3 y4 y5 y6 y7)) ∧ (∀ y0 y1 y2, LeO (laws_FnExactRecRun.j2 k y0 y1 y2) (laws_FnExactRecRun.j2 (k + 1) y0 y1 y2))
  | 0 => ⟨fun _ _ _ _ _ _ _ _ _ _ _ _ _ r h => by simp [laws_FnExactRecRun.j0] at h, fun _ _ _ _ _ _ _ _ r h => by simp [laws_FnExactRecRun.j1] at h, fun _ _ _ r h => by simp [laws_FnExactRecRun.j2] at h⟩
  | k + 1 => by
    obtain ⟨ih0, ih1, ih2⟩ := laws_FnExactRecRun.mono_l k
    refine ⟨?_, ?_, ?_⟩
    · intro y0 y1 y2 y3 y4 y5 y6 y7 y8 y9 y10 y11 y12
      unfold laws_FnExactRecRun.j0
      repeat' first
      | (with_reducible exact ih0 _ _ _ _ _ _ _ _ _ _ _ _ _)
      | (with_reducible exact ih1 _ _ _ _ _ _ _ _)
      | (with_reducible exact ih2 _ _ _)
      | (with_reducible exact impl_RecRun.mono _ _ _)
      | (with_reducible exact laws_eqRecPhaseS.mono _ _ _)
      | (with_reducible exact laws_eqRecSayS.mono _ _ _)
      | (with_reducible exact laws_eqStringS.mono _ _ _)
      | (with_reducible exact laws_heldStringS.mono _ _ _)
      | (with_reducible exact laws_markRecPhaseS.mono _ _ _)
      | (with_reducible exact laws_markRecSayS.mono _ _ _)
      | (with_reducible exact laws_markStringS.mono _ _ _)
      | (with_reducible exact laws_szRecPhaseS.mono _ _ _)
      | (with_reducible exact laws_toRecPhaseS.mono _ _)
      | (with_reducible exact laws_toRecSayS.mono _ _)
      | (with_reducible exact spec_RecRun.mono _ _ _)
      | (with_reducible exact LeO.refl _)
      | (with_reducible exact LeO.none _)
      | (with_reducible refine LeO.ite ?_ ?_)
      | (with_reducible refine LeO.bind ?_ (fun _ => ?_))
      | exact ih0 _ _ _ _ _ _ _ _ _ _ _ _ _
      | exact ih1 _ _ _ _ _ _ _ _
      | exact ih2 _ _ _
      | exact impl_RecRun.mono _ _ _
      | exact laws_eqRecPhaseS.mono _ _ _
      | exact laws_eqRecSayS.mono _ _ _
      | exact laws_eqStringS.mono _ _ _
      | exact laws_heldStringS.mono _ _ _
      | exact laws_markRecPhaseS.mono _ _ _
      | exact laws_markRecSayS.mono _ _ _
      | exact laws_markStringS.mono _ _ _
      | exact laws_szRecPhaseS.mono _ _ _
      | exact laws_toRecPhaseS.mono _ _
      | exact laws_toRecSayS.mono _ _
      | exact spec_RecRun.mono _ _ _
      | exact LeO.none _
      | refine LeO.ite ?_ ?_
      | refine LeO.bind ?_ (fun _ => ?_)
    · intro y0 y1 y2 y3 y4 y5 y6 y7
      unfold laws_FnExactRecRun.j1
      repeat' first
      | (with_reducible exact ih0 _ _ _ _ _ _ _ _ _ _ _ _ _)
      | (with_reducible exact ih1 _ _ _ _ _ _ _ _)
      | (with_reducible exact ih2 _ _ _)
      | (with_reducible exact impl_RecRun.mono _ _ _)
      | (with_reducible exact laws_eqRecPhaseS.mono _ _ _)
      | (with_reducible exact laws_eqRecSayS.mono _ _ _)
      | (with_reducible exact laws_eqStringS.mono _ _ _)
      | (with_reducible exact laws_heldStringS.mono _ _ _)
      | (with_reducible exact laws_markRecPhaseS.mono _ _ _)
      | (with_reducible exact laws_markRecSayS.mono _ _ _)
      | (with_reducible exact laws_markStringS.mono _ _ _)
      | (with_reducible exact laws_szRecPhaseS.mono _ _ _)
      | (with_reducible exact laws_toRecPhaseS.mono _ _)
      | (with_reducible exact laws_toRecSayS.mono _ _)
      | (with_reducible exact spec_RecRun.mono _ _ _)
      | (with_reducible exact LeO.refl _)
      | (with_reducible exact LeO.none _)
      | (with_reducible refine LeO.ite ?_ ?_)
      | (with_reducible refine LeO.bind ?_ (fun _ => ?_))
      | exact ih0 _ _ _ _ _ _ _ _ _ _ _ _ _
      | exact ih1 _ _ _ _ _ _ _ _
      | exact ih2 _ _ _
      | exact impl_RecRun.mono _ _ _
      | exact laws_eqRecPhaseS.mono _ _ _
      | exact laws_eqRecSayS.mono _ _ _
      | exact laws_eqStringS.mono _ _ _
      | exact laws_heldStringS.mono _ _ _
      | exact laws_markRecPhaseS.mono _ _ _
      | exact laws_markRecSayS.mono _ _ _
      | exact laws_markStringS.mono _ _ _
      | exact laws_szRecPhaseS.mono _ _ _
      | exact laws_toRecPhaseS.mono _ _
      | exact laws_toRecSayS.mono _ _
      | exact spec_RecRun.mono _ _ _
      | exact LeO.none _
      | refine LeO.ite ?_ ?_
      | refine LeO.bind ?_ (fun _ => ?_)
    · intro y0 y1 y2
      unfold laws_FnExactRecRun.j2
      repeat' first
      | (with_reducible exact ih0 _ _ _ _ _ _ _ _ _ _ _ _ _)
      | (with_reducible exact ih1 _ _ _ _ _ _ _ _)
      | (with_reducible exact ih2 _ _ _)
      | (with_reducible exact impl_RecRun.mono _ _ _)
      | (with_reducible exact laws_eqRecPhaseS.mono _ _ _)
      | (with_reducible exact laws_eqRecSayS.mono _ _ _)
      | (with_reducible exact laws_eqStringS.mono _ _ _)
      | (with_reducible exact laws_heldStringS.mono _ _ _)
      | (with_reducible exact laws_markRecPhaseS.mono _ _ _)
      | (with_reducible exact laws_markRecSayS.mono _ _ _)
      | (with_reducible exact laws_markStringS.mono _ _ _)
      | (with_reducible exact laws_szRecPhaseS.mono _ _ _)
      | (with_reducible exact laws_toRecPhaseS.mono _ _)
      | (with_reducible exact laws_toRecSayS.mono _ _)
      | (with_reducible exact spec_RecRun.mono _ _ _)
      | (with_reducible exact LeO.refl _)
      | (with_reducible exact LeO.none _)
      | (with_reducible refine LeO.ite ?_ ?_)
      | (with_reducible refine LeO.bind ?_ (fun _ => ?_))
      | exact ih0 _ _ _ _ _ _ _ _ _ _ _ _ _
      | exact ih1 _ _ _ _ _ _ _ _
      | exact ih2 _ _ _
      | exact impl_RecRun.mono _ _ _
      | exact laws_eqRecPhaseS.mono _ _ _
      | exact laws_eqRecSayS.mono _ _ _
      | exact laws_eqStringS.mono _ _ _
      | exact laws_heldStringS.mono _ _ _
      | exact laws_markRecPhaseS.mono _ _ _
      | exact laws_markRecSayS.mono _ _ _
      | exact laws_markStringS.mono _ _ _
      | exact laws_szRecPhaseS.mono _ _ _
      | exact laws_toRecPhaseS.mono _ _
      | exact laws_toRecSayS.mono _ _
      | exact spec_RecRun.mono _ _ _
      | exact LeO.none _
      | refine LeO.ite ?_ ?_
      | refine LeO.bind ?_ (fun _ => ?_)
theorem laws_FnExactRecRun.mono : ∀ a0 a1 k, LeO (laws_FnExactRecRun.f k a0 a1) (laws_FnExactRecRun.f (k + 1) a0 a1) := by
  intro a0 a1 k
  obtain ⟨ih0, ih1, ih2⟩ := laws_FnExactRecRun.mono_l k
  unfold laws_FnExactRecRun.f
  repeat' first
      | (with_reducible exact ih0 _ _ _ _ _ _ _ _ _ _ _ _ _)
      | (with_reducible exact ih1 _ _ _ _ _ _ _ _)
      | (with_reducible exact ih2 _ _ _)
      | (with_reducible exact impl_RecRun.mono _ _ _)
      | (with_reducible exact laws_eqRecPhaseS.mono _ _ _)
      | (with_reducible exact laws_eqRecSayS.mono _ _ _)
      | (with_reducible exact laws_eqStringS.mono _ _ _)
      | (with_reducible exact laws_heldStringS.mono _ _ _)
      | (with_reducible exact laws_markRecPhaseS.mono _ _ _)
      | (with_reducible exact laws_markRecSayS.mono _ _ _)
      | (with_reducible exact laws_markStringS.mono _ _ _)
      | (with_reducible exact laws_szRecPhaseS.mono _ _ _)
      | (with_reducible exact laws_toRecPhaseS.mono _ _)
      | (with_reducible exact laws_toRecSayS.mono _ _)
      | (with_reducible exact spec_RecRun.mono _ _ _)
      | (with_reducible exact LeO.refl _)
      | (with_reducible exact LeO.none _)
      | (with_reducible refine LeO.ite ?_ ?_)
      | (with_reducible refine LeO.bind ?_ (fun _ => ?_))
      | exact ih0 _ _ _ _ _ _ _ _ _ _ _ _ _
      | exact ih1 _ _ _ _ _ _ _ _
      | exact ih2 _ _ _
      | exact impl_RecRun.mono _ _ _
      | exact laws_eqRecPhaseS.mono _ _ _
      | exact laws_eqRecSayS.mono _ _ _
      | exact laws_eqStringS.mono _ _ _
      | exact laws_heldStringS.mono _ _ _
      | exact laws_markRecPhaseS.mono _ _ _
      | exact laws_markRecSayS.mono _ _ _
      | exact laws_markStringS.mono _ _ _
      | exact laws_szRecPhaseS.mono _ _ _
      | exact laws_toRecPhaseS.mono _ _
      | exact laws_toRecSayS.mono _ _
      | exact spec_RecRun.mono _ _ _
      | exact LeO.none _
      | refine LeO.ite ?_ ?_
      | refine LeO.bind ?_ (fun _ => ?_)
set_option maxHeartbeats 8000000 in
set_option maxRecDepth 100000 in
theorem laws_FnExactRecRun.calls (k : Nat) (A0 : Option Addr) (c0 : Nat) (l0 : List (S48)) (A1 : Option Addr) (c1 : Nat) (l1 : List (S66)) (r : Bool) (w : World) (hr0 : Kd.C k48 w A0 l0.length l0) (hc0 : l0.length ≤ c0) (hr1 : Kd.C k66 w A1 l1.length l1) (hc1 : l1.length ≤ c1) (h : laws_FnExactRecRun.f k l0 l1 = some r) :
    Calls Try.prog 15 #[.slice A0 l0.length c0, .slice A1 l1.length c1] w fun e w' => e = .returned (.bool r) ∧ Below w.heap.size w w' := by
  have hu31 := Try.underlying31
  have HR0 := Aside0.mk hr0
  have HC0 := Aside0.mk hc0
  clear hr0 hc0
  have HR1 := Aside0.mk hr1
  have HC1 := Aside0.mk hc1
  clear hr1 hc1
  have HB := Aside0.mk (Below.refl w.heap.size w)
  have H : ((laws_szRecPhaseS.f k l0 1048576).bind fun t870 => (if t870 < 0 then (some true) else ((laws_szRecSayS.f l1 t870).bind fun t871 => (if t871 < 0 then (some true) else ((laws_toRecPhaseS.f k l0).bind fun t872 => ((laws_toRecSayS.f k l1).bind fun t875 => ((spec_RecRun.f k t872 t875).bind fun bt878 => ((laws_toRecPhaseS.f k l0).bind fun t885 => ((laws_toRecSayS.f k l1).bind fun t888 => ((impl_RecRun.f k t885 t888).bind fun bt891 => ((laws_eqRecState.f bt891.1 bt891.2.1 bt891.2.2.1 bt878.1 bt878.2.1 bt878.2.2.1).bind fun t898 => (if t898 = true then ((laws_eqStringS.f k bt891.2.2.2 bt878.2.2.2).bind fun t899 => (laws_FnExactRecRun.j0 k l0 l1 bt878.2.2.2 t885 t888 bt891.2.2.2 (!t899) bt878.1 bt878.2.1 bt878.2.2.1 bt891.1 bt891.2.1 bt891.2.2.1)) else (laws_FnExactRecRun.j0 k l0 l1 bt878.2.2.2 t885 t888 bt891.2.2.2 true bt878.1 bt878.2.1 bt878.2.2.1 bt891.1 bt891.2.1 bt891.2.2.1))))))))))))) = some r := h
  clear h
  replace H := Option.bind_eq_some_iff.mp H
  obtain ⟨t870, A30, H⟩ := H
  replace H : (if t870 < 0 then (some true) else ((laws_szRecSayS.f l1 t870).bind fun t871 => (if t871 < 0 then (some true) else ((laws_toRecPhaseS.f k l0).bind fun t872 => ((laws_toRecSayS.f k l1).bind fun t875 => ((spec_RecRun.f k t872 t875).bind fun bt878 => ((laws_toRecPhaseS.f k l0).bind fun t885 => ((laws_toRecSayS.f k l1).bind fun t888 => ((impl_RecRun.f k t885 t888).bind fun bt891 => ((laws_eqRecState.f bt891.1 bt891.2.1 bt891.2.2.1 bt878.1 bt878.2.1 bt878.2.2.1).bind fun t898 => (if t898 = true then ((laws_eqStringS.f k bt891.2.2.2 bt878.2.2.2).bind fun t899 => (laws_FnExactRecRun.j0 k l0 l1 bt878.2.2.2 t885 t888 bt891.2.2.2 (!t899) bt878.1 bt878.2.1 bt878.2.2.1 bt891.1 bt891.2.1 bt891.2.2.1)) else (laws_FnExactRecRun.j0 k l0 l1 bt878.2.2.2 t885 t888 bt891.2.2.2 true bt878.1 bt878.2.1 bt878.2.2.1 bt891.1 bt891.2.1 bt891.2.2.1)))))))))))) = some r := H
  have A3 := Aside0.mk A30
  clear A30
  by_cases c4 : t870 < 0
  · rw [if_pos c4] at H
    have c4b0 : decide (t870 < 0) = true := decide_eq_true c4
    clear c4
    obtain rfl := Option.some.inj H
    go_enter Try.func15, Try.ntmps15
    go_wp2_with (first | ((with_reducible refine gate_callee (f := 37) rfl ?_); refine goesL_ (some 19) rfl rfl Try.func37 (by kernel_rfl) rfl #[.slice A0 l0.length c0, .int .i64 1048576] rfl mxp ?_; (with_reducible refine (laws_szRecPhaseS.calls k _ _ l0 1048576 t870 _ ?side1 ?side2 A3.out).mono ?_); (case side1 => exact cx HR0.out); (case side2 => exact HC0.out); rintro e w5 ⟨rfl, hb⟩; refine ⟨_, rfl, ?_⟩; replace HB := bs HB hb; (try clear hb); (try clear hb2); (try clear hk); (try clear hi)))
    go_ret
    exact ⟨exq, bw HB.out⟩
  · rw [if_neg c4] at H
    have c4b0 : decide (t870 < 0) = false := decide_eq_false c4
    clear c4
    replace H := Option.bind_eq_some_iff.mp H
    obtain ⟨t871, A60, H⟩ := H
    replace H : (if t871 < 0 then (some true) else ((laws_toRecPhaseS.f k l0).bind fun t872 => ((laws_toRecSayS.f k l1).bind fun t875 => ((spec_RecRun.f k t872 t875).bind fun bt878 => ((laws_toRecPhaseS.f k l0).bind fun t885 => ((laws_toRecSayS.f k l1).bind fun t888 => ((impl_RecRun.f k t885 t888).bind fun bt891 => ((laws_eqRecState.f bt891.1 bt891.2.1 bt891.2.2.1 bt878.1 bt878.2.1 bt878.2.2.1).bind fun t898 => (if t898 = true then ((laws_eqStringS.f k bt891.2.2.2 bt878.2.2.2).bind fun t899 => (laws_FnExactRecRun.j0 k l0 l1 bt878.2.2.2 t885 t888 bt891.2.2.2 (!t899) bt878.1 bt878.2.1 bt878.2.2.1 bt891.1 bt891.2.1 bt891.2.2.1)) else (laws_FnExactRecRun.j0 k l0 l1 bt878.2.2.2 t885 t888 bt891.2.2.2 true bt878.1 bt878.2.1 bt878.2.2.1 bt891.1 bt891.2.1 bt891.2.2.1)))))))))) = some r := H
    have A6 := Aside0.mk A60
    clear A60
    by_cases c7 : t871 < 0
    · rw [if_pos c7] at H
      have c7b0 : decide (t871 < 0) = true := decide_eq_true c7
      clear c7
      obtain rfl := Option.some.inj H
      go_enter Try.func15, Try.ntmps15
      go_wp2_with (first | ((with_reducible refine gate_callee (f := 37) rfl ?_); refine goesL_ (some 19) rfl rfl Try.func37 (by kernel_rfl) rfl #[.slice A0 l0.length c0, .int .i64 1048576] rfl mxp ?_; (with_reducible refine (laws_szRecPhaseS.calls k _ _ l0 1048576 t870 _ ?side1 ?side2 A3.out).mono ?_); (case side1 => exact cx HR0.out); (case side2 => exact HC0.out); rintro e w8 ⟨rfl, hb⟩; refine ⟨_, rfl, ?_⟩; replace HB := bs HB hb; (try clear hb); (try clear hb2); (try clear hk); (try clear hi)) | ((with_reducible refine gate_callee (f := 51) rfl ?_); refine goesL_ (some 24) rfl rfl Try.func51 (by kernel_rfl) rfl #[.slice A1 l1.length c1, .int .i64 t870] rfl mxp ?_; (with_reducible refine (laws_szRecSayS.calls _ _ l1 t870 t871 _ ?side1 ?side2 A6.out).mono ?_); (case side1 => exact cx (Kd.C_below HR1.out HB.out)); (case side2 => exact HC1.out); rintro e w' ⟨rfl, ⟨nd, rfl⟩⟩; refine ⟨_, rfl, ?_⟩))
      go_ret
      exact ⟨exq, bw HB.out⟩
    · rw [if_neg c7] at H
      have c7b0 : decide (t871 < 0) = false := decide_eq_false c7
      clear c7
      replace H := Option.bind_eq_some_iff.mp H
      obtain ⟨t872, A90, H⟩ := H
      replace H : ((laws_toRecSayS.f k l1).bind fun t875 => ((spec_RecRun.f k t872 t875).bind fun bt878 => ((laws_toRecPhaseS.f k l0).bind fun t885 => ((laws_toRecSayS.f k l1).bind fun t888 => ((impl_RecRun.f k t885 t888).bind fun bt891 => ((laws_eqRecState.f bt891.1 bt891.2.1 bt891.2.2.1 bt878.1 bt878.2.1 bt878.2.2.1).bind fun t898 => (if t898 = true then ((laws_eqStringS.f k bt891.2.2.2 bt878.2.2.2).bind fun t899 => (laws_FnExactRecRun.j0 k l0 l1 bt878.2.2.2 t885 t888 bt891.2.2.2 (!t899) bt878.1 bt878.2.1 bt878.2.2.1 bt891.1 bt891.2.1 bt891.2.2.1)) else (laws_FnExactRecRun.j0 k l0 l1 bt878.2.2.2 t885 t888 bt891.2.2.2 true bt878.1 bt878.2.1 bt878.2.2.1 bt891.1 bt891.2.1 bt891.2.2.1)))))))) = some r := H
      have A9 := Aside0.mk A90
      clear A90
      replace H := Option.bind_eq_some_iff.mp H
      obtain ⟨t875, A100, H⟩ := H
      replace H : ((spec_RecRun.f k t872 t875).bind fun bt878 => ((laws_toRecPhaseS.f k l0).bind fun t885 => ((laws_toRecSayS.f k l1).bind fun t888 => ((impl_RecRun.f k t885 t888).bind fun bt891 => ((laws_eqRecState.f bt891.1 bt891.2.1 bt891.2.2.1 bt878.1 bt878.2.1 bt878.2.2.1).bind fun t898 => (if t898 = true then ((laws_eqStringS.f k bt891.2.2.2 bt878.2.2.2).bind fun t899 => (laws_FnExactRecRun.j0 k l0 l1 bt878.2.2.2 t885 t888 bt891.2.2.2 (!t899) bt878.1 bt878.2.1 bt878.2.2.1 bt891.1 bt891.2.1 bt891.2.2.1)) else (laws_FnExactRecRun.j0 k l0 l1 bt878.2.2.2 t885 t888 bt891.2.2.2 true bt878.1 bt878.2.1 bt878.2.2.1 bt891.1 bt891.2.1 bt891.2.2.1))))))) = some r := H
      have A10 := Aside0.mk A100
      clear A100
      replace H := Option.bind_eq_some_iff.mp H
      obtain ⟨⟨t878, t879, t880, t881⟩, A110, H⟩ := H
      replace H : ((laws_toRecPhaseS.f k l0).bind fun t885 => ((laws_toRecSayS.f k l1).bind fun t888 => ((impl_RecRun.f k t885 t888).bind fun bt891 => ((laws_eqRecState.f bt891.1 bt891.2.1 bt891.2.2.1 t878 t879 t880).bind fun t898 => (if t898 = true then ((laws_eqStringS.f k bt891.2.2.2 t881).bind fun t899 => (laws_FnExactRecRun.j0 k l0 l1 t881 t885 t888 bt891.2.2.2 (!t899) t878 t879 t880 bt891.1 bt891.2.1 bt891.2.2.1)) else (laws_FnExactRecRun.j0 k l0 l1 t881 t885 t888 bt891.2.2.2 true t878 t879 t880 bt891.1 bt891.2.1 bt891.2.2.1)))))) = some r := H
      have A11 := Aside0.mk A110
      clear A110
      replace H := Option.bind_eq_some_iff.mp H
      obtain ⟨t885, A120, H⟩ := H
      replace H : ((laws_toRecSayS.f k l1).bind fun t888 => ((impl_RecRun.f k t885 t888).bind fun bt891 => ((laws_eqRecState.f bt891.1 bt891.2.1 bt891.2.2.1 t878 t879 t880).bind fun t898 => (if t898 = true then ((laws_eqStringS.f k bt891.2.2.2 t881).bind fun t899 => (laws_FnExactRecRun.j0 k l0 l1 t881 t885 t888 bt891.2.2.2 (!t899) t878 t879 t880 bt891.1 bt891.2.1 bt891.2.2.1)) else (laws_FnExactRecRun.j0 k l0 l1 t881 t885 t888 bt891.2.2.2 true t878 t879 t880 bt891.1 bt891.2.1 bt891.2.2.1))))) = some r := H
      have A12 := Aside0.mk A120
      clear A120
      replace H := Option.bind_eq_some_iff.mp H
      obtain ⟨t888, A130, H⟩ := H
      replace H : ((impl_RecRun.f k t885 t888).bind fun bt891 => ((laws_eqRecState.f bt891.1 bt891.2.1 bt891.2.2.1 t878 t879 t880).bind fun t898 => (if t898 = true then ((laws_eqStringS.f k bt891.2.2.2 t881).bind fun t899 => (laws_FnExactRecRun.j0 k l0 l1 t881 t885 t888 bt891.2.2.2 (!t899) t878 t879 t880 bt891.1 bt891.2.1 bt891.2.2.1)) else (laws_FnExactRecRun.j0 k l0 l1 t881 t885 t888 bt891.2.2.2 true t878 t879 t880 bt891.1 bt891.2.1 bt891.2.2.1)))) = some r := H
      have A13 := Aside0.mk A130
      clear A130
      replace H := Option.bind_eq_some_iff.mp H
      obtain ⟨⟨t891, t892, t893, t894⟩, A140, H⟩ := H
      replace H : ((laws_eqRecState.f t891 t892 t893 t878 t879 t880).bind fun t898 => (if t898 = true then ((laws_eqStringS.f k t894 t881).bind fun t899 => (laws_FnExactRecRun.j0 k l0 l1 t881 t885 t888 t894 (!t899) t878 t879 t880 t891 t892 t893)) else (laws_FnExactRecRun.j0 k l0 l1 t881 t885 t888 t894 true t878 t879 t880 t891 t892 t893))) = some r := H
      have A14 := Aside0.mk A140
      clear A140
      have HC15 := Aside0.mk H
      clear H
      go_enter Try.func15, Try.ntmps15
      go_upto_region 12 with (first | ((with_reducible refine gate_callee (f := 37) rfl ?_); refine goesL_ (some 19) rfl rfl Try.func37 (by kernel_rfl) rfl #[.slice A0 l0.length c0, .int .i64 1048576] rfl mxp ?_; (with_reducible refine (laws_szRecPhaseS.calls k _ _ l0 1048576 t870 _ ?side1 ?side2 A3.out).mono ?_); (case side1 => exact cx HR0.out); (case side2 => exact HC0.out); rintro e w16 ⟨rfl, hb⟩; refine ⟨_, rfl, ?_⟩; replace HB := bs HB hb; (try clear hb); (try clear hb2); (try clear hk); (try clear hi)) | ((with_reducible refine gate_callee (f := 51) rfl ?_); refine goesL_ (some 24) rfl rfl Try.func51 (by kernel_rfl) rfl #[.slice A1 l1.length c1, .int .i64 t870] rfl mxp ?_; (with_reducible refine (laws_szRecSayS.calls _ _ l1 t870 t871 _ ?side1 ?side2 A6.out).mono ?_); (case side1 => exact cx (Kd.C_below HR1.out HB.out)); (case side2 => exact HC1.out); rintro e w' ⟨rfl, ⟨nd, rfl⟩⟩; refine ⟨_, rfl, ?_⟩; (try (rw [drewN_self w16]; generalize hq_ : World.drewN w16 _ = w16; have n0_ : Aside0 (Below w.heap.size w w16) := ⟨by rw [← hq_]; exact (bw HB.out)⟩; clear HB hq_; have HB := n0_; clear n0_))) | ((with_reducible refine gate_callee (f := 38) rfl ?_); refine goesL_ (some 29) rfl rfl Try.func38 (by kernel_rfl) rfl #[.slice A0 l0.length c0] rfl mxp ?_; (with_reducible refine (laws_toRecPhaseS.calls k _ _ l0 t872 _ ?side1 ?side2 A9.out).mono ?_); (case side1 => exact cx (Kd.C_below HR0.out HB.out)); (case side2 => exact HC0.out); rintro e w17 ⟨v873, rfl, ho0, hb⟩; refine ⟨_, rfl, ?_⟩; have n0_ := Aside0.mk (Kd.R_lower ho0 (below_size (bw HB.out))); have n1_ := bs HB hb; clear HB; have HO874 := n0_; have HB := n1_; clear n0_ n1_; (try clear hb); (try clear hb2); (try clear hk); (try clear hi); (try clear ho0)) | ((with_reducible refine gate_callee (f := 52) rfl ?_); refine goesL_ (some 31) rfl rfl Try.func52 (by kernel_rfl) rfl #[.slice A1 l1.length c1] rfl mxp ?_; (with_reducible refine (laws_toRecSayS.calls k _ _ l1 t875 _ ?side1 ?side2 A10.out).mono ?_); (case side1 => exact cx (Kd.C_below HR1.out HB.out)); (case side2 => exact HC1.out); rintro e w18 ⟨v876, rfl, ho0, hb⟩; refine ⟨_, rfl, ?_⟩; have n0_ := Aside0.mk (Kd.R_below (rx HO874.out) hb); have n1_ := Aside0.mk (Kd.R_lower ho0 (below_size (bw HB.out))); have n2_ := bs HB hb; clear HO874; clear HB; have HO874 := n0_; have HO877 := n1_; have HB := n2_; clear n0_ n1_ n2_; (try clear hb); (try clear hb2); (try clear hk); (try clear hi); (try clear ho0); obtain ⟨Ao19, co19, eo19⟩ := Kd.R_slice HO874.out; subst eo19; obtain ⟨Ao20, co20, eo20⟩ := Kd.R_slice HO877.out; subst eo20) | ((with_reducible refine gate_callee (f := 22) rfl ?_); refine goesL_ (some 32) rfl rfl Try.func22 (by kernel_rfl) rfl #[.slice Ao19 t872.length co19, .slice Ao20 t875.length co20] rfl mxp ?_; (with_reducible refine (spec_RecRun.calls k _ _ t872 _ _ t875 t878 t879 t880 t881 _ ?side1 ?side2 ?side3 ?side4 A11.out).mono ?_); (case side1 => repeat (first | exact (Kd.R_reads' HO874.out).2.2 | (with_reducible refine Kd.C_alloc ?_ _) | (with_reducible refine Kd.C_drewN ?_ _) | (with_reducible refine Kd.C_drew ?_))); (case side2 => exact (Kd.R_reads' HO874.out).2.1); (case side3 => repeat (first | exact (Kd.R_reads' HO877.out).2.2 | (with_reducible refine Kd.C_alloc ?_ _) | (with_reducible refine Kd.C_drewN ?_ _) | (with_reducible refine Kd.C_drew ?_))); (case side4 => exact (Kd.R_reads' HO877.out).2.1); rintro e w21 ⟨v882, rfl, ho0, hb⟩; refine ⟨_, rfl, ?_⟩; have n0_ := Aside0.mk (Kd.R_below (rx HO874.out) hb); have n1_ := Aside0.mk (Kd.R_below (rx HO877.out) hb); have n2_ := Aside0.mk (Kd.R_lower ho0 (below_size (bw HB.out))); have n3_ := bs HB hb; clear HO874; clear HO877; clear HB; have HO874 := n0_; have HO877 := n1_; have HO883 := n2_; have HB := n3_; clear n0_ n1_ n2_ n3_; (try clear hb); (try clear hb2); (try clear hk); (try clear hi); (try clear ho0)) | ((with_reducible refine gate_dst (N := 6) rfl ?_); refine box_event ?hg (N := 6) ?hd (cs := #[.string (⟨#[]⟩ : ByteArray), .int .i64 0, .int .i64 0]) (t := 31) ?hr ?_; (case hd => rfl); (case hg => rfl); (case hr => first | (go_simp; done) | (go_simp; rfl)); intro gb884 hg w22 hbox hb; have n0_ := Aside0.mk (Kd.R_below (rx HO874.out) hb); have n1_ := Aside0.mk (Kd.R_below (rx HO877.out) hb); have n2_ := Aside0.mk (Kd.R_below (rx HO883.out) hb); have n3_ := bs HB hb; have n4_ := Aside0.mk (hbox); have n5_ := Aside0.mk ((by rw [hg]; exact (below_size (bw HB.out)) : w.heap.size ≤ gb884)); have n6_ := Aside0.mk ((by rw [hg]; exact (below_size (bw HB.out)) : w.heap.size ≤ gb884)); clear HO874; clear HO877; clear HO883; clear HB; have HO874 := n0_; have HO877 := n1_; have HO883 := n2_; have HB := n3_; have BK884 := n4_; have GW884 := n5_; have GE884 := n6_; clear n0_ n1_ n2_ n3_ n4_ n5_ n6_; clear hb hbox hg; have hcz23_0 := b0 BK884; have hcz23_1 := b1 BK884; have hcz23_2 := b2 BK884; have hfz23_0 := fz BK884 0; have hfz23_1 := fz BK884 1; have hfz23_2 := fz BK884 2) | ((with_reducible refine gate_callee (f := 38) rfl ?_); refine goesL_ (some 36) rfl rfl Try.func38 (by kernel_rfl) rfl #[.slice A0 l0.length c0] rfl mxp ?_; (with_reducible refine (laws_toRecPhaseS.calls k _ _ l0 t885 _ ?side1 ?side2 A12.out).mono ?_); (case side1 => exact Kd.C_below HR0.out (bw HB.out)); (case side2 => exact HC0.out); rintro e w24 ⟨v886, rfl, ho0, hb⟩; refine ⟨_, rfl, ?_⟩; have n0_ := Aside0.mk (Kd.R_elder' (by refine rx ?_; exact (Kd.R_mono (Kd.R_far (p := ⟨gb884, 2, none⟩) (Kd.R_far (p := ⟨gb884, 1, none⟩) (Kd.R_far (p := ⟨gb884, 0, none⟩) (Kd.R_types HO874.out BK884.out (by decide)) (fun _ hk => hk.2) (.string t878)) (fun _ hk => hk.2) (.int .i64 t879)) (fun _ hk => hk.2) (.int .i64 t880)) (fun _ h_ => h_.1))) (Kd.R_base ho0) hb); have n1_ := Aside0.mk (Kd.R_below (by refine rx ?_; exact (Kd.R_mono (Kd.R_far (p := ⟨gb884, 2, none⟩) (Kd.R_far (p := ⟨gb884, 1, none⟩) (Kd.R_far (p := ⟨gb884, 0, none⟩) (Kd.R_types HO877.out BK884.out (by decide)) (fun _ hk => hk.2) (.string t878)) (fun _ hk => hk.2) (.int .i64 t879)) (fun _ hk => hk.2) (.int .i64 t880)) (fun _ h_ => h_.1))) hb); have n2_ := Aside0.mk (Kd.R_below (by refine rx ?_; exact (Kd.R_mono (Kd.R_far (p := ⟨gb884, 2, none⟩) (Kd.R_far (p := ⟨gb884, 1, none⟩) (Kd.R_far (p := ⟨gb884, 0, none⟩) (Kd.R_types HO883.out BK884.out (by decide)) (fun _ hk => hk.2) (.string t878)) (fun _ hk => hk.2) (.int .i64 t879)) (fun _ hk => hk.2) (.int .i64 t880)) (fun _ h_ => h_.1))) hb); have n3_ := Aside0.mk (Kd.R_lower (Kd.R_new' ho0 (Kd.R_lt (by refine rx ?_; exact (Kd.R_mono (Kd.R_far (p := ⟨gb884, 2, none⟩) (Kd.R_far (p := ⟨gb884, 1, none⟩) (Kd.R_far (p := ⟨gb884, 0, none⟩) (Kd.R_types HO874.out BK884.out (by decide)) (fun _ hk => hk.2) (.string t878)) (fun _ hk => hk.2) (.int .i64 t879)) (fun _ hk => hk.2) (.int .i64 t880)) (fun _ h_ => h_.1))))) (below_size (bw HB.out))); have n4_ := Aside0.mk (blk_below (g := gb884) (o := .cells #[.string t878, .int .i64 t879, .int .i64 t880] 31 (0, 0)) (by refine bx ?_; refine blk_put (cs := #[.string t878, .int .i64 t879, .int .i64 0]) ?_ 2 _ rfl; refine bx ?_; refine blk_put (cs := #[.string t878, .int .i64 0, .int .i64 0]) ?_ 1 _ rfl; refine bx ?_; refine blk_put (cs := #[.string (⟨#[]⟩ : ByteArray), .int .i64 0, .int .i64 0]) ?_ 0 _ rfl; refine bx ?_; exact BK884.out) hb); have n5_ := bs HB hb; clear HO874; clear HO877; clear HO883; clear BK884; clear HB; have HO874 := n0_; have HO877 := n1_; have HO883 := n2_; have HO887 := n3_; have BK884 := n4_; have HB := n5_; clear n0_ n1_ n2_ n3_ n4_ n5_; (try clear hb); (try clear hb2); (try clear hk); (try clear hi); (try clear ho0)) | ((with_reducible refine gate_callee (f := 52) rfl ?_); refine goesL_ (some 38) rfl rfl Try.func52 (by kernel_rfl) rfl #[.slice A1 l1.length c1] rfl mxp ?_; (with_reducible refine (laws_toRecSayS.calls k _ _ l1 t888 _ ?side1 ?side2 A13.out).mono ?_); (case side1 => exact cx (Kd.C_below HR1.out HB.out)); (case side2 => exact HC1.out); rintro e w25 ⟨v889, rfl, ho0, hb⟩; refine ⟨_, rfl, ?_⟩; have n0_ := Aside0.mk (Kd.R_below (rx HO874.out) hb); have n1_ := Aside0.mk (Kd.R_elder' (rx HO877.out) (Kd.R_base ho0) hb); have n2_ := Aside0.mk (Kd.R_below (rx HO883.out) hb); have n3_ := Aside0.mk (Kd.R_below (rx HO887.out) hb); have n4_ := Aside0.mk (Kd.R_lower (Kd.R_new' ho0 (Kd.R_lt (rx HO877.out))) (below_size (bw HB.out))); have n5_ := up BK884 hb; have n6_ := bs HB hb; clear HO874; clear HO877; clear HO883; clear HO887; clear BK884; clear HB; have HO874 := n0_; have HO877 := n1_; have HO883 := n2_; have HO887 := n3_; have HO890 := n4_; have BK884 := n5_; have HB := n6_; clear n0_ n1_ n2_ n3_ n4_ n5_ n6_; (try clear hb); (try clear hb2); (try clear hk); (try clear hi); (try clear ho0); obtain ⟨Ao26, co26, eo26⟩ := Kd.R_slice HO887.out; subst eo26; obtain ⟨Ao27, co27, eo27⟩ := Kd.R_slice HO890.out; subst eo27) | ((with_reducible refine gate_callee (f := 21) rfl ?_); refine goesL_ (some 42) rfl rfl Try.func21 (by kernel_rfl) rfl #[.slice Ao26 t885.length co26, .slice Ao27 t888.length co27] rfl mxp ?_; (with_reducible refine (impl_RecRun.calls k _ _ t885 _ _ t888 t891 t892 t893 t894 _ ?side1 ?side2 ?side3 ?side4 A14.out).mono ?_); (case side1 => repeat (first | exact (Kd.R_reads' HO887.out).2.2 | (with_reducible refine Kd.C_alloc ?_ _) | (with_reducible refine Kd.C_drewN ?_ _) | (with_reducible refine Kd.C_drew ?_))); (case side2 => exact (Kd.R_reads' HO887.out).2.1); (case side3 => repeat (first | exact (Kd.R_reads' HO890.out).2.2 | (with_reducible refine Kd.C_alloc ?_ _) | (with_reducible refine Kd.C_drewN ?_ _) | (with_reducible refine Kd.C_drew ?_))); (case side4 => exact (Kd.R_reads' HO890.out).2.1); rintro e w28 ⟨v895, rfl, ho0, hb⟩; refine ⟨_, rfl, ?_⟩; have n0_ := Aside0.mk (Kd.R_below (rx HO874.out) hb); have n1_ := Aside0.mk (Kd.R_below (rx HO877.out) hb); have n2_ := Aside0.mk (Kd.R_elder' (rx HO883.out) (Kd.R_base ho0) hb); have n3_ := Aside0.mk (Kd.R_below (rx HO887.out) hb); have n4_ := Aside0.mk (Kd.R_below (rx HO890.out) hb); have n5_ := Aside0.mk (Kd.R_lower (Kd.R_new' ho0 (Kd.R_lt (rx HO883.out))) (below_size (bw HB.out))); have n6_ := up BK884 hb; have n7_ := bs HB hb; clear HO874; clear HO877; clear HO883; clear HO887; clear HO890; clear BK884; clear HB; have HO874 := n0_; have HO877 := n1_; have HO883 := n2_; have HO887 := n3_; have HO890 := n4_; have HO896 := n5_; have BK884 := n6_; have HB := n7_; clear n0_ n1_ n2_ n3_ n4_ n5_ n6_ n7_; (try clear hb); (try clear hb2); (try clear hk); (try clear hi); (try clear ho0)) | ((with_reducible refine gate_dst (N := 10) rfl ?_); refine box_event ?hg (N := 10) ?hd (cs := #[.string (⟨#[]⟩ : ByteArray), .int .i64 0, .int .i64 0]) (t := 31) ?hr ?_; (case hd => rfl); (case hg => rfl); (case hr => first | (go_simp; done) | (go_simp; rfl)); intro gb897 hg w29 hbox hb; have n0_ := Aside0.mk (Kd.R_below (rx HO874.out) hb); have n1_ := Aside0.mk (Kd.R_below (rx HO877.out) hb); have n2_ := Aside0.mk (Kd.R_below (rx HO883.out) hb); have n3_ := Aside0.mk (Kd.R_below (rx HO887.out) hb); have n4_ := Aside0.mk (Kd.R_below (rx HO890.out) hb); have n5_ := Aside0.mk (Kd.R_below (rx HO896.out) hb); have n6_ := up BK884 hb; have n7_ := bs HB hb; have n8_ := Aside0.mk (hbox); have n9_ := Aside0.mk ((by rw [hg]; exact (below_size (bw HB.out)) : w.heap.size ≤ gb897)); have n10_ := Aside0.mk ((by rw [hg]; exact (below_size (bw HB.out)) : w.heap.size ≤ gb897)); have n11_ := Aside0.mk ((by rw [hg]; exact Nat.ne_of_lt (blk_lt (g := gb884) (o := .cells #[.string t878, .int .i64 t879, .int .i64 t880] 31 (0, 0)) (bx BK884.out)) : gb884 ≠ gb897)); have n12_ := Aside0.mk ((by rw [hg]; exact Nat.ne_of_gt (blk_lt (g := gb884) (o := .cells #[.string t878, .int .i64 t879, .int .i64 t880] 31 (0, 0)) (bx BK884.out)) : gb897 ≠ gb884)); clear HO874; clear HO877; clear HO883; clear HO887; clear HO890; clear HO896; clear BK884; clear HB; have HO874 := n0_; have HO877 := n1_; have HO883 := n2_; have HO887 := n3_; have HO890 := n4_; have HO896 := n5_; have BK884 := n6_; have HB := n7_; have BK897 := n8_; have GW897 := n9_; have GE897 := n10_; have NB884_897 := n11_; have NB897_884 := n12_; clear n0_ n1_ n2_ n3_ n4_ n5_ n6_ n7_ n8_ n9_ n10_ n11_ n12_; clear hb hbox hg; have hnb30 := NB897_884.out; have hnc30 := NB884_897.out; have hcz31_0 := b0 BK897; have hcz31_1 := b1 BK897; have hcz31_2 := b2 BK897; have hfz31_0 := fz BK897 0; have hfz31_1 := fz BK897 1; have hfz31_2 := fz BK897 2))
      (try simp only [Act.put, List.setIfInBounds_toArray, List.set_cons_zero, List.set_cons_succ])
      go_cut [54] (fun v54 wc => ∃ (kq : Nat) (x54_14 : Bool), v54 = .bool x54_14 ∧ Aside0 (laws_FnExactRecRun.j0 kq l0 l1 t881 t885 t888 t894 x54_14 t878 t879 t880 t891 t892 t893 = some r) ∧ Aside0 (kq ≤ k) ∧ Aside0 (Kd.R Kd.string 9 wc w.heap.size (fun k_ => some k_ ≠ (v895 : Value).ownBlock) v882 t881) ∧ Aside0 (Kd.R k39 39 wc w.heap.size (fun _ => True) (.slice Ao26 t885.length co26) t885) ∧ Aside0 (Kd.R k43 43 wc w.heap.size (fun _ => True) (.slice Ao27 t888.length co27) t888) ∧ Aside0 (Kd.R Kd.string 9 wc w.heap.size (fun k_ => some k_ ≠ (v882 : Value).ownBlock) v895 t894) ∧ Aside0 (wc.heap[gb884]? = some (.cells #[.string t878, .int .i64 t879, .int .i64 t880] 31 (0, 0))) ∧ Aside0 (wc.heap[gb897]? = some (.cells #[.string t891, .int .i64 t892, .int .i64 t893] 31 (0, 0))) ∧ Aside0 (Below w.heap.size w wc))
      case first =>
        have H := HC15.out
        clear HC15
        replace H := Option.bind_eq_some_iff.mp H
        obtain ⟨t898, A320, H⟩ := H
        replace H : (if t898 = true then ((laws_eqStringS.f k t894 t881).bind fun t899 => (laws_FnExactRecRun.j0 k l0 l1 t881 t885 t888 t894 (!t899) t878 t879 t880 t891 t892 t893)) else (laws_FnExactRecRun.j0 k l0 l1 t881 t885 t888 t894 true t878 t879 t880 t891 t892 t893)) = some r := H
        have A32 := Aside0.mk A320
        clear A320
        by_cases c33 : t898 = true
        · subst c33
          have H1 : ((laws_eqStringS.f k t894 t881).bind fun t899 => (laws_FnExactRecRun.j0 k l0 l1 t881 t885 t888 t894 (!t899) t878 t879 t880 t891 t892 t893)) = some r := by rw [if_pos rfl] at H; exact H
          clear H
          have H := H1
          clear H1
          replace H := Option.bind_eq_some_iff.mp H
          obtain ⟨t899, A340, H⟩ := H
          replace H : (laws_FnExactRecRun.j0 k l0 l1 t881 t885 t888 t894 (!t899) t878 t879 t880 t891 t892 t893) = some r := H
          have A34 := Aside0.mk A340
          clear A340
          have H' := Aside0.mk H
          clear H
          have hnb35 := NB897_884.out
          have hnc35 := NB884_897.out
          have hcz36_0 := b0 BK897
          have hcz36_1 := b1 BK897
          have hcz36_2 := b2 BK897
          have hfz36_0 := fz BK897 0
          have hfz36_1 := fz BK897 1
          have hfz36_2 := fz BK897 2
          have hcz37_0 := b0 BK884
          have hcz37_1 := b1 BK884
          have hcz37_2 := b2 BK884
          have hfz37_0 := fz BK884 0
          have hfz37_1 := fz BK884 1
          have hfz37_2 := fz BK884 2
          go_wp2_with (first | ((with_reducible refine gate_callee (f := 43) rfl ?_); refine goesL_ (some 47) rfl rfl Try.func43 (by kernel_rfl) rfl #[.agg #[.string t891, .int .i64 t892, .int .i64 t893], .agg #[.string t878, .int .i64 t879, .int .i64 t880]] rfl mxp ?_; (with_reducible refine (laws_eqRecState.calls t891 t892 t893 t878 t879 t880 true _ A32.out).mono ?_); rintro e w38 ⟨rfl, hb⟩; refine ⟨_, rfl, ?_⟩; have n0_ := Aside0.mk (Kd.R_below (by refine rx ?_; exact (Kd.R_mono (Kd.R_far (p := ⟨gb897, 2, none⟩) (Kd.R_far (p := ⟨gb897, 1, none⟩) (Kd.R_far (p := ⟨gb897, 0, none⟩) (Kd.R_types HO874.out BK897.out (by decide)) (fun _ hk => hk.2) (.string t891)) (fun _ hk => hk.2) (.int .i64 t892)) (fun _ hk => hk.2) (.int .i64 t893)) (fun _ h_ => h_.1))) hb); have n1_ := Aside0.mk (Kd.R_below (by refine rx ?_; exact (Kd.R_mono (Kd.R_far (p := ⟨gb897, 2, none⟩) (Kd.R_far (p := ⟨gb897, 1, none⟩) (Kd.R_far (p := ⟨gb897, 0, none⟩) (Kd.R_types HO877.out BK897.out (by decide)) (fun _ hk => hk.2) (.string t891)) (fun _ hk => hk.2) (.int .i64 t892)) (fun _ hk => hk.2) (.int .i64 t893)) (fun _ h_ => h_.1))) hb); have n2_ := Aside0.mk (Kd.R_below (by refine rx ?_; exact (Kd.R_mono (Kd.R_far (p := ⟨gb897, 2, none⟩) (Kd.R_far (p := ⟨gb897, 1, none⟩) (Kd.R_far (p := ⟨gb897, 0, none⟩) (Kd.R_types HO883.out BK897.out (by decide)) (fun _ hk => hk.2) (.string t891)) (fun _ hk => hk.2) (.int .i64 t892)) (fun _ hk => hk.2) (.int .i64 t893)) (fun _ h_ => h_.1))) hb); have n3_ := Aside0.mk (Kd.R_below (by refine rx ?_; exact (Kd.R_mono (Kd.R_far (p := ⟨gb897, 2, none⟩) (Kd.R_far (p := ⟨gb897, 1, none⟩) (Kd.R_far (p := ⟨gb897, 0, none⟩) (Kd.R_types HO887.out BK897.out (by decide)) (fun _ hk => hk.2) (.string t891)) (fun _ hk => hk.2) (.int .i64 t892)) (fun _ hk => hk.2) (.int .i64 t893)) (fun _ h_ => h_.1))) hb); have n4_ := Aside0.mk (Kd.R_below (by refine rx ?_; exact (Kd.R_mono (Kd.R_far (p := ⟨gb897, 2, none⟩) (Kd.R_far (p := ⟨gb897, 1, none⟩) (Kd.R_far (p := ⟨gb897, 0, none⟩) (Kd.R_types HO890.out BK897.out (by decide)) (fun _ hk => hk.2) (.string t891)) (fun _ hk => hk.2) (.int .i64 t892)) (fun _ hk => hk.2) (.int .i64 t893)) (fun _ h_ => h_.1))) hb); have n5_ := Aside0.mk (Kd.R_below (by refine rx ?_; exact (Kd.R_mono (Kd.R_far (p := ⟨gb897, 2, none⟩) (Kd.R_far (p := ⟨gb897, 1, none⟩) (Kd.R_far (p := ⟨gb897, 0, none⟩) (Kd.R_types HO896.out BK897.out (by decide)) (fun _ hk => hk.2) (.string t891)) (fun _ hk => hk.2) (.int .i64 t892)) (fun _ hk => hk.2) (.int .i64 t893)) (fun _ h_ => h_.1))) hb); have n6_ := Aside0.mk (blk_below (g := gb884) (o := .cells #[.string t878, .int .i64 t879, .int .i64 t880] 31 (0, 0)) (by refine bx ?_; refine blk_far ?_ NB884_897.out _; refine bx ?_; refine blk_far ?_ NB884_897.out _; refine bx ?_; refine blk_far ?_ NB884_897.out _; refine bx ?_; exact BK884.out) hb); have n7_ := Aside0.mk (blk_below (g := gb897) (o := .cells #[.string t891, .int .i64 t892, .int .i64 t893] 31 (0, 0)) (by refine bx ?_; refine blk_put (cs := #[.string t891, .int .i64 t892, .int .i64 0]) ?_ 2 _ rfl; refine bx ?_; refine blk_put (cs := #[.string t891, .int .i64 0, .int .i64 0]) ?_ 1 _ rfl; refine bx ?_; refine blk_put (cs := #[.string (⟨#[]⟩ : ByteArray), .int .i64 0, .int .i64 0]) ?_ 0 _ rfl; refine bx ?_; exact BK897.out) hb); have n8_ := bs HB hb; clear HO874; clear HO877; clear HO883; clear HO887; clear HO890; clear HO896; clear BK884; clear BK897; clear HB; have HO874 := n0_; have HO877 := n1_; have HO883 := n2_; have HO887 := n3_; have HO890 := n4_; have HO896 := n5_; have BK884 := n6_; have BK897 := n7_; have HB := n8_; clear n0_ n1_ n2_ n3_ n4_ n5_ n6_ n7_ n8_; (try clear hb); (try clear hb2); (try clear hk); (try clear hi); obtain ⟨Ao39, co39, eo39⟩ := Kd.R_slice HO896.out; subst eo39; obtain ⟨Ao40, co40, eo40⟩ := Kd.R_slice HO883.out; subst eo40) | (go_at_call 53; (with_reducible refine (laws_eqStringS.calls k _ _ t894 _ _ t881 t899 _ ?side1 ?side2 ?side3 ?side4 A34.out).mono ?_); (case side1 => repeat (first | exact (Kd.R_reads' HO896.out).2.2 | (with_reducible refine Kd.C_alloc ?_ _) | (with_reducible refine Kd.C_drewN ?_ _) | (with_reducible refine Kd.C_drew ?_))); (case side2 => exact (Kd.R_reads' HO896.out).2.1); (case side3 => repeat (first | exact (Kd.R_reads' HO883.out).2.2 | (with_reducible refine Kd.C_alloc ?_ _) | (with_reducible refine Kd.C_drewN ?_ _) | (with_reducible refine Kd.C_drew ?_))); (case side4 => exact (Kd.R_reads' HO883.out).2.1); rintro e w' ⟨rfl, ⟨nd, rfl⟩⟩))
          go_meet
          case rel => exact ⟨_, (!t899), (by first | rfl | (simp; done) | (simp [*]; done)), H', ⟨by first | omega | exact Nat.le_refl _⟩, ⟨by refine rx ?_; exact Kd.R_mono HO883.out (fun _ hk => hk.2)⟩, ⟨by refine rx ?_; exact Kd.R_mono HO887.out (fun _ hk => trivial)⟩, ⟨by refine rx ?_; exact Kd.R_mono HO890.out (fun _ hk => trivial)⟩, ⟨by refine rx ?_; exact Kd.R_mono HO896.out (fun _ hk => hk.2)⟩, (bk BK884), (bk BK897), (hbw HB)⟩
        · replace c33 := Bool.eq_false_iff.mpr c33
          subst c33
          have H1 : (laws_FnExactRecRun.j0 k l0 l1 t881 t885 t888 t894 true t878 t879 t880 t891 t892 t893) = some r := by rw [if_neg (show ¬ (false = true) by decide)] at H; exact H
          clear H
          have H := H1
          clear H1
          have H' := Aside0.mk H
          clear H
          have hnb41 := NB897_884.out
          have hnc41 := NB884_897.out
          have hcz42_0 := b0 BK897
          have hcz42_1 := b1 BK897
          have hcz42_2 := b2 BK897
          have hfz42_0 := fz BK897 0
          have hfz42_1 := fz BK897 1
          have hfz42_2 := fz BK897 2
          have hcz43_0 := b0 BK884
          have hcz43_1 := b1 BK884
          have hcz43_2 := b2 BK884
          have hfz43_0 := fz BK884 0
          have hfz43_1 := fz BK884 1
          have hfz43_2 := fz BK884 2
          go_wp2_with (first | ((with_reducible refine gate_callee (f := 43) rfl ?_); refine goesL_ (some 47) rfl rfl Try.func43 (by kernel_rfl) rfl #[.agg #[.string t891, .int .i64 t892, .int .i64 t893], .agg #[.string t878, .int .i64 t879, .int .i64 t880]] rfl mxp ?_; (with_reducible refine (laws_eqRecState.calls t891 t892 t893 t878 t879 t880 false _ A32.out).mono ?_); rintro e w44 ⟨rfl, hb⟩; refine ⟨_, rfl, ?_⟩; have n0_ := Aside0.mk (Kd.R_below (by refine rx ?_; exact (Kd.R_mono (Kd.R_far (p := ⟨gb897, 2, none⟩) (Kd.R_far (p := ⟨gb897, 1, none⟩) (Kd.R_far (p := ⟨gb897, 0, none⟩) (Kd.R_types HO874.out BK897.out (by decide)) (fun _ hk => hk.2) (.string t891)) (fun _ hk => hk.2) (.int .i64 t892)) (fun _ hk => hk.2) (.int .i64 t893)) (fun _ h_ => h_.1))) hb); have n1_ := Aside0.mk (Kd.R_below (by refine rx ?_; exact (Kd.R_mono (Kd.R_far (p := ⟨gb897, 2, none⟩) (Kd.R_far (p := ⟨gb897, 1, none⟩) (Kd.R_far (p := ⟨gb897, 0, none⟩) (Kd.R_types HO877.out BK897.out (by decide)) (fun _ hk => hk.2) (.string t891)) (fun _ hk => hk.2) (.int .i64 t892)) (fun _ hk => hk.2) (.int .i64 t893)) (fun _ h_ => h_.1))) hb); have n2_ := Aside0.mk (Kd.R_below (by refine rx ?_; exact (Kd.R_mono (Kd.R_far (p := ⟨gb897, 2, none⟩) (Kd.R_far (p := ⟨gb897, 1, none⟩) (Kd.R_far (p := ⟨gb897, 0, none⟩) (Kd.R_types HO883.out BK897.out (by decide)) (fun _ hk => hk.2) (.string t891)) (fun _ hk => hk.2) (.int .i64 t892)) (fun _ hk => hk.2) (.int .i64 t893)) (fun _ h_ => h_.1))) hb); have n3_ := Aside0.mk (Kd.R_below (by refine rx ?_; exact (Kd.R_mono (Kd.R_far (p := ⟨gb897, 2, none⟩) (Kd.R_far (p := ⟨gb897, 1, none⟩) (Kd.R_far (p := ⟨gb897, 0, none⟩) (Kd.R_types HO887.out BK897.out (by decide)) (fun _ hk => hk.2) (.string t891)) (fun _ hk => hk.2) (.int .i64 t892)) (fun _ hk => hk.2) (.int .i64 t893)) (fun _ h_ => h_.1))) hb); have n4_ := Aside0.mk (Kd.R_below (by refine rx ?_; exact (Kd.R_mono (Kd.R_far (p := ⟨gb897, 2, none⟩) (Kd.R_far (p := ⟨gb897, 1, none⟩) (Kd.R_far (p := ⟨gb897, 0, none⟩) (Kd.R_types HO890.out BK897.out (by decide)) (fun _ hk => hk.2) (.string t891)) (fun _ hk => hk.2) (.int .i64 t892)) (fun _ hk => hk.2) (.int .i64 t893)) (fun _ h_ => h_.1))) hb); have n5_ := Aside0.mk (Kd.R_below (by refine rx ?_; exact (Kd.R_mono (Kd.R_far (p := ⟨gb897, 2, none⟩) (Kd.R_far (p := ⟨gb897, 1, none⟩) (Kd.R_far (p := ⟨gb897, 0, none⟩) (Kd.R_types HO896.out BK897.out (by decide)) (fun _ hk => hk.2) (.string t891)) (fun _ hk => hk.2) (.int .i64 t892)) (fun _ hk => hk.2) (.int .i64 t893)) (fun _ h_ => h_.1))) hb); have n6_ := Aside0.mk (blk_below (g := gb884) (o := .cells #[.string t878, .int .i64 t879, .int .i64 t880] 31 (0, 0)) (by refine bx ?_; refine blk_far ?_ NB884_897.out _; refine bx ?_; refine blk_far ?_ NB884_897.out _; refine bx ?_; refine blk_far ?_ NB884_897.out _; refine bx ?_; exact BK884.out) hb); have n7_ := Aside0.mk (blk_below (g := gb897) (o := .cells #[.string t891, .int .i64 t892, .int .i64 t893] 31 (0, 0)) (by refine bx ?_; refine blk_put (cs := #[.string t891, .int .i64 t892, .int .i64 0]) ?_ 2 _ rfl; refine bx ?_; refine blk_put (cs := #[.string t891, .int .i64 0, .int .i64 0]) ?_ 1 _ rfl; refine bx ?_; refine blk_put (cs := #[.string (⟨#[]⟩ : ByteArray), .int .i64 0, .int .i64 0]) ?_ 0 _ rfl; refine bx ?_; exact BK897.out) hb); have n8_ := bs HB hb; clear HO874; clear HO877; clear HO883; clear HO887; clear HO890; clear HO896; clear BK884; clear BK897; clear HB; have HO874 := n0_; have HO877 := n1_; have HO883 := n2_; have HO887 := n3_; have HO890 := n4_; have HO896 := n5_; have BK884 := n6_; have BK897 := n7_; have HB := n8_; clear n0_ n1_ n2_ n3_ n4_ n5_ n6_ n7_ n8_; (try clear hb); (try clear hb2); (try clear hk); (try clear hi)))
          go_meet
          case rel => exact ⟨_, (true), (by first | rfl | (simp; done) | (simp [*]; done)), H', ⟨by first | omega | exact Nat.le_refl _⟩, ⟨by refine rx ?_; exact Kd.R_mono HO883.out (fun _ hk => hk.2)⟩, ⟨by refine rx ?_; exact Kd.R_mono HO887.out (fun _ hk => trivial)⟩, ⟨by refine rx ?_; exact Kd.R_mono HO890.out (fun _ hk => trivial)⟩, ⟨by refine rx ?_; exact Kd.R_mono HO896.out (fun _ hk => hk.2)⟩, (bk BK884), (bk BK897), (hbw HB)⟩
      case rest =>
        clear HC15
        try clear c1
        try clear c2
        try clear p2
        try clear c3
        try clear c4
        try clear c4b0
        try clear c5
        try clear c7
        try clear c7b0
        try clear c15
        try clear c21
        try clear c22
        try clear c30
        try clear c33
        try clear c35
        try clear c37
        try clear c38
        try clear c41
        try clear c43
        try clear hcz23_0
        try clear hcz23_1
        try clear hcz23_2
        try clear hcz31_0
        try clear hcz31_1
        try clear hcz31_2
        try clear hcz36_0
        try clear hcz36_1
        try clear hcz36_2
        try clear hcz37_0
        try clear hcz37_1
        try clear hcz37_2
        try clear hcz42_0
        try clear hcz42_1
        try clear hcz42_2
        try clear hcz43_0
        try clear hcz43_1
        try clear hcz43_2
        try clear hfz23_0
        try clear hfz23_1
        try clear hfz23_2
        try clear hfz31_0
        try clear hfz31_1
        try clear hfz31_2
        try clear hfz36_0
        try clear hfz36_1
        try clear hfz36_2
        try clear hfz37_0
        try clear hfz37_1
        try clear hfz37_2
        try clear hfz42_0
        try clear hfz42_1
        try clear hfz42_2
        try clear hfz43_0
        try clear hfz43_1
        try clear hfz43_2
        obtain ⟨kq, x54_14, rfl, HA, HJ14, HO_7, HO_8, HO_9, HO_11, BK884, BK897, HB⟩ := hcut
        cases kq with
        | zero => exact absurd HA.out (by simp [laws_FnExactRecRun.j0])
        | succ kj14 =>
          have H := HA.out
          clear HA
          simp only [laws_FnExactRecRun.j0] at H
          by_cases c45 : x54_14 = true
          · subst c45
            have H1 : (some false) = some r := by rw [if_pos rfl] at H; exact H
            clear H
            have H := H1
            clear H1
            obtain rfl := Option.some.inj H
            go_wp2
            go_ret
            exact ⟨exq, bw HB.out⟩
          · replace c45 := Bool.eq_false_iff.mpr c45
            subst c45
            have H1 : ((laws_toRecPhaseS.f kj14 l0).bind fun t900 => ((laws_eqRecPhaseS.f kj14 t885 t900).bind fun t903 => (if t903 = true then ((laws_toRecSayS.f kj14 l1).bind fun t904 => ((laws_eqRecSayS.f kj14 t888 t904).bind fun t907 => (if t907 = true then ((laws_markRecPhaseS.f kj14 t885 1).bind fun bt908 => ((laws_markRecSayS.f kj14 t888 bt908.1).bind fun bt910 => (if bt910.1 < 0 then (laws_FnExactRecRun.j1 kj14 l0 l1 t881 t894 true t878 t879 t880) else ((laws_eqRecState.f t891 t892 t893 t878 t879 t880).bind fun t912 => (if t912 = true then ((laws_eqStringS.f kj14 t894 t881).bind fun t913 => (laws_FnExactRecRun.j1 kj14 l0 l1 t881 t894 (!t913) t878 t879 t880)) else (laws_FnExactRecRun.j1 kj14 l0 l1 t881 t894 true t878 t879 t880)))))) else (some false)))) else (some false)))) = some r := by rw [if_neg (show ¬ (false = true) by decide)] at H; exact H
            clear H
            have H := H1
            clear H1
            replace H := Option.bind_eq_some_iff.mp H
            obtain ⟨t900, A460, H⟩ := H
            replace H : ((laws_eqRecPhaseS.f kj14 t885 t900).bind fun t903 => (if t903 = true then ((laws_toRecSayS.f kj14 l1).bind fun t904 => ((laws_eqRecSayS.f kj14 t888 t904).bind fun t907 => (if t907 = true then ((laws_markRecPhaseS.f kj14 t885 1).bind fun bt908 => ((laws_markRecSayS.f kj14 t888 bt908.1).bind fun bt910 => (if bt910.1 < 0 then (laws_FnExactRecRun.j1 kj14 l0 l1 t881 t894 true t878 t879 t880) else ((laws_eqRecState.f t891 t892 t893 t878 t879 t880).bind fun t912 => (if t912 = true then ((laws_eqStringS.f kj14 t894 t881).bind fun t913 => (laws_FnExactRecRun.j1 kj14 l0 l1 t881 t894 (!t913) t878 t879 t880)) else (laws_FnExactRecRun.j1 kj14 l0 l1 t881 t894 true t878 t879 t880)))))) else (some false)))) else (some false))) = some r := H
            have A46 := Aside0.mk A460
            clear A460
            replace H := Option.bind_eq_some_iff.mp H
            obtain ⟨t903, A470, H⟩ := H
            replace H : (if t903 = true then ((laws_toRecSayS.f kj14 l1).bind fun t904 => ((laws_eqRecSayS.f kj14 t888 t904).bind fun t907 => (if t907 = true then ((laws_markRecPhaseS.f kj14 t885 1).bind fun bt908 => ((laws_markRecSayS.f kj14 t888 bt908.1).bind fun bt910 => (if bt910.1 < 0 then (laws_FnExactRecRun.j1 kj14 l0 l1 t881 t894 true t878 t879 t880) else ((laws_eqRecState.f t891 t892 t893 t878 t879 t880).bind fun t912 => (if t912 = true then ((laws_eqStringS.f kj14 t894 t881).bind fun t913 => (laws_FnExactRecRun.j1 kj14 l0 l1 t881 t894 (!t913) t878 t879 t880)) else (laws_FnExactRecRun.j1 kj14 l0 l1 t881 t894 true t878 t879 t880)))))) else (some false)))) else (some false)) = some r := H
            have A47 := Aside0.mk A470
            clear A470
            by_cases c48 : t903 = true
            · subst c48
              have H1 : ((laws_toRecSayS.f kj14 l1).bind fun t904 => ((laws_eqRecSayS.f kj14 t888 t904).bind fun t907 => (if t907 = true then ((laws_markRecPhaseS.f kj14 t885 1).bind fun bt908 => ((laws_markRecSayS.f kj14 t888 bt908.1).bind fun bt910 => (if bt910.1 < 0 then (laws_FnExactRecRun.j1 kj14 l0 l1 t881 t894 true t878 t879 t880) else ((laws_eqRecState.f t891 t892 t893 t878 t879 t880).bind fun t912 => (if t912 = true then ((laws_eqStringS.f kj14 t894 t881).bind fun t913 => (laws_FnExactRecRun.j1 kj14 l0 l1 t881 t894 (!t913) t878 t879 t880)) else (laws_FnExactRecRun.j1 kj14 l0 l1 t881 t894 true t878 t879 t880)))))) else (some false)))) = some r := by rw [if_pos rfl] at H; exact H
              clear H
              have H := H1
              clear H1
              replace H := Option.bind_eq_some_iff.mp H
              obtain ⟨t904, A490, H⟩ := H
              replace H : ((laws_eqRecSayS.f kj14 t888 t904).bind fun t907 => (if t907 = true then ((laws_markRecPhaseS.f kj14 t885 1).bind fun bt908 => ((laws_markRecSayS.f kj14 t888 bt908.1).bind fun bt910 => (if bt910.1 < 0 then (laws_FnExactRecRun.j1 kj14 l0 l1 t881 t894 true t878 t879 t880) else ((laws_eqRecState.f t891 t892 t893 t878 t879 t880).bind fun t912 => (if t912 = true then ((laws_eqStringS.f kj14 t894 t881).bind fun t913 => (laws_FnExactRecRun.j1 kj14 l0 l1 t881 t894 (!t913) t878 t879 t880)) else (laws_FnExactRecRun.j1 kj14 l0 l1 t881 t894 true t878 t879 t880)))))) else (some false))) = some r := H
              have A49 := Aside0.mk A490
              clear A490
              replace H := Option.bind_eq_some_iff.mp H
              obtain ⟨t907, A500, H⟩ := H
              replace H : (if t907 = true then ((laws_markRecPhaseS.f kj14 t885 1).bind fun bt908 => ((laws_markRecSayS.f kj14 t888 bt908.1).bind fun bt910 => (if bt910.1 < 0 then (laws_FnExactRecRun.j1 kj14 l0 l1 t881 t894 true t878 t879 t880) else ((laws_eqRecState.f t891 t892 t893 t878 t879 t880).bind fun t912 => (if t912 = true then ((laws_eqStringS.f kj14 t894 t881).bind fun t913 => (laws_FnExactRecRun.j1 kj14 l0 l1 t881 t894 (!t913) t878 t879 t880)) else (laws_FnExactRecRun.j1 kj14 l0 l1 t881 t894 true t878 t879 t880)))))) else (some false)) = some r := H
              have A50 := Aside0.mk A500
              clear A500
              by_cases c51 : t907 = true
              · subst c51
                have H1 : ((laws_markRecPhaseS.f kj14 t885 1).bind fun bt908 => ((laws_markRecSayS.f kj14 t888 bt908.1).bind fun bt910 => (if bt910.1 < 0 then (laws_FnExactRecRun.j1 kj14 l0 l1 t881 t894 true t878 t879 t880) else ((laws_eqRecState.f t891 t892 t893 t878 t879 t880).bind fun t912 => (if t912 = true then ((laws_eqStringS.f kj14 t894 t881).bind fun t913 => (laws_FnExactRecRun.j1 kj14 l0 l1 t881 t894 (!t913) t878 t879 t880)) else (laws_FnExactRecRun.j1 kj14 l0 l1 t881 t894 true t878 t879 t880)))))) = some r := by rw [if_pos rfl] at H; exact H
                clear H
                have H := H1
                clear H1
                replace H := Option.bind_eq_some_iff.mp H
                obtain ⟨⟨t908, t909⟩, A520, H⟩ := H
                replace H : ((laws_markRecSayS.f kj14 t888 t908).bind fun bt910 => (if bt910.1 < 0 then (laws_FnExactRecRun.j1 kj14 l0 l1 t881 t894 true t878 t879 t880) else ((laws_eqRecState.f t891 t892 t893 t878 t879 t880).bind fun t912 => (if t912 = true then ((laws_eqStringS.f kj14 t894 t881).bind fun t913 => (laws_FnExactRecRun.j1 kj14 l0 l1 t881 t894 (!t913) t878 t879 t880)) else (laws_FnExactRecRun.j1 kj14 l0 l1 t881 t894 true t878 t879 t880))))) = some r := H
                have A52 := Aside0.mk A520
                clear A520
                replace H := Option.bind_eq_some_iff.mp H
                obtain ⟨⟨t910, t911⟩, A530, H⟩ := H
                replace H : (if t910 < 0 then (laws_FnExactRecRun.j1 kj14 l0 l1 t881 t894 true t878 t879 t880) else ((laws_eqRecState.f t891 t892 t893 t878 t879 t880).bind fun t912 => (if t912 = true then ((laws_eqStringS.f kj14 t894 t881).bind fun t913 => (laws_FnExactRecRun.j1 kj14 l0 l1 t881 t894 (!t913) t878 t879 t880)) else (laws_FnExactRecRun.j1 kj14 l0 l1 t881 t894 true t878 t879 t880)))) = some r := H
                have A53 := Aside0.mk A530
                clear A530
                have HC54 := Aside0.mk H
                clear H
                go_upto_region 21 with (first | ((with_reducible refine gate_callee (f := 38) rfl ?_); refine goesL_ (some 57) rfl rfl Try.func38 (by kernel_rfl) rfl #[.slice A0 l0.length c0] rfl mxp ?_; (with_reducible refine (laws_toRecPhaseS.calls kj14 _ _ l0 t900 _ ?side1 ?side2 A46.out).mono ?_); (case side1 => exact cx (Kd.C_below HR0.out HB.out)); (case side2 => exact HC0.out); rintro e w55 ⟨v901, rfl, ho0, hb⟩; refine ⟨_, rfl, ?_⟩; have n0_ := Aside0.mk (Kd.R_below (rx HO_7.out) hb); have n1_ := Aside0.mk (Kd.R_elder' (rx HO_8.out) (Kd.R_base ho0) hb); have n2_ := Aside0.mk (Kd.R_below (rx HO_9.out) hb); have n3_ := Aside0.mk (Kd.R_below (rx HO_11.out) hb); have n4_ := Aside0.mk (Kd.R_lower (Kd.R_new' ho0 (Kd.R_lt (rx HO_8.out))) (below_size (bw HB.out))); have n5_ := up BK884 hb; have n6_ := up BK897 hb; have n7_ := bs HB hb; clear HO_7; clear HO_8; clear HO_9; clear HO_11; clear BK884; clear BK897; clear HB; have HO_7 := n0_; have HO_8 := n1_; have HO_9 := n2_; have HO_11 := n3_; have HO902 := n4_; have BK884 := n5_; have BK897 := n6_; have HB := n7_; clear n0_ n1_ n2_ n3_ n4_ n5_ n6_ n7_; (try clear hb); (try clear hb2); (try clear hk); (try clear hi); (try clear ho0); obtain ⟨Ao56, co56, eo56⟩ := Kd.R_slice HO902.out; subst eo56) | ((with_reducible refine gate_callee (f := 39) rfl ?_); refine goesL_ (some 58) rfl rfl Try.func39 (by kernel_rfl) rfl #[.slice Ao26 t885.length co26, .slice Ao56 t900.length co56] rfl mxp ?_; (with_reducible refine (laws_eqRecPhaseS.calls kj14 _ _ t885 _ _ t900 true _ ?side1 ?side2 ?side3 ?side4 A47.out).mono ?_); (case side1 => repeat (first | exact (Kd.R_reads' HO_8.out).2.2 | (with_reducible refine Kd.C_alloc ?_ _) | (with_reducible refine Kd.C_drewN ?_ _) | (with_reducible refine Kd.C_drew ?_))); (case side2 => exact (Kd.R_reads' HO_8.out).2.1); (case side3 => repeat (first | exact (Kd.R_reads' HO902.out).2.2 | (with_reducible refine Kd.C_alloc ?_ _) | (with_reducible refine Kd.C_drewN ?_ _) | (with_reducible refine Kd.C_drew ?_))); (case side4 => exact (Kd.R_reads' HO902.out).2.1); rintro e w57 ⟨rfl, hb⟩; refine ⟨_, rfl, ?_⟩; have n0_ := Aside0.mk (Kd.R_below (rx HO_7.out) hb); have n1_ := Aside0.mk (Kd.R_below (rx HO_8.out) hb); have n2_ := Aside0.mk (Kd.R_below (rx HO_9.out) hb); have n3_ := Aside0.mk (Kd.R_below (rx HO_11.out) hb); have n4_ := Aside0.mk (Kd.R_below (rx HO902.out) hb); have n5_ := up BK884 hb; have n6_ := up BK897 hb; have n7_ := bs HB hb; clear HO_7; clear HO_8; clear HO_9; clear HO_11; clear HO902; clear BK884; clear BK897; clear HB; have HO_7 := n0_; have HO_8 := n1_; have HO_9 := n2_; have HO_11 := n3_; have HO902 := n4_; have BK884 := n5_; have BK897 := n6_; have HB := n7_; clear n0_ n1_ n2_ n3_ n4_ n5_ n6_ n7_; (try clear hb); (try clear hb2); (try clear hk); (try clear hi)) | ((with_reducible refine gate_callee (f := 52) rfl ?_); refine goesL_ (some 62) rfl rfl Try.func52 (by kernel_rfl) rfl #[.slice A1 l1.length c1] rfl mxp ?_; (with_reducible refine (laws_toRecSayS.calls kj14 _ _ l1 t904 _ ?side1 ?side2 A49.out).mono ?_); (case side1 => exact cx (Kd.C_below HR1.out HB.out)); (case side2 => exact HC1.out); rintro e w58 ⟨v905, rfl, ho0, hb⟩; refine ⟨_, rfl, ?_⟩; have n0_ := Aside0.mk (Kd.R_below (rx HO_7.out) hb); have n1_ := Aside0.mk (Kd.R_below (rx HO_8.out) hb); have n2_ := Aside0.mk (Kd.R_elder' (rx HO_9.out) (Kd.R_base ho0) hb); have n3_ := Aside0.mk (Kd.R_below (rx HO_11.out) hb); have n4_ := Aside0.mk (Kd.R_below (rx HO902.out) hb); have n5_ := Aside0.mk (Kd.R_lower (Kd.R_new' ho0 (Kd.R_lt (rx HO_9.out))) (below_size (bw HB.out))); have n6_ := up BK884 hb; have n7_ := up BK897 hb; have n8_ := bs HB hb; clear HO_7; clear HO_8; clear HO_9; clear HO_11; clear HO902; clear BK884; clear BK897; clear HB; have HO_7 := n0_; have HO_8 := n1_; have HO_9 := n2_; have HO_11 := n3_; have HO902 := n4_; have HO906 := n5_; have BK884 := n6_; have BK897 := n7_; have HB := n8_; clear n0_ n1_ n2_ n3_ n4_ n5_ n6_ n7_ n8_; (try clear hb); (try clear hb2); (try clear hk); (try clear hi); (try clear ho0); obtain ⟨Ao59, co59, eo59⟩ := Kd.R_slice HO906.out; subst eo59) | ((with_reducible refine gate_callee (f := 54) rfl ?_); refine goesL_ (some 63) rfl rfl Try.func54 (by kernel_rfl) rfl #[.slice Ao27 t888.length co27, .slice Ao59 t904.length co59] rfl mxp ?_; (with_reducible refine (laws_eqRecSayS.calls kj14 _ _ t888 _ _ t904 true _ ?side1 ?side2 ?side3 ?side4 A50.out).mono ?_); (case side1 => repeat (first | exact (Kd.R_reads' HO_9.out).2.2 | (with_reducible refine Kd.C_alloc ?_ _) | (with_reducible refine Kd.C_drewN ?_ _) | (with_reducible refine Kd.C_drew ?_))); (case side2 => exact (Kd.R_reads' HO_9.out).2.1); (case side3 => repeat (first | exact (Kd.R_reads' HO906.out).2.2 | (with_reducible refine Kd.C_alloc ?_ _) | (with_reducible refine Kd.C_drewN ?_ _) | (with_reducible refine Kd.C_drew ?_))); (case side4 => exact (Kd.R_reads' HO906.out).2.1); rintro e w60 ⟨rfl, hb⟩; refine ⟨_, rfl, ?_⟩; have n0_ := Aside0.mk (Kd.R_below (rx HO_7.out) hb); have n1_ := Aside0.mk (Kd.R_below (rx HO_8.out) hb); have n2_ := Aside0.mk (Kd.R_below (rx HO_9.out) hb); have n3_ := Aside0.mk (Kd.R_below (rx HO_11.out) hb); have n4_ := Aside0.mk (Kd.R_below (rx HO902.out) hb); have n5_ := Aside0.mk (Kd.R_below (rx HO906.out) hb); have n6_ := up BK884 hb; have n7_ := up BK897 hb; have n8_ := bs HB hb; clear HO_7; clear HO_8; clear HO_9; clear HO_11; clear HO902; clear HO906; clear BK884; clear BK897; clear HB; have HO_7 := n0_; have HO_8 := n1_; have HO_9 := n2_; have HO_11 := n3_; have HO902 := n4_; have HO906 := n5_; have BK884 := n6_; have BK897 := n7_; have HB := n8_; clear n0_ n1_ n2_ n3_ n4_ n5_ n6_ n7_ n8_; (try clear hb); (try clear hb2); (try clear hk); (try clear hi)) | ((with_reducible refine gate_callee (f := 55) rfl ?_); refine goesL_ (some 67) rfl rfl Try.func55 (by kernel_rfl) rfl #[.slice Ao26 t885.length co26, .int .i64 1] rfl mxp ?_; (with_reducible refine (laws_markRecPhaseS.calls kj14 (fun k_ => some k_ = (.slice Ao26 t885.length co26 : Value).ownBlock) (.slice Ao26 t885.length co26) t885 1 t908 t909 w _ ?side1 ?side2 A52.out).mono ?_); (case side1 => repeat (first | (with_reducible first | exact HB.out | apply below_alloc | apply pw_below_drewN | apply below_drew1 | refine below_set ?_ GE884.out | refine below_set ?_ GE897.out) | exact HB.out)); (case side2 => exact Kd.R_tight rfl HO_8.out); rintro e w61 ⟨rfl, hy0, hb, hkp⟩; refine ⟨_, rfl, ?_⟩; have n0_ := Aside0.mk (Kd.R_mono (ok' := fun k_ => some k_ ≠ (v895 : Value).ownBlock) (Kd.R_keptB ((Kd.R_apart' HO_7.out (Kd.R_typed HO_8.out) (by decide))) hkp (fun k_ hk_ hs_ => (hk_.2) hs_)) (fun k_ hk_ => hk_.1.1)); have n1_ := Aside0.mk (Kd.R_reok rfl hy0 (fun k_ e_ => HO_8.out.1 k_ e_)); have n2_ := Aside0.mk (Kd.R_mono (ok' := fun k_ => some k_ ≠ (.slice Ao59 t904.length co59 : Value).ownBlock) (Kd.R_keptB ((Kd.R_apart' HO_9.out (Kd.R_typed HO_8.out) (by decide))) hkp (fun k_ hk_ hs_ => (hk_.2) hs_)) (fun k_ hk_ => hk_.1.1.2)); have n3_ := Aside0.mk (Kd.R_mono (ok' := fun k_ => some k_ ≠ (v882 : Value).ownBlock) (Kd.R_keptB ((Kd.R_apart' HO_11.out (Kd.R_typed HO_8.out) (by decide))) hkp (fun k_ hk_ hs_ => (hk_.2) hs_)) (fun k_ hk_ => hk_.1.1)); have n4_ := Aside0.mk (blk_kept (bx BK884.out) hkp (fun hs_ => (fun e_ => (Kd.R_ne HO_8.out BK884.out (by decide)) e_) hs_)); have n5_ := Aside0.mk (blk_kept (bx BK897.out) hkp (fun hs_ => (fun e_ => (Kd.R_ne HO_8.out BK897.out (by decide)) e_) hs_)); have n6_ := Aside0.mk (Kd.R_mono (ok' := fun k_ => some k_ ≠ (.slice Ao26 t885.length co26 : Value).ownBlock) (Kd.R_keptB (HO902.out) hkp (fun k_ hk_ hs_ => (hk_.2) hs_)) (fun k_ hk_ => hk_.1.2)); have n7_ := Aside0.mk (Kd.R_mono (ok' := fun k_ => some k_ ≠ (.slice Ao27 t888.length co27 : Value).ownBlock) (Kd.R_keptB ((Kd.R_apart' HO906.out (Kd.R_typed HO_8.out) (by decide))) hkp (fun k_ hk_ hs_ => (hk_.2) hs_)) (fun k_ hk_ => hk_.1.1.2)); have n8_ := Aside0.mk (hb); clear HO_7; clear HO_8; clear HO_9; clear HO_11; clear BK884; clear BK897; clear HO902; clear HO906; clear HB; have HO_7 := n0_; have HO_8 := n1_; have HO_9 := n2_; have HO_11 := n3_; have BK884 := n4_; have BK897 := n5_; have HO902 := n6_; have HO906 := n7_; have HB := n8_; clear n0_ n1_ n2_ n3_ n4_ n5_ n6_ n7_ n8_; (try clear hb); (try clear hkp); (try clear hy0)) | ((with_reducible refine gate_callee (f := 56) rfl ?_); refine goesL_ (some 70) rfl rfl Try.func56 (by kernel_rfl) rfl #[.slice Ao27 t888.length co27, .int .i64 t908] rfl mxp ?_; (with_reducible refine (laws_markRecSayS.calls kj14 (fun k_ => some k_ = (.slice Ao27 t888.length co27 : Value).ownBlock) (.slice Ao27 t888.length co27) t888 t908 t910 t911 w _ ?side1 ?side2 A53.out).mono ?_); (case side1 => repeat (first | (with_reducible first | exact HB.out | apply below_alloc | apply pw_below_drewN | apply below_drew1 | refine below_set ?_ GE884.out | refine below_set ?_ GE897.out) | exact HB.out)); (case side2 => exact Kd.R_tight rfl HO_9.out); rintro e w62 ⟨rfl, hy0, hb, hkp⟩; refine ⟨_, rfl, ?_⟩; have n0_ := Aside0.mk (Kd.R_mono (ok' := fun k_ => some k_ ≠ (v895 : Value).ownBlock) (Kd.R_keptB ((Kd.R_apart' HO_7.out (Kd.R_typed HO_9.out) (by decide))) hkp (fun k_ hk_ hs_ => (hk_.2) hs_)) (fun k_ hk_ => hk_.1.1)); have n1_ := Aside0.mk (Kd.R_mono (ok' := fun k_ => some k_ ≠ (.slice Ao56 t900.length co56 : Value).ownBlock) (Kd.R_keptB ((Kd.R_apart' HO_8.out (Kd.R_typed HO_9.out) (by decide))) hkp (fun k_ hk_ hs_ => (hk_.2) hs_)) (fun k_ hk_ => hk_.1.1.2)); have n2_ := Aside0.mk (Kd.R_reok rfl hy0 (fun k_ e_ => HO_9.out.1 k_ e_)); have n3_ := Aside0.mk (Kd.R_mono (ok' := fun k_ => some k_ ≠ (v882 : Value).ownBlock) (Kd.R_keptB ((Kd.R_apart' HO_11.out (Kd.R_typed HO_9.out) (by decide))) hkp (fun k_ hk_ hs_ => (hk_.2) hs_)) (fun k_ hk_ => hk_.1.1)); have n4_ := Aside0.mk (blk_kept (bx BK884.out) hkp (fun hs_ => (fun e_ => (Kd.R_ne HO_9.out BK884.out (by decide)) e_) hs_)); have n5_ := Aside0.mk (blk_kept (bx BK897.out) hkp (fun hs_ => (fun e_ => (Kd.R_ne HO_9.out BK897.out (by decide)) e_) hs_)); have n6_ := Aside0.mk (Kd.R_mono (ok' := fun k_ => some k_ ≠ (.slice Ao26 t885.length co26 : Value).ownBlock) (Kd.R_keptB ((Kd.R_apart' HO902.out (Kd.R_typed HO_9.out) (by decide))) hkp (fun k_ hk_ hs_ => (hk_.2) hs_)) (fun k_ hk_ => hk_.1.1)); have n7_ := Aside0.mk (Kd.R_mono (ok' := fun k_ => some k_ ≠ (.slice Ao27 t888.length co27 : Value).ownBlock) (Kd.R_keptB (HO906.out) hkp (fun k_ hk_ hs_ => (hk_) hs_)) (fun k_ hk_ => hk_.1)); have n8_ := Aside0.mk (hb); clear HO_7; clear HO_8; clear HO_9; clear HO_11; clear BK884; clear BK897; clear HO902; clear HO906; clear HB; have HO_7 := n0_; have HO_8 := n1_; have HO_9 := n2_; have HO_11 := n3_; have BK884 := n4_; have BK897 := n5_; have HO902 := n6_; have HO906 := n7_; have HB := n8_; clear n0_ n1_ n2_ n3_ n4_ n5_ n6_ n7_ n8_; (try clear hb); (try clear hkp); (try clear hy0)))
                (try simp only [Act.put, List.setIfInBounds_toArray, List.set_cons_zero, List.set_cons_succ])
                go_cut [84] (fun v84 wc => ∃ (kq : Nat) (x84_53 : Bool), v84 = .bool x84_53 ∧ Aside0 (laws_FnExactRecRun.j1 kq l0 l1 t881 t894 x84_53 t878 t879 t880 = some r) ∧ Aside0 (kq ≤ kj14) ∧ Aside0 (Kd.R Kd.string 9 wc w.heap.size (fun k_ => some k_ ≠ (v895 : Value).ownBlock) v882 t881) ∧ Aside0 (Kd.R Kd.string 9 wc w.heap.size (fun k_ => some k_ ≠ (v882 : Value).ownBlock) v895 t894) ∧ Aside0 (wc.heap[gb884]? = some (.cells #[.string t878, .int .i64 t879, .int .i64 t880] 31 (0, 0))) ∧ Aside0 (wc.heap[gb897]? = some (.cells #[.string t891, .int .i64 t892, .int .i64 t893] 31 (0, 0))) ∧ Aside0 (Below w.heap.size w wc))
                case first =>
                  have H := HC54.out
                  clear HC54
                  by_cases c63 : t910 < 0
                  · rw [if_pos c63] at H
                    have c63b0 : decide (t910 < 0) = true := decide_eq_true c63
                    clear c63
                    (first | rw [c63b0] | (simp only [i64_w, i32_w]; rw [c63b0]) | skip)
                    have H' := Aside0.mk H
                    clear H
                    go_wp2
                    go_meet
                    case rel => exact ⟨_, (true), (by first | rfl | (simp; done) | (simp [*]; done)), H', ⟨by have := HJ14.out; first | omega | exact Nat.le_refl _⟩, ⟨by refine rx ?_; exact HO_7.out⟩, ⟨by refine rx ?_; exact HO_11.out⟩, (bk BK884), (bk BK897), (hbw HB)⟩
                  · rw [if_neg c63] at H
                    have c63b0 : decide (t910 < 0) = false := decide_eq_false c63
                    clear c63
                    (first | rw [c63b0] | (simp only [i64_w, i32_w]; rw [c63b0]) | skip)
                    replace H := Option.bind_eq_some_iff.mp H
                    obtain ⟨t912, A640, H⟩ := H
                    replace H : (if t912 = true then ((laws_eqStringS.f kj14 t894 t881).bind fun t913 => (laws_FnExactRecRun.j1 kj14 l0 l1 t881 t894 (!t913) t878 t879 t880)) else (laws_FnExactRecRun.j1 kj14 l0 l1 t881 t894 true t878 t879 t880)) = some r := H
                    have A64 := Aside0.mk A640
                    clear A640
                    by_cases c65 : t912 = true
                    · subst c65
                      have H1 : ((laws_eqStringS.f kj14 t894 t881).bind fun t913 => (laws_FnExactRecRun.j1 kj14 l0 l1 t881 t894 (!t913) t878 t879 t880)) = some r := by rw [if_pos rfl] at H; exact H
                      clear H
                      have H := H1
                      clear H1
                      replace H := Option.bind_eq_some_iff.mp H
                      obtain ⟨t913, A660, H⟩ := H
                      replace H : (laws_FnExactRecRun.j1 kj14 l0 l1 t881 t894 (!t913) t878 t879 t880) = some r := H
                      have A66 := Aside0.mk A660
                      clear A660
                      have H' := Aside0.mk H
                      clear H
                      have hnb67 := NB897_884.out
                      have hnc67 := NB884_897.out
                      have hcz68_0 := b0 BK897
                      have hcz68_1 := b1 BK897
                      have hcz68_2 := b2 BK897
                      have hfz68_0 := fz BK897 0
                      have hfz68_1 := fz BK897 1
                      have hfz68_2 := fz BK897 2
                      have hcz69_0 := b0 BK884
                      have hcz69_1 := b1 BK884
                      have hcz69_2 := b2 BK884
                      have hfz69_0 := fz BK884 0
                      have hfz69_1 := fz BK884 1
                      have hfz69_2 := fz BK884 2
                      go_wp2_with (first | (go_at_call 43; (with_reducible refine (laws_eqRecState.calls t891 t892 t893 t878 t879 t880 true _ A64.out).mono ?_); rintro e w70 ⟨rfl, hb⟩; have n0_ := Aside0.mk (Kd.R_below (rx HO_7.out) hb); have n1_ := Aside0.mk (Kd.R_below (rx HO_8.out) hb); have n2_ := Aside0.mk (Kd.R_below (rx HO_9.out) hb); have n3_ := Aside0.mk (Kd.R_below (rx HO_11.out) hb); have n4_ := Aside0.mk (Kd.R_below (rx HO902.out) hb); have n5_ := Aside0.mk (Kd.R_below (rx HO906.out) hb); have n6_ := up BK884 hb; have n7_ := up BK897 hb; have n8_ := bs HB hb; clear HO_7; clear HO_8; clear HO_9; clear HO_11; clear HO902; clear HO906; clear BK884; clear BK897; clear HB; have HO_7 := n0_; have HO_8 := n1_; have HO_9 := n2_; have HO_11 := n3_; have HO902 := n4_; have HO906 := n5_; have BK884 := n6_; have BK897 := n7_; have HB := n8_; clear n0_ n1_ n2_ n3_ n4_ n5_ n6_ n7_ n8_; (try clear hb); (try clear hb2); (try clear hk); (try clear hi); obtain ⟨Ao71, co71, eo71⟩ := Kd.R_slice HO_11.out; subst eo71; obtain ⟨Ao72, co72, eo72⟩ := Kd.R_slice HO_7.out; subst eo72) | (go_at_call 53; (with_reducible refine (laws_eqStringS.calls kj14 _ _ t894 _ _ t881 t913 _ ?side1 ?side2 ?side3 ?side4 A66.out).mono ?_); (case side1 => repeat (first | exact (Kd.R_reads' HO_11.out).2.2 | (with_reducible refine Kd.C_alloc ?_ _) | (with_reducible refine Kd.C_drewN ?_ _) | (with_reducible refine Kd.C_drew ?_))); (case side2 => exact (Kd.R_reads' HO_11.out).2.1); (case side3 => repeat (first | exact (Kd.R_reads' HO_7.out).2.2 | (with_reducible refine Kd.C_alloc ?_ _) | (with_reducible refine Kd.C_drewN ?_ _) | (with_reducible refine Kd.C_drew ?_))); (case side4 => exact (Kd.R_reads' HO_7.out).2.1); rintro e w' ⟨rfl, ⟨nd, rfl⟩⟩))
                      go_meet
                      case rel => exact ⟨_, (!t913), (by first | rfl | (simp; done) | (simp [*]; done)), H', ⟨by have := HJ14.out; first | omega | exact Nat.le_refl _⟩, ⟨by refine rx ?_; exact HO_7.out⟩, ⟨by refine rx ?_; exact HO_11.out⟩, (bk BK884), (bk BK897), (hbw HB)⟩
                    · replace c65 := Bool.eq_false_iff.mpr c65
                      subst c65
                      have H1 : (laws_FnExactRecRun.j1 kj14 l0 l1 t881 t894 true t878 t879 t880) = some r := by rw [if_neg (show ¬ (false = true) by decide)] at H; exact H
                      clear H
                      have H := H1
                      clear H1
                      have H' := Aside0.mk H
                      clear H
                      have hnb73 := NB897_884.out
                      have hnc73 := NB884_897.out
                      have hcz74_0 := b0 BK897
                      have hcz74_1 := b1 BK897
                      have hcz74_2 := b2 BK897
                      have hfz74_0 := fz BK897 0
                      have hfz74_1 := fz BK897 1
                      have hfz74_2 := fz BK897 2
                      have hcz75_0 := b0 BK884
                      have hcz75_1 := b1 BK884
                      have hcz75_2 := b2 BK884
                      have hfz75_0 := fz BK884 0
                      have hfz75_1 := fz BK884 1
                      have hfz75_2 := fz BK884 2
                      go_wp2_with (first | (go_at_call 43; (with_reducible refine (laws_eqRecState.calls t891 t892 t893 t878 t879 t880 false _ A64.out).mono ?_); rintro e w76 ⟨rfl, hb⟩; have n0_ := Aside0.mk (Kd.R_below (rx HO_7.out) hb); have n1_ := Aside0.mk (Kd.R_below (rx HO_8.out) hb); have n2_ := Aside0.mk (Kd.R_below (rx HO_9.out) hb); have n3_ := Aside0.mk (Kd.R_below (rx HO_11.out) hb); have n4_ := Aside0.mk (Kd.R_below (rx HO902.out) hb); have n5_ := Aside0.mk (Kd.R_below (rx HO906.out) hb); have n6_ := up BK884 hb; have n7_ := up BK897 hb; have n8_ := bs HB hb; clear HO_7; clear HO_8; clear HO_9; clear HO_11; clear HO902; clear HO906; clear BK884; clear BK897; clear HB; have HO_7 := n0_; have HO_8 := n1_; have HO_9 := n2_; have HO_11 := n3_; have HO902 := n4_; have HO906 := n5_; have BK884 := n6_; have BK897 := n7_; have HB := n8_; clear n0_ n1_ n2_ n3_ n4_ n5_ n6_ n7_ n8_; (try clear hb); (try clear hb2); (try clear hk); (try clear hi)))
                      go_meet
                      case rel => exact ⟨_, (true), (by first | rfl | (simp; done) | (simp [*]; done)), H', ⟨by have := HJ14.out; first | omega | exact Nat.le_refl _⟩, ⟨by refine rx ?_; exact HO_7.out⟩, ⟨by refine rx ?_; exact HO_11.out⟩, (bk BK884), (bk BK897), (hbw HB)⟩
                case rest =>
                  clear HC54
                  try clear c1
                  try clear c2
                  try clear p2
                  try clear c3
                  try clear c4
                  try clear c4b0
                  try clear c5
                  try clear c6
                  try clear c7
                  try clear c7b0
                  try clear c15
                  try clear c21
                  try clear c22
                  try clear c30
                  try clear c33
                  try clear c35
                  try clear c37
                  try clear c38
                  try clear c39
                  try clear c41
                  try clear c43
                  try clear c45
                  try clear c48
                  try clear c51
                  try clear c52
                  try clear c54
                  try clear c55
                  try clear c56
                  try clear c63
                  try clear c63b0
                  try clear c65
                  try clear c67
                  try clear c73
                  try clear hcz23_0
                  try clear hcz23_1
                  try clear hcz23_2
                  try clear hcz31_0
                  try clear hcz31_1
                  try clear hcz31_2
                  try clear hcz36_0
                  try clear hcz36_1
                  try clear hcz36_2
                  try clear hcz37_0
                  try clear hcz37_1
                  try clear hcz37_2
                  try clear hcz42_0
                  try clear hcz42_1
                  try clear hcz42_2
                  try clear hcz43_0
                  try clear hcz43_1
                  try clear hcz43_2
                  try clear hcz68_0
                  try clear hcz68_1
                  try clear hcz68_2
                  try clear hcz69_0
                  try clear hcz69_1
                  try clear hcz69_2
                  try clear hcz74_0
                  try clear hcz74_1
                  try clear hcz74_2
                  try clear hcz75_0
                  try clear hcz75_1
                  try clear hcz75_2
                  try clear hfz23_0
                  try clear hfz23_1
                  try clear hfz23_2
                  try clear hfz31_0
                  try clear hfz31_1
                  try clear hfz31_2
                  try clear hfz36_0
                  try clear hfz36_1
                  try clear hfz36_2
                  try clear hfz37_0
                  try clear hfz37_1
                  try clear hfz37_2
                  try clear hfz42_0
                  try clear hfz42_1
                  try clear hfz42_2
                  try clear hfz43_0
                  try clear hfz43_1
                  try clear hfz43_2
                  try clear hfz68_0
                  try clear hfz68_1
                  try clear hfz68_2
                  try clear hfz69_0
                  try clear hfz69_1
                  try clear hfz69_2
                  try clear hfz74_0
                  try clear hfz74_1
                  try clear hfz74_2
                  try clear hfz75_0
                  try clear hfz75_1
                  try clear hfz75_2
                  try clear p2
                  obtain ⟨kq, x84_53, rfl, HA, HJ53, HO_7, HO_11, BK884, BK897, HB⟩ := hcut
                  cases kq with
                  | zero => exact absurd HA.out (by simp [laws_FnExactRecRun.j1])
                  | succ kj53 =>
                    have H := HA.out
                    clear HA
                    simp only [laws_FnExactRecRun.j1] at H
                    by_cases c77 : x84_53 = true
                    · subst c77
                      have H1 : (some false) = some r := by rw [if_pos rfl] at H; exact H
                      clear H
                      have H := H1
                      clear H1
                      obtain rfl := Option.some.inj H
                      go_wp2
                      go_ret
                      exact ⟨exq, bw HB.out⟩
                    · replace c77 := Bool.eq_false_iff.mpr c77
                      subst c77
                      have H1 : ((laws_markStringS.f kj53 t894 1).bind fun bt914 => ((laws_heldStringS.f kj53 bt914.2 1).bind fun t916 => (if t916 < 0 then (some false) else (if t916 = bt914.1 then ((laws_toRecPhaseS.f kj53 l0).bind fun t917 => ((laws_toRecSayS.f kj53 l1).bind fun t920 => ((impl_RecRun.f kj53 t917 t920).bind fun bt923 => ((laws_eqRecState.f bt923.1 bt923.2.1 bt923.2.2.1 t878 t879 t880).bind fun t930 => (if t930 = true then ((laws_eqStringS.f kj53 bt923.2.2.2 t881).bind fun t931 => (laws_FnExactRecRun.j2 kj53 bt914.2 bt914.1 (!t931))) else (laws_FnExactRecRun.j2 kj53 bt914.2 bt914.1 true)))))) else (some false))))) = some r := by rw [if_neg (show ¬ (false = true) by decide)] at H; exact H
                      clear H
                      have H := H1
                      clear H1
                      replace H := Option.bind_eq_some_iff.mp H
                      obtain ⟨⟨t914, t915⟩, A780, H⟩ := H
                      replace H : ((laws_heldStringS.f kj53 t915 1).bind fun t916 => (if t916 < 0 then (some false) else (if t916 = t914 then ((laws_toRecPhaseS.f kj53 l0).bind fun t917 => ((laws_toRecSayS.f kj53 l1).bind fun t920 => ((impl_RecRun.f kj53 t917 t920).bind fun bt923 => ((laws_eqRecState.f bt923.1 bt923.2.1 bt923.2.2.1 t878 t879 t880).bind fun t930 => (if t930 = true then ((laws_eqStringS.f kj53 bt923.2.2.2 t881).bind fun t931 => (laws_FnExactRecRun.j2 kj53 t915 t914 (!t931))) else (laws_FnExactRecRun.j2 kj53 t915 t914 true)))))) else (some false)))) = some r := H
                      have A78 := Aside0.mk A780
                      clear A780
                      replace H := Option.bind_eq_some_iff.mp H
                      obtain ⟨t916, A790, H⟩ := H
                      replace H : (if t916 < 0 then (some false) else (if t916 = t914 then ((laws_toRecPhaseS.f kj53 l0).bind fun t917 => ((laws_toRecSayS.f kj53 l1).bind fun t920 => ((impl_RecRun.f kj53 t917 t920).bind fun bt923 => ((laws_eqRecState.f bt923.1 bt923.2.1 bt923.2.2.1 t878 t879 t880).bind fun t930 => (if t930 = true then ((laws_eqStringS.f kj53 bt923.2.2.2 t881).bind fun t931 => (laws_FnExactRecRun.j2 kj53 t915 t914 (!t931))) else (laws_FnExactRecRun.j2 kj53 t915 t914 true)))))) else (some false))) = some r := H
                      have A79 := Aside0.mk A790
                      clear A790
                      by_cases c80 : t916 < 0
                      · rw [if_pos c80] at H
                        have c80b0 : decide (t916 < 0) = true := decide_eq_true c80
                        clear c80
                        obtain rfl := Option.some.inj H
                        obtain ⟨Ao81, co81, eo81⟩ := Kd.R_slice HO_11.out
                        subst eo81
                        go_wp2_with (first | ((with_reducible refine gate_callee (f := 57) rfl ?_); refine goesL_ (some 87) rfl rfl Try.func57 (by kernel_rfl) rfl #[.slice Ao81 t894.length co81, .int .i64 1] rfl mxp ?_; (with_reducible refine (laws_markStringS.calls kj53 (fun k_ => some k_ = (.slice Ao81 t894.length co81 : Value).ownBlock) (.slice Ao81 t894.length co81) t894 1 t914 t915 w _ ?side1 ?side2 A78.out).mono ?_); (case side1 => repeat (first | (with_reducible first | exact HB.out | apply below_alloc | apply pw_below_drewN | apply below_drew1 | refine below_set ?_ GE884.out | refine below_set ?_ GE897.out) | exact HB.out)); (case side2 => exact Kd.R_tight rfl HO_11.out); rintro e w82 ⟨rfl, hy0, hb, hkp⟩; refine ⟨_, rfl, ?_⟩; have n0_ := Aside0.mk (Kd.R_mono (ok' := fun k_ => some k_ ≠ (.slice Ao81 t894.length co81 : Value).ownBlock) (Kd.R_keptB (HO_7.out) hkp (fun k_ hk_ hs_ => (hk_) hs_)) (fun k_ hk_ => hk_.1)); have n1_ := Aside0.mk (Kd.R_reok rfl hy0 (fun k_ e_ => HO_11.out.1 k_ e_)); have n2_ := Aside0.mk (blk_kept (bx BK884.out) hkp (fun hs_ => (fun e_ => (Kd.R_ne HO_11.out BK884.out (by decide)) e_) hs_)); have n3_ := Aside0.mk (blk_kept (bx BK897.out) hkp (fun hs_ => (fun e_ => (Kd.R_ne HO_11.out BK897.out (by decide)) e_) hs_)); have n4_ := Aside0.mk (hb); clear HO_7; clear HO_11; clear BK884; clear BK897; clear HB; have HO_7 := n0_; have HO_11 := n1_; have BK884 := n2_; have BK897 := n3_; have HB := n4_; clear n0_ n1_ n2_ n3_ n4_; (try clear hb); (try clear hkp); (try clear hy0)) | ((with_reducible refine gate_callee (f := 58) rfl ?_); refine goesL_ (some 90) rfl rfl Try.func58 (by kernel_rfl) rfl #[.slice Ao81 t915.length co81, .int .i64 1] rfl (by (try simp only [List.map_toArray, List.map_cons, List.map_nil]); first | done | (rw [show t915.length = t894.length from (Kd.R_reads' HO_11.out).1.symm] <;> rfl) | rfl | (simp only [List.length_drop, List.length_take]; rfl)) ?_; (with_reducible refine (laws_heldStringS.calls kj53 _ _ t915 1 t916 _ ?side1 ?side2 A79.out).mono ?_); (case side1 => repeat (first | exact (Kd.R_reads' HO_11.out).2.2 | (with_reducible refine Kd.C_alloc ?_ _) | (with_reducible refine Kd.C_drewN ?_ _) | (with_reducible refine Kd.C_drew ?_))); (case side2 => rw [show t915.length = t894.length from (Kd.R_reads' HO_11.out).1.symm]; exact (Kd.R_reads' HO_11.out).2.1); rintro e w83 ⟨rfl, hb⟩; refine ⟨_, rfl, ?_⟩; have n0_ := Aside0.mk (Kd.R_below (rx HO_7.out) hb); have n1_ := Aside0.mk (Kd.R_below (rx HO_11.out) hb); have n2_ := up BK884 hb; have n3_ := up BK897 hb; have n4_ := bs HB hb; clear HO_7; clear HO_11; clear BK884; clear BK897; clear HB; have HO_7 := n0_; have HO_11 := n1_; have BK884 := n2_; have BK897 := n3_; have HB := n4_; clear n0_ n1_ n2_ n3_ n4_; (try clear hb); (try clear hb2); (try clear hk); (try clear hi)))
                        go_ret
                        exact ⟨exq, bw HB.out⟩
                      · rw [if_neg c80] at H
                        have c80b0 : decide (t916 < 0) = false := decide_eq_false c80
                        clear c80
                        by_cases c84 : t916 = t914
                        · rw [if_pos c84] at H
                          have c84b0 : (t916 == t914) = true := beq_iff_eq.mpr c84
                          have c84b1 : (t916 != t914) = false := bne_eq_false_iff_eq.mpr c84
                          clear c84
                          replace H := Option.bind_eq_some_iff.mp H
                          obtain ⟨t917, A850, H⟩ := H
                          replace H : ((laws_toRecSayS.f kj53 l1).bind fun t920 => ((impl_RecRun.f kj53 t917 t920).bind fun bt923 => ((laws_eqRecState.f bt923.1 bt923.2.1 bt923.2.2.1 t878 t879 t880).bind fun t930 => (if t930 = true then ((laws_eqStringS.f kj53 bt923.2.2.2 t881).bind fun t931 => (laws_FnExactRecRun.j2 kj53 t915 t914 (!t931))) else (laws_FnExactRecRun.j2 kj53 t915 t914 true))))) = some r := H
                          have A85 := Aside0.mk A850
                          clear A850
                          replace H := Option.bind_eq_some_iff.mp H
                          obtain ⟨t920, A860, H⟩ := H
                          replace H : ((impl_RecRun.f kj53 t917 t920).bind fun bt923 => ((laws_eqRecState.f bt923.1 bt923.2.1 bt923.2.2.1 t878 t879 t880).bind fun t930 => (if t930 = true then ((laws_eqStringS.f kj53 bt923.2.2.2 t881).bind fun t931 => (laws_FnExactRecRun.j2 kj53 t915 t914 (!t931))) else (laws_FnExactRecRun.j2 kj53 t915 t914 true)))) = some r := H
                          have A86 := Aside0.mk A860
                          clear A860
                          replace H := Option.bind_eq_some_iff.mp H
                          obtain ⟨⟨t923, t924, t925, t926⟩, A870, H⟩ := H
                          replace H : ((laws_eqRecState.f t923 t924 t925 t878 t879 t880).bind fun t930 => (if t930 = true then ((laws_eqStringS.f kj53 t926 t881).bind fun t931 => (laws_FnExactRecRun.j2 kj53 t915 t914 (!t931))) else (laws_FnExactRecRun.j2 kj53 t915 t914 true))) = some r := H
                          have A87 := Aside0.mk A870
                          clear A870
                          have HC88 := Aside0.mk H
                          clear H
                          obtain ⟨Ao89, co89, eo89⟩ := Kd.R_slice HO_11.out
                          subst eo89
                          go_upto_region 32 with (first | ((with_reducible refine gate_callee (f := 57) rfl ?_); refine goesL_ (some 87) rfl rfl Try.func57 (by kernel_rfl) rfl #[.slice Ao89 t894.length co89, .int .i64 1] rfl mxp ?_; (with_reducible refine (laws_markStringS.calls kj53 (fun k_ => some k_ = (.slice Ao89 t894.length co89 : Value).ownBlock) (.slice Ao89 t894.length co89) t894 1 t914 t915 w _ ?side1 ?side2 A78.out).mono ?_); (case side1 => repeat (first | (with_reducible first | exact HB.out | apply below_alloc | apply pw_below_drewN | apply below_drew1 | refine below_set ?_ GE884.out | refine below_set ?_ GE897.out) | exact HB.out)); (case side2 => exact Kd.R_tight rfl HO_11.out); rintro e w90 ⟨rfl, hy0, hb, hkp⟩; refine ⟨_, rfl, ?_⟩; have n0_ := Aside0.mk (Kd.R_mono (ok' := fun k_ => some k_ ≠ (.slice Ao89 t894.length co89 : Value).ownBlock) (Kd.R_keptB (HO_7.out) hkp (fun k_ hk_ hs_ => (hk_) hs_)) (fun k_ hk_ => hk_.1)); have n1_ := Aside0.mk (Kd.R_reok rfl hy0 (fun k_ e_ => HO_11.out.1 k_ e_)); have n2_ := Aside0.mk (blk_kept (bx BK884.out) hkp (fun hs_ => (fun e_ => (Kd.R_ne HO_11.out BK884.out (by decide)) e_) hs_)); have n3_ := Aside0.mk (blk_kept (bx BK897.out) hkp (fun hs_ => (fun e_ => (Kd.R_ne HO_11.out BK897.out (by decide)) e_) hs_)); have n4_ := Aside0.mk (hb); clear HO_7; clear HO_11; clear BK884; clear BK897; clear HB; have HO_7 := n0_; have HO_11 := n1_; have BK884 := n2_; have BK897 := n3_; have HB := n4_; clear n0_ n1_ n2_ n3_ n4_; (try clear hb); (try clear hkp); (try clear hy0)) | ((with_reducible refine gate_callee (f := 58) rfl ?_); refine goesL_ (some 90) rfl rfl Try.func58 (by kernel_rfl) rfl #[.slice Ao89 t915.length co89, .int .i64 1] rfl (by (try simp only [List.map_toArray, List.map_cons, List.map_nil]); first | done | (rw [show t915.length = t894.length from (Kd.R_reads' HO_11.out).1.symm] <;> rfl) | rfl | (simp only [List.length_drop, List.length_take]; rfl)) ?_; (with_reducible refine (laws_heldStringS.calls kj53 _ _ t915 1 t916 _ ?side1 ?side2 A79.out).mono ?_); (case side1 => repeat (first | exact (Kd.R_reads' HO_11.out).2.2 | (with_reducible refine Kd.C_alloc ?_ _) | (with_reducible refine Kd.C_drewN ?_ _) | (with_reducible refine Kd.C_drew ?_))); (case side2 => rw [show t915.length = t894.length from (Kd.R_reads' HO_11.out).1.symm]; exact (Kd.R_reads' HO_11.out).2.1); rintro e w91 ⟨rfl, hb⟩; refine ⟨_, rfl, ?_⟩; have n0_ := Aside0.mk (Kd.R_below (rx HO_7.out) hb); have n1_ := Aside0.mk (Kd.R_below (rx HO_11.out) hb); have n2_ := up BK884 hb; have n3_ := up BK897 hb; have n4_ := bs HB hb; clear HO_7; clear HO_11; clear BK884; clear BK897; clear HB; have HO_7 := n0_; have HO_11 := n1_; have BK884 := n2_; have BK897 := n3_; have HB := n4_; clear n0_ n1_ n2_ n3_ n4_; (try clear hb); (try clear hb2); (try clear hk); (try clear hi)) | ((with_reducible refine gate_callee (f := 38) rfl ?_); refine goesL_ (some 98) rfl rfl Try.func38 (by kernel_rfl) rfl #[.slice A0 l0.length c0] rfl mxp ?_; (with_reducible refine (laws_toRecPhaseS.calls kj53 _ _ l0 t917 _ ?side1 ?side2 A85.out).mono ?_); (case side1 => exact cx (Kd.C_below HR0.out HB.out)); (case side2 => exact HC0.out); rintro e w92 ⟨v918, rfl, ho0, hb⟩; refine ⟨_, rfl, ?_⟩; have n0_ := Aside0.mk (Kd.R_below (rx HO_7.out) hb); have n1_ := Aside0.mk (Kd.R_below (rx HO_11.out) hb); have n2_ := Aside0.mk (Kd.R_lower ho0 (below_size (bw HB.out))); have n3_ := up BK884 hb; have n4_ := up BK897 hb; have n5_ := bs HB hb; clear HO_7; clear HO_11; clear BK884; clear BK897; clear HB; have HO_7 := n0_; have HO_11 := n1_; have HO919 := n2_; have BK884 := n3_; have BK897 := n4_; have HB := n5_; clear n0_ n1_ n2_ n3_ n4_ n5_; (try clear hb); (try clear hb2); (try clear hk); (try clear hi); (try clear ho0)) | ((with_reducible refine gate_callee (f := 52) rfl ?_); refine goesL_ (some 100) rfl rfl Try.func52 (by kernel_rfl) rfl #[.slice A1 l1.length c1] rfl mxp ?_; (with_reducible refine (laws_toRecSayS.calls kj53 _ _ l1 t920 _ ?side1 ?side2 A86.out).mono ?_); (case side1 => exact cx (Kd.C_below HR1.out HB.out)); (case side2 => exact HC1.out); rintro e w93 ⟨v921, rfl, ho0, hb⟩; refine ⟨_, rfl, ?_⟩; have n0_ := Aside0.mk (Kd.R_below (rx HO_7.out) hb); have n1_ := Aside0.mk (Kd.R_below (rx HO_11.out) hb); have n2_ := Aside0.mk (Kd.R_below (rx HO919.out) hb); have n3_ := Aside0.mk (Kd.R_lower ho0 (below_size (bw HB.out))); have n4_ := up BK884 hb; have n5_ := up BK897 hb; have n6_ := bs HB hb; clear HO_7; clear HO_11; clear HO919; clear BK884; clear BK897; clear HB; have HO_7 := n0_; have HO_11 := n1_; have HO919 := n2_; have HO922 := n3_; have BK884 := n4_; have BK897 := n5_; have HB := n6_; clear n0_ n1_ n2_ n3_ n4_ n5_ n6_; (try clear hb); (try clear hb2); (try clear hk); (try clear hi); (try clear ho0); obtain ⟨Ao94, co94, eo94⟩ := Kd.R_slice HO919.out; subst eo94; obtain ⟨Ao95, co95, eo95⟩ := Kd.R_slice HO922.out; subst eo95) | ((with_reducible refine gate_callee (f := 21) rfl ?_); refine goesL_ (some 101) rfl rfl Try.func21 (by kernel_rfl) rfl #[.slice Ao94 t917.length co94, .slice Ao95 t920.length co95] rfl mxp ?_; (with_reducible refine (impl_RecRun.calls kj53 _ _ t917 _ _ t920 t923 t924 t925 t926 _ ?side1 ?side2 ?side3 ?side4 A87.out).mono ?_); (case side1 => repeat (first | exact (Kd.R_reads' HO919.out).2.2 | (with_reducible refine Kd.C_alloc ?_ _) | (with_reducible refine Kd.C_drewN ?_ _) | (with_reducible refine Kd.C_drew ?_))); (case side2 => exact (Kd.R_reads' HO919.out).2.1); (case side3 => repeat (first | exact (Kd.R_reads' HO922.out).2.2 | (with_reducible refine Kd.C_alloc ?_ _) | (with_reducible refine Kd.C_drewN ?_ _) | (with_reducible refine Kd.C_drew ?_))); (case side4 => exact (Kd.R_reads' HO922.out).2.1); rintro e w96 ⟨v927, rfl, ho0, hb⟩; refine ⟨_, rfl, ?_⟩; have n0_ := Aside0.mk (Kd.R_elder' (rx HO_7.out) (Kd.R_base ho0) hb); have n1_ := Aside0.mk (Kd.R_elder' (rx HO_11.out) (Kd.R_base ho0) hb); have n2_ := Aside0.mk (Kd.R_below (rx HO919.out) hb); have n3_ := Aside0.mk (Kd.R_below (rx HO922.out) hb); have n4_ := Aside0.mk (Kd.R_lower (Kd.R_new' (Kd.R_new' ho0 (Kd.R_lt (rx HO_7.out))) (Kd.R_lt (rx HO_11.out))) (below_size (bw HB.out))); have n5_ := up BK884 hb; have n6_ := up BK897 hb; have n7_ := bs HB hb; clear HO_7; clear HO_11; clear HO919; clear HO922; clear BK884; clear BK897; clear HB; have HO_7 := n0_; have HO_11 := n1_; have HO919 := n2_; have HO922 := n3_; have HO928 := n4_; have BK884 := n5_; have BK897 := n6_; have HB := n7_; clear n0_ n1_ n2_ n3_ n4_ n5_ n6_ n7_; (try clear hb); (try clear hb2); (try clear hk); (try clear hi); (try clear ho0)) | ((with_reducible refine gate_dst (N := 15) rfl ?_); refine box_event ?hg (N := 15) ?hd (cs := #[.string (⟨#[]⟩ : ByteArray), .int .i64 0, .int .i64 0]) (t := 31) ?hr ?_; (case hd => rfl); (case hg => rfl); (case hr => first | (go_simp; done) | (go_simp; rfl)); intro gb929 hg w97 hbox hb; have n0_ := Aside0.mk (Kd.R_below (rx HO_7.out) hb); have n1_ := Aside0.mk (Kd.R_below (rx HO_11.out) hb); have n2_ := Aside0.mk (Kd.R_below (rx HO919.out) hb); have n3_ := Aside0.mk (Kd.R_below (rx HO922.out) hb); have n4_ := Aside0.mk (Kd.R_below (rx HO928.out) hb); have n5_ := up BK884 hb; have n6_ := up BK897 hb; have n7_ := bs HB hb; have n8_ := Aside0.mk (hbox); have n9_ := Aside0.mk ((by rw [hg]; exact (below_size (bw HB.out)) : w.heap.size ≤ gb929)); have n10_ := Aside0.mk ((by rw [hg]; exact (below_size (bw HB.out)) : w.heap.size ≤ gb929)); have n11_ := Aside0.mk ((by rw [hg]; exact Nat.ne_of_lt (blk_lt (g := gb884) (o := .cells #[.string t878, .int .i64 t879, .int .i64 t880] 31 (0, 0)) (bx BK884.out)) : gb884 ≠ gb929)); have n12_ := Aside0.mk ((by rw [hg]; exact Nat.ne_of_gt (blk_lt (g := gb884) (o := .cells #[.string t878, .int .i64 t879, .int .i64 t880] 31 (0, 0)) (bx BK884.out)) : gb929 ≠ gb884)); have n13_ := Aside0.mk ((by rw [hg]; exact Nat.ne_of_lt (blk_lt (g := gb897) (o := .cells #[.string t891, .int .i64 t892, .int .i64 t893] 31 (0, 0)) (bx BK897.out)) : gb897 ≠ gb929)); have n14_ := Aside0.mk ((by rw [hg]; exact Nat.ne_of_gt (blk_lt (g := gb897) (o := .cells #[.string t891, .int .i64 t892, .int .i64 t893] 31 (0, 0)) (bx BK897.out)) : gb929 ≠ gb897)); clear HO_7; clear HO_11; clear HO919; clear HO922; clear HO928; clear BK884; clear BK897; clear HB; have HO_7 := n0_; have HO_11 := n1_; have HO919 := n2_; have HO922 := n3_; have HO928 := n4_; have BK884 := n5_; have BK897 := n6_; have HB := n7_; have BK929 := n8_; have GW929 := n9_; have GE929 := n10_; have NB884_929 := n11_; have NB929_884 := n12_; have NB897_929 := n13_; have NB929_897 := n14_; clear n0_ n1_ n2_ n3_ n4_ n5_ n6_ n7_ n8_ n9_ n10_ n11_ n12_ n13_ n14_; clear hb hbox hg; have hnb98 := NB929_884.out; have hnc98 := NB884_929.out; have hnb99 := NB929_897.out; have hnc99 := NB897_929.out; have hcz100_0 := b0 BK929; have hcz100_1 := b1 BK929; have hcz100_2 := b2 BK929; have hfz100_0 := fz BK929 0; have hfz100_1 := fz BK929 1; have hfz100_2 := fz BK929 2))
                          (try simp only [Act.put, List.setIfInBounds_toArray, List.set_cons_zero, List.set_cons_succ])
                          go_cut [113] (fun v113 wc => ∃ (kq : Nat) (x113_87 : Bool), v113 = .bool x113_87 ∧ Aside0 (laws_FnExactRecRun.j2 kq t915 t914 x113_87 = some r) ∧ Aside0 (kq ≤ kj53) ∧ Aside0 (Kd.R Kd.string 9 wc w.heap.size (fun _ => True) (.slice Ao89 t894.length co89) t915) ∧ Aside0 (wc.heap[gb884]? = some (.cells #[.string t878, .int .i64 t879, .int .i64 t880] 31 (0, 0))) ∧ Aside0 (wc.heap[gb897]? = some (.cells #[.string t891, .int .i64 t892, .int .i64 t893] 31 (0, 0))) ∧ Aside0 (wc.heap[gb929]? = some (.cells #[.string t923, .int .i64 t924, .int .i64 t925] 31 (0, 0))) ∧ Aside0 (Below w.heap.size w wc))
                          case first =>
                            have H := HC88.out
                            clear HC88
                            replace H := Option.bind_eq_some_iff.mp H
                            obtain ⟨t930, A1010, H⟩ := H
                            replace H : (if t930 = true then ((laws_eqStringS.f kj53 t926 t881).bind fun t931 => (laws_FnExactRecRun.j2 kj53 t915 t914 (!t931))) else (laws_FnExactRecRun.j2 kj53 t915 t914 true)) = some r := H
                            have A101 := Aside0.mk A1010
                            clear A1010
                            by_cases c102 : t930 = true
                            · subst c102
                              have H1 : ((laws_eqStringS.f kj53 t926 t881).bind fun t931 => (laws_FnExactRecRun.j2 kj53 t915 t914 (!t931))) = some r := by rw [if_pos rfl] at H; exact H
                              clear H
                              have H := H1
                              clear H1
                              replace H := Option.bind_eq_some_iff.mp H
                              obtain ⟨t931, A1030, H⟩ := H
                              replace H : (laws_FnExactRecRun.j2 kj53 t915 t914 (!t931)) = some r := H
                              have A103 := Aside0.mk A1030
                              clear A1030
                              have H' := Aside0.mk H
                              clear H
                              have hnb104 := NB929_884.out
                              have hnc104 := NB884_929.out
                              have hnb105 := NB929_897.out
                              have hnc105 := NB897_929.out
                              have hcz106_0 := b0 BK929
                              have hcz106_1 := b1 BK929
                              have hcz106_2 := b2 BK929
                              have hfz106_0 := fz BK929 0
                              have hfz106_1 := fz BK929 1
                              have hfz106_2 := fz BK929 2
                              have hnb107 := NB884_897.out
                              have hnc107 := NB897_884.out
                              have hcz108_0 := b0 BK884
                              have hcz108_1 := b1 BK884
                              have hcz108_2 := b2 BK884
                              have hfz108_0 := fz BK884 0
                              have hfz108_1 := fz BK884 1
                              have hfz108_2 := fz BK884 2
                              go_wp2_with (first | ((with_reducible refine gate_callee (f := 43) rfl ?_); refine goesL_ (some 106) rfl rfl Try.func43 (by kernel_rfl) rfl #[.agg #[.string t923, .int .i64 t924, .int .i64 t925], .agg #[.string t878, .int .i64 t879, .int .i64 t880]] rfl mxp ?_; (with_reducible refine (laws_eqRecState.calls t923 t924 t925 t878 t879 t880 true _ A101.out).mono ?_); rintro e w109 ⟨rfl, hb⟩; refine ⟨_, rfl, ?_⟩; have n0_ := Aside0.mk (Kd.R_below (by refine rx ?_; exact (Kd.R_mono (Kd.R_far (p := ⟨gb929, 2, none⟩) (Kd.R_far (p := ⟨gb929, 1, none⟩) (Kd.R_far (p := ⟨gb929, 0, none⟩) (Kd.R_types HO_7.out BK929.out (by decide)) (fun _ hk => hk.2) (.string t923)) (fun _ hk => hk.2) (.int .i64 t924)) (fun _ hk => hk.2) (.int .i64 t925)) (fun _ h_ => h_.1))) hb); have n1_ := Aside0.mk (Kd.R_below (by refine rx ?_; exact (Kd.R_mono (Kd.R_far (p := ⟨gb929, 2, none⟩) (Kd.R_far (p := ⟨gb929, 1, none⟩) (Kd.R_far (p := ⟨gb929, 0, none⟩) (Kd.R_types HO_11.out BK929.out (by decide)) (fun _ hk => hk.2) (.string t923)) (fun _ hk => hk.2) (.int .i64 t924)) (fun _ hk => hk.2) (.int .i64 t925)) (fun _ h_ => h_.1))) hb); have n2_ := Aside0.mk (Kd.R_below (by refine rx ?_; exact (Kd.R_mono (Kd.R_far (p := ⟨gb929, 2, none⟩) (Kd.R_far (p := ⟨gb929, 1, none⟩) (Kd.R_far (p := ⟨gb929, 0, none⟩) (Kd.R_types HO919.out BK929.out (by decide)) (fun _ hk => hk.2) (.string t923)) (fun _ hk => hk.2) (.int .i64 t924)) (fun _ hk => hk.2) (.int .i64 t925)) (fun _ h_ => h_.1))) hb); have n3_ := Aside0.mk (Kd.R_below (by refine rx ?_; exact (Kd.R_mono (Kd.R_far (p := ⟨gb929, 2, none⟩) (Kd.R_far (p := ⟨gb929, 1, none⟩) (Kd.R_far (p := ⟨gb929, 0, none⟩) (Kd.R_types HO922.out BK929.out (by decide)) (fun _ hk => hk.2) (.string t923)) (fun _ hk => hk.2) (.int .i64 t924)) (fun _ hk => hk.2) (.int .i64 t925)) (fun _ h_ => h_.1))) hb); have n4_ := Aside0.mk (Kd.R_below (by refine rx ?_; exact (Kd.R_mono (Kd.R_far (p := ⟨gb929, 2, none⟩) (Kd.R_far (p := ⟨gb929, 1, none⟩) (Kd.R_far (p := ⟨gb929, 0, none⟩) (Kd.R_types HO928.out BK929.out (by decide)) (fun _ hk => hk.2) (.string t923)) (fun _ hk => hk.2) (.int .i64 t924)) (fun _ hk => hk.2) (.int .i64 t925)) (fun _ h_ => h_.1))) hb); have n5_ := Aside0.mk (blk_below (g := gb884) (o := .cells #[.string t878, .int .i64 t879, .int .i64 t880] 31 (0, 0)) (by refine bx ?_; refine blk_far ?_ NB884_929.out _; refine bx ?_; refine blk_far ?_ NB884_929.out _; refine bx ?_; refine blk_far ?_ NB884_929.out _; refine bx ?_; exact BK884.out) hb); have n6_ := Aside0.mk (blk_below (g := gb897) (o := .cells #[.string t891, .int .i64 t892, .int .i64 t893] 31 (0, 0)) (by refine bx ?_; refine blk_far ?_ NB897_929.out _; refine bx ?_; refine blk_far ?_ NB897_929.out _; refine bx ?_; refine blk_far ?_ NB897_929.out _; refine bx ?_; exact BK897.out) hb); have n7_ := Aside0.mk (blk_below (g := gb929) (o := .cells #[.string t923, .int .i64 t924, .int .i64 t925] 31 (0, 0)) (by refine bx ?_; refine blk_put (cs := #[.string t923, .int .i64 t924, .int .i64 0]) ?_ 2 _ rfl; refine bx ?_; refine blk_put (cs := #[.string t923, .int .i64 0, .int .i64 0]) ?_ 1 _ rfl; refine bx ?_; refine blk_put (cs := #[.string (⟨#[]⟩ : ByteArray), .int .i64 0, .int .i64 0]) ?_ 0 _ rfl; refine bx ?_; exact BK929.out) hb); have n8_ := bs HB hb; clear HO_7; clear HO_11; clear HO919; clear HO922; clear HO928; clear BK884; clear BK897; clear BK929; clear HB; have HO_7 := n0_; have HO_11 := n1_; have HO919 := n2_; have HO922 := n3_; have HO928 := n4_; have BK884 := n5_; have BK897 := n6_; have BK929 := n7_; have HB := n8_; clear n0_ n1_ n2_ n3_ n4_ n5_ n6_ n7_ n8_; (try clear hb); (try clear hb2); (try clear hk); (try clear hi); obtain ⟨Ao110, co110, eo110⟩ := Kd.R_slice HO928.out; subst eo110; obtain ⟨Ao111, co111, eo111⟩ := Kd.R_slice HO_7.out; subst eo111) | (go_at_call 53; (with_reducible refine (laws_eqStringS.calls kj53 _ _ t926 _ _ t881 t931 _ ?side1 ?side2 ?side3 ?side4 A103.out).mono ?_); (case side1 => repeat (first | exact (Kd.R_reads' HO928.out).2.2 | (with_reducible refine Kd.C_alloc ?_ _) | (with_reducible refine Kd.C_drewN ?_ _) | (with_reducible refine Kd.C_drew ?_))); (case side2 => exact (Kd.R_reads' HO928.out).2.1); (case side3 => repeat (first | exact (Kd.R_reads' HO_7.out).2.2 | (with_reducible refine Kd.C_alloc ?_ _) | (with_reducible refine Kd.C_drewN ?_ _) | (with_reducible refine Kd.C_drew ?_))); (case side4 => exact (Kd.R_reads' HO_7.out).2.1); rintro e w' ⟨rfl, ⟨nd, rfl⟩⟩))
                              go_meet
                              case rel => exact ⟨_, (!t931), (by first | rfl | (simp; done) | (simp [*]; done)), H', ⟨by have := HJ14.out; have := HJ53.out; first | omega | exact Nat.le_refl _⟩, ⟨by refine rx ?_; exact Kd.R_mono HO_11.out (fun _ hk => trivial)⟩, (bk BK884), (bk BK897), (bk BK929), (hbw HB)⟩
                            · replace c102 := Bool.eq_false_iff.mpr c102
                              subst c102
                              have H1 : (laws_FnExactRecRun.j2 kj53 t915 t914 true) = some r := by rw [if_neg (show ¬ (false = true) by decide)] at H; exact H
                              clear H
                              have H := H1
                              clear H1
                              have H' := Aside0.mk H
                              clear H
                              have hnb112 := NB929_884.out
                              have hnc112 := NB884_929.out
                              have hnb113 := NB929_897.out
                              have hnc113 := NB897_929.out
                              have hcz114_0 := b0 BK929
                              have hcz114_1 := b1 BK929
                              have hcz114_2 := b2 BK929
                              have hfz114_0 := fz BK929 0
                              have hfz114_1 := fz BK929 1
                              have hfz114_2 := fz BK929 2
                              have hnb115 := NB884_897.out
                              have hnc115 := NB897_884.out
                              have hcz116_0 := b0 BK884
                              have hcz116_1 := b1 BK884
                              have hcz116_2 := b2 BK884
                              have hfz116_0 := fz BK884 0
                              have hfz116_1 := fz BK884 1
                              have hfz116_2 := fz BK884 2
                              go_wp2_with (first | ((with_reducible refine gate_callee (f := 43) rfl ?_); refine goesL_ (some 106) rfl rfl Try.func43 (by kernel_rfl) rfl #[.agg #[.string t923, .int .i64 t924, .int .i64 t925], .agg #[.string t878, .int .i64 t879, .int .i64 t880]] rfl mxp ?_; (with_reducible refine (laws_eqRecState.calls t923 t924 t925 t878 t879 t880 false _ A101.out).mono ?_); rintro e w117 ⟨rfl, hb⟩; refine ⟨_, rfl, ?_⟩; have n0_ := Aside0.mk (Kd.R_below (by refine rx ?_; exact (Kd.R_mono (Kd.R_far (p := ⟨gb929, 2, none⟩) (Kd.R_far (p := ⟨gb929, 1, none⟩) (Kd.R_far (p := ⟨gb929, 0, none⟩) (Kd.R_types HO_7.out BK929.out (by decide)) (fun _ hk => hk.2) (.string t923)) (fun _ hk => hk.2) (.int .i64 t924)) (fun _ hk => hk.2) (.int .i64 t925)) (fun _ h_ => h_.1))) hb); have n1_ := Aside0.mk (Kd.R_below (by refine rx ?_; exact (Kd.R_mono (Kd.R_far (p := ⟨gb929, 2, none⟩) (Kd.R_far (p := ⟨gb929, 1, none⟩) (Kd.R_far (p := ⟨gb929, 0, none⟩) (Kd.R_types HO_11.out BK929.out (by decide)) (fun _ hk => hk.2) (.string t923)) (fun _ hk => hk.2) (.int .i64 t924)) (fun _ hk => hk.2) (.int .i64 t925)) (fun _ h_ => h_.1))) hb); have n2_ := Aside0.mk (Kd.R_below (by refine rx ?_; exact (Kd.R_mono (Kd.R_far (p := ⟨gb929, 2, none⟩) (Kd.R_far (p := ⟨gb929, 1, none⟩) (Kd.R_far (p := ⟨gb929, 0, none⟩) (Kd.R_types HO919.out BK929.out (by decide)) (fun _ hk => hk.2) (.string t923)) (fun _ hk => hk.2) (.int .i64 t924)) (fun _ hk => hk.2) (.int .i64 t925)) (fun _ h_ => h_.1))) hb); have n3_ := Aside0.mk (Kd.R_below (by refine rx ?_; exact (Kd.R_mono (Kd.R_far (p := ⟨gb929, 2, none⟩) (Kd.R_far (p := ⟨gb929, 1, none⟩) (Kd.R_far (p := ⟨gb929, 0, none⟩) (Kd.R_types HO922.out BK929.out (by decide)) (fun _ hk => hk.2) (.string t923)) (fun _ hk => hk.2) (.int .i64 t924)) (fun _ hk => hk.2) (.int .i64 t925)) (fun _ h_ => h_.1))) hb); have n4_ := Aside0.mk (Kd.R_below (by refine rx ?_; exact (Kd.R_mono (Kd.R_far (p := ⟨gb929, 2, none⟩) (Kd.R_far (p := ⟨gb929, 1, none⟩) (Kd.R_far (p := ⟨gb929, 0, none⟩) (Kd.R_types HO928.out BK929.out (by decide)) (fun _ hk => hk.2) (.string t923)) (fun _ hk => hk.2) (.int .i64 t924)) (fun _ hk => hk.2) (.int .i64 t925)) (fun _ h_ => h_.1))) hb); have n5_ := Aside0.mk (blk_below (g := gb884) (o := .cells #[.string t878, .int .i64 t879, .int .i64 t880] 31 (0, 0)) (by refine bx ?_; refine blk_far ?_ NB884_929.out _; refine bx ?_; refine blk_far ?_ NB884_929.out _; refine bx ?_; refine blk_far ?_ NB884_929.out _; refine bx ?_; exact BK884.out) hb); have n6_ := Aside0.mk (blk_below (g := gb897) (o := .cells #[.string t891, .int .i64 t892, .int .i64 t893] 31 (0, 0)) (by refine bx ?_; refine blk_far ?_ NB897_929.out _; refine bx ?_; refine blk_far ?_ NB897_929.out _; refine bx ?_; refine blk_far ?_ NB897_929.out _; refine bx ?_; exact BK897.out) hb); have n7_ := Aside0.mk (blk_below (g := gb929) (o := .cells #[.string t923, .int .i64 t924, .int .i64 t925] 31 (0, 0)) (by refine bx ?_; refine blk_put (cs := #[.string t923, .int .i64 t924, .int .i64 0]) ?_ 2 _ rfl; refine bx ?_; refine blk_put (cs := #[.string t923, .int .i64 0, .int .i64 0]) ?_ 1 _ rfl; refine bx ?_; refine blk_put (cs := #[.string (⟨#[]⟩ : ByteArray), .int .i64 0, .int .i64 0]) ?_ 0 _ rfl; refine bx ?_; exact BK929.out) hb); have n8_ := bs HB hb; clear HO_7; clear HO_11; clear HO919; clear HO922; clear HO928; clear BK884; clear BK897; clear BK929; clear HB; have HO_7 := n0_; have HO_11 := n1_; have HO919 := n2_; have HO922 := n3_; have HO928 := n4_; have BK884 := n5_; have BK897 := n6_; have BK929 := n7_; have HB := n8_; clear n0_ n1_ n2_ n3_ n4_ n5_ n6_ n7_ n8_; (try clear hb); (try clear hb2); (try clear hk); (try clear hi)))
                              go_meet
                              case rel => exact ⟨_, (true), (by first | rfl | (simp; done) | (simp [*]; done)), H', ⟨by have := HJ14.out; have := HJ53.out; first | omega | exact Nat.le_refl _⟩, ⟨by refine rx ?_; exact Kd.R_mono HO_11.out (fun _ hk => trivial)⟩, (bk BK884), (bk BK897), (bk BK929), (hbw HB)⟩
                          case rest =>
                            clear HC88
                            try clear c1
                            try clear c2
                            try clear p2
                            try clear c3
                            try clear c4
                            try clear c4b0
                            try clear c5
                            try clear c6
                            try clear c7
                            try clear c7b0
                            try clear c8
                            try clear c9
                            try clear c10
                            try clear c11
                            try clear c15
                            try clear c21
                            try clear c22
                            try clear c30
                            try clear c33
                            try clear c35
                            try clear c37
                            try clear c38
                            try clear c39
                            try clear c41
                            try clear c43
                            try clear c45
                            try clear c48
                            try clear c51
                            try clear c52
                            try clear c54
                            try clear c55
                            try clear c56
                            try clear c57
                            try clear c58
                            try clear c63
                            try clear c63b0
                            try clear c65
                            try clear c67
                            try clear c73
                            try clear c77
                            try clear c80
                            try clear c80b0
                            try clear c84
                            try clear c84b0
                            try clear c84b1
                            try clear c98
                            try clear c99
                            try clear c102
                            try clear c104
                            try clear c105
                            try clear c107
                            try clear c112
                            try clear c113
                            try clear c115
                            try clear hcz100_0
                            try clear hcz100_1
                            try clear hcz100_2
                            try clear hcz106_0
                            try clear hcz106_1
                            try clear hcz106_2
                            try clear hcz108_0
                            try clear hcz108_1
                            try clear hcz108_2
                            try clear hcz114_0
                            try clear hcz114_1
                            try clear hcz114_2
                            try clear hcz116_0
                            try clear hcz116_1
                            try clear hcz116_2
                            try clear hcz23_0
                            try clear hcz23_1
                            try clear hcz23_2
                            try clear hcz31_0
                            try clear hcz31_1
                            try clear hcz31_2
                            try clear hcz36_0
                            try clear hcz36_1
                            try clear hcz36_2
                            try clear hcz37_0
                            try clear hcz37_1
                            try clear hcz37_2
                            try clear hcz42_0
                            try clear hcz42_1
                            try clear hcz42_2
                            try clear hcz43_0
                            try clear hcz43_1
                            try clear hcz43_2
                            try clear hcz68_0
                            try clear hcz68_1
                            try clear hcz68_2
                            try clear hcz69_0
                            try clear hcz69_1
                            try clear hcz69_2
                            try clear hcz74_0
                            try clear hcz74_1
                            try clear hcz74_2
                            try clear hcz75_0
                            try clear hcz75_1
                            try clear hcz75_2
                            try clear hfz100_0
                            try clear hfz100_1
                            try clear hfz100_2
                            try clear hfz106_0
                            try clear hfz106_1
                            try clear hfz106_2
                            try clear hfz108_0
                            try clear hfz108_1
                            try clear hfz108_2
                            try clear hfz114_0
                            try clear hfz114_1
                            try clear hfz114_2
                            try clear hfz116_0
                            try clear hfz116_1
                            try clear hfz116_2
                            try clear hfz23_0
                            try clear hfz23_1
                            try clear hfz23_2
                            try clear hfz31_0
                            try clear hfz31_1
                            try clear hfz31_2
                            try clear hfz36_0
                            try clear hfz36_1
                            try clear hfz36_2
                            try clear hfz37_0
                            try clear hfz37_1
                            try clear hfz37_2
                            try clear hfz42_0
                            try clear hfz42_1
                            try clear hfz42_2
                            try clear hfz43_0
                            try clear hfz43_1
                            try clear hfz43_2
                            try clear hfz68_0
                            try clear hfz68_1
                            try clear hfz68_2
                            try clear hfz69_0
                            try clear hfz69_1
                            try clear hfz69_2
                            try clear hfz74_0
                            try clear hfz74_1
                            try clear hfz74_2
                            try clear hfz75_0
                            try clear hfz75_1
                            try clear hfz75_2
                            try clear p2
                            obtain ⟨kq, x113_87, rfl, HA, HJ87, HO_11, BK884, BK897, BK929, HB⟩ := hcut
                            have hl11_87 := (Kd.R_reads' HO_11.out).1
                            rw [hl11_87] at HO_11
                            (try simp only [hl11_87])
                            (try simp only [hl11_87] at BK884)
                            (try simp only [hl11_87] at BK897)
                            (try simp only [hl11_87] at BK929)
                            cases kq with
                            | zero => exact absurd HA.out (by simp [laws_FnExactRecRun.j2])
                            | succ kj87 =>
                              have H := HA.out
                              clear HA
                              simp only [laws_FnExactRecRun.j2] at H
                              by_cases c118 : x113_87 = true
                              · subst c118
                                have H1 : (some false) = some r := by rw [if_pos rfl] at H; exact H
                                clear H
                                have H := H1
                                clear H1
                                obtain rfl := Option.some.inj H
                                go_wp2
                                go_ret
                                exact ⟨exq, bw HB.out⟩
                              · replace c118 := Bool.eq_false_iff.mpr c118
                                subst c118
                                have H1 : ((laws_heldStringS.f kj87 t915 1).bind fun t932 => (if t932 < 0 then (some false) else (if t932 = t914 then (some true) else (some false)))) = some r := by rw [if_neg (show ¬ (false = true) by decide)] at H; exact H
                                clear H
                                have H := H1
                                clear H1
                                replace H := Option.bind_eq_some_iff.mp H
                                obtain ⟨t932, A1190, H⟩ := H
                                replace H : (if t932 < 0 then (some false) else (if t932 = t914 then (some true) else (some false))) = some r := H
                                have A119 := Aside0.mk A1190
                                clear A1190
                                by_cases c120 : t932 < 0
                                · rw [if_pos c120] at H
                                  have c120b0 : decide (t932 < 0) = true := decide_eq_true c120
                                  clear c120
                                  obtain rfl := Option.some.inj H
                                  go_wp2_with (first | ((with_reducible refine gate_callee (f := 58) rfl ?_); refine goesL_ (some 116) rfl rfl Try.func58 (by kernel_rfl) rfl #[.slice Ao89 t915.length co89, .int .i64 1] rfl mxp ?_; (with_reducible refine (laws_heldStringS.calls kj87 _ _ t915 1 t932 _ ?side1 ?side2 A119.out).mono ?_); (case side1 => repeat (first | exact (Kd.R_reads' HO_11.out).2.2 | (with_reducible refine Kd.C_alloc ?_ _) | (with_reducible refine Kd.C_drewN ?_ _) | (with_reducible refine Kd.C_drew ?_))); (case side2 => exact (Kd.R_reads' HO_11.out).2.1); rintro e w121 ⟨rfl, hb⟩; refine ⟨_, rfl, ?_⟩; have n0_ := Aside0.mk (Kd.R_below (rx HO_11.out) hb); have n1_ := up BK884 hb; have n2_ := up BK897 hb; have n3_ := up BK929 hb; have n4_ := bs HB hb; clear HO_11; clear BK884; clear BK897; clear BK929; clear HB; have HO_11 := n0_; have BK884 := n1_; have BK897 := n2_; have BK929 := n3_; have HB := n4_; clear n0_ n1_ n2_ n3_ n4_; (try clear hb); (try clear hb2); (try clear hk); (try clear hi)))
                                  go_ret
                                  exact ⟨exq, bw HB.out⟩
                                · rw [if_neg c120] at H
                                  have c120b0 : decide (t932 < 0) = false := decide_eq_false c120
                                  clear c120
                                  by_cases c122 : t932 = t914
                                  · rw [if_pos c122] at H
                                    have c122b0 : (t932 == t914) = true := beq_iff_eq.mpr c122
                                    have c122b1 : (t932 != t914) = false := bne_eq_false_iff_eq.mpr c122
                                    clear c122
                                    obtain rfl := Option.some.inj H
                                    go_wp2_with (first | ((with_reducible refine gate_callee (f := 58) rfl ?_); refine goesL_ (some 116) rfl rfl Try.func58 (by kernel_rfl) rfl #[.slice Ao89 t915.length co89, .int .i64 1] rfl mxp ?_; (with_reducible refine (laws_heldStringS.calls kj87 _ _ t915 1 t932 _ ?side1 ?side2 A119.out).mono ?_); (case side1 => repeat (first | exact (Kd.R_reads' HO_11.out).2.2 | (with_reducible refine Kd.C_alloc ?_ _) | (with_reducible refine Kd.C_drewN ?_ _) | (with_reducible refine Kd.C_drew ?_))); (case side2 => exact (Kd.R_reads' HO_11.out).2.1); rintro e w123 ⟨rfl, hb⟩; refine ⟨_, rfl, ?_⟩; have n0_ := Aside0.mk (Kd.R_below (rx HO_11.out) hb); have n1_ := up BK884 hb; have n2_ := up BK897 hb; have n3_ := up BK929 hb; have n4_ := bs HB hb; clear HO_11; clear BK884; clear BK897; clear BK929; clear HB; have HO_11 := n0_; have BK884 := n1_; have BK897 := n2_; have BK929 := n3_; have HB := n4_; clear n0_ n1_ n2_ n3_ n4_; (try clear hb); (try clear hb2); (try clear hk); (try clear hi)))
                                    go_ret
                                    exact ⟨exq, bw HB.out⟩
                                  · rw [if_neg c122] at H
                                    have c122b0 : (t932 == t914) = false := beq_eq_false_iff_ne.mpr c122
                                    have c122b1 : (t932 != t914) = true := bne_iff_ne.mpr c122
                                    obtain rfl := Option.some.inj H
                                    go_wp2_with (first | ((with_reducible refine gate_callee (f := 58) rfl ?_); refine goesL_ (some 116) rfl rfl Try.func58 (by kernel_rfl) rfl #[.slice Ao89 t915.length co89, .int .i64 1] rfl mxp ?_; (with_reducible refine (laws_heldStringS.calls kj87 _ _ t915 1 t932 _ ?side1 ?side2 A119.out).mono ?_); (case side1 => repeat (first | exact (Kd.R_reads' HO_11.out).2.2 | (with_reducible refine Kd.C_alloc ?_ _) | (with_reducible refine Kd.C_drewN ?_ _) | (with_reducible refine Kd.C_drew ?_))); (case side2 => exact (Kd.R_reads' HO_11.out).2.1); rintro e w124 ⟨rfl, hb⟩; refine ⟨_, rfl, ?_⟩; have n0_ := Aside0.mk (Kd.R_below (rx HO_11.out) hb); have n1_ := up BK884 hb; have n2_ := up BK897 hb; have n3_ := up BK929 hb; have n4_ := bs HB hb; clear HO_11; clear BK884; clear BK897; clear BK929; clear HB; have HO_11 := n0_; have BK884 := n1_; have BK897 := n2_; have BK929 := n3_; have HB := n4_; clear n0_ n1_ n2_ n3_ n4_; (try clear hb); (try clear hb2); (try clear hk); (try clear hi)))
                                    go_ret
                                    exact ⟨exq, bw HB.out⟩
                        · rw [if_neg c84] at H
                          have c84b0 : (t916 == t914) = false := beq_eq_false_iff_ne.mpr c84
                          have c84b1 : (t916 != t914) = true := bne_iff_ne.mpr c84
                          obtain rfl := Option.some.inj H
                          obtain ⟨Ao125, co125, eo125⟩ := Kd.R_slice HO_11.out
                          subst eo125
                          go_wp2_with (first | ((with_reducible refine gate_callee (f := 57) rfl ?_); refine goesL_ (some 87) rfl rfl Try.func57 (by kernel_rfl) rfl #[.slice Ao125 t894.length co125, .int .i64 1] rfl mxp ?_; (with_reducible refine (laws_markStringS.calls kj53 (fun k_ => some k_ = (.slice Ao125 t894.length co125 : Value).ownBlock) (.slice Ao125 t894.length co125) t894 1 t914 t915 w _ ?side1 ?side2 A78.out).mono ?_); (case side1 => repeat (first | (with_reducible first | exact HB.out | apply below_alloc | apply pw_below_drewN | apply below_drew1 | refine below_set ?_ GE884.out | refine below_set ?_ GE897.out) | exact HB.out)); (case side2 => exact Kd.R_tight rfl HO_11.out); rintro e w126 ⟨rfl, hy0, hb, hkp⟩; refine ⟨_, rfl, ?_⟩; have n0_ := Aside0.mk (Kd.R_mono (ok' := fun k_ => some k_ ≠ (.slice Ao125 t894.length co125 : Value).ownBlock) (Kd.R_keptB (HO_7.out) hkp (fun k_ hk_ hs_ => (hk_) hs_)) (fun k_ hk_ => hk_.1)); have n1_ := Aside0.mk (Kd.R_reok rfl hy0 (fun k_ e_ => HO_11.out.1 k_ e_)); have n2_ := Aside0.mk (blk_kept (bx BK884.out) hkp (fun hs_ => (fun e_ => (Kd.R_ne HO_11.out BK884.out (by decide)) e_) hs_)); have n3_ := Aside0.mk (blk_kept (bx BK897.out) hkp (fun hs_ => (fun e_ => (Kd.R_ne HO_11.out BK897.out (by decide)) e_) hs_)); have n4_ := Aside0.mk (hb); clear HO_7; clear HO_11; clear BK884; clear BK897; clear HB; have HO_7 := n0_; have HO_11 := n1_; have BK884 := n2_; have BK897 := n3_; have HB := n4_; clear n0_ n1_ n2_ n3_ n4_; (try clear hb); (try clear hkp); (try clear hy0)) | ((with_reducible refine gate_callee (f := 58) rfl ?_); refine goesL_ (some 90) rfl rfl Try.func58 (by kernel_rfl) rfl #[.slice Ao125 t915.length co125, .int .i64 1] rfl (by (try simp only [List.map_toArray, List.map_cons, List.map_nil]); first | done | (rw [show t915.length = t894.length from (Kd.R_reads' HO_11.out).1.symm] <;> rfl) | rfl | (simp only [List.length_drop, List.length_take]; rfl)) ?_; (with_reducible refine (laws_heldStringS.calls kj53 _ _ t915 1 t916 _ ?side1 ?side2 A79.out).mono ?_); (case side1 => repeat (first | exact (Kd.R_reads' HO_11.out).2.2 | (with_reducible refine Kd.C_alloc ?_ _) | (with_reducible refine Kd.C_drewN ?_ _) | (with_reducible refine Kd.C_drew ?_))); (case side2 => rw [show t915.length = t894.length from (Kd.R_reads' HO_11.out).1.symm]; exact (Kd.R_reads' HO_11.out).2.1); rintro e w127 ⟨rfl, hb⟩; refine ⟨_, rfl, ?_⟩; have n0_ := Aside0.mk (Kd.R_below (rx HO_7.out) hb); have n1_ := Aside0.mk (Kd.R_below (rx HO_11.out) hb); have n2_ := up BK884 hb; have n3_ := up BK897 hb; have n4_ := bs HB hb; clear HO_7; clear HO_11; clear BK884; clear BK897; clear HB; have HO_7 := n0_; have HO_11 := n1_; have BK884 := n2_; have BK897 := n3_; have HB := n4_; clear n0_ n1_ n2_ n3_ n4_; (try clear hb); (try clear hb2); (try clear hk); (try clear hi)))
                          go_ret
                          exact ⟨exq, bw HB.out⟩
              · replace c51 := Bool.eq_false_iff.mpr c51
                subst c51
                have H1 : (some false) = some r := by rw [if_neg (show ¬ (false = true) by decide)] at H; exact H
                clear H
                have H := H1
                clear H1
                obtain rfl := Option.some.inj H
                go_wp2_with (first | ((with_reducible refine gate_callee (f := 38) rfl ?_); refine goesL_ (some 57) rfl rfl Try.func38 (by kernel_rfl) rfl #[.slice A0 l0.length c0] rfl mxp ?_; (with_reducible refine (laws_toRecPhaseS.calls kj14 _ _ l0 t900 _ ?side1 ?side2 A46.out).mono ?_); (case side1 => exact cx (Kd.C_below HR0.out HB.out)); (case side2 => exact HC0.out); rintro e w128 ⟨v901, rfl, ho0, hb⟩; refine ⟨_, rfl, ?_⟩; have n0_ := Aside0.mk (Kd.R_below (rx HO_7.out) hb); have n1_ := Aside0.mk (Kd.R_elder' (rx HO_8.out) (Kd.R_base ho0) hb); have n2_ := Aside0.mk (Kd.R_below (rx HO_9.out) hb); have n3_ := Aside0.mk (Kd.R_below (rx HO_11.out) hb); have n4_ := Aside0.mk (Kd.R_lower (Kd.R_new' ho0 (Kd.R_lt (rx HO_8.out))) (below_size (bw HB.out))); have n5_ := up BK884 hb; have n6_ := up BK897 hb; have n7_ := bs HB hb; clear HO_7; clear HO_8; clear HO_9; clear HO_11; clear BK884; clear BK897; clear HB; have HO_7 := n0_; have HO_8 := n1_; have HO_9 := n2_; have HO_11 := n3_; have HO902 := n4_; have BK884 := n5_; have BK897 := n6_; have HB := n7_; clear n0_ n1_ n2_ n3_ n4_ n5_ n6_ n7_; (try clear hb); (try clear hb2); (try clear hk); (try clear hi); (try clear ho0); obtain ⟨Ao129, co129, eo129⟩ := Kd.R_slice HO902.out; subst eo129) | ((with_reducible refine gate_callee (f := 39) rfl ?_); refine goesL_ (some 58) rfl rfl Try.func39 (by kernel_rfl) rfl #[.slice Ao26 t885.length co26, .slice Ao129 t900.length co129] rfl mxp ?_; (with_reducible refine (laws_eqRecPhaseS.calls kj14 _ _ t885 _ _ t900 true _ ?side1 ?side2 ?side3 ?side4 A47.out).mono ?_); (case side1 => repeat (first | exact (Kd.R_reads' HO_8.out).2.2 | (with_reducible refine Kd.C_alloc ?_ _) | (with_reducible refine Kd.C_drewN ?_ _) | (with_reducible refine Kd.C_drew ?_))); (case side2 => exact (Kd.R_reads' HO_8.out).2.1); (case side3 => repeat (first | exact (Kd.R_reads' HO902.out).2.2 | (with_reducible refine Kd.C_alloc ?_ _) | (with_reducible refine Kd.C_drewN ?_ _) | (with_reducible refine Kd.C_drew ?_))); (case side4 => exact (Kd.R_reads' HO902.out).2.1); rintro e w130 ⟨rfl, hb⟩; refine ⟨_, rfl, ?_⟩; have n0_ := Aside0.mk (Kd.R_below (rx HO_7.out) hb); have n1_ := Aside0.mk (Kd.R_below (rx HO_8.out) hb); have n2_ := Aside0.mk (Kd.R_below (rx HO_9.out) hb); have n3_ := Aside0.mk (Kd.R_below (rx HO_11.out) hb); have n4_ := Aside0.mk (Kd.R_below (rx HO902.out) hb); have n5_ := up BK884 hb; have n6_ := up BK897 hb; have n7_ := bs HB hb; clear HO_7; clear HO_8; clear HO_9; clear HO_11; clear HO902; clear BK884; clear BK897; clear HB; have HO_7 := n0_; have HO_8 := n1_; have HO_9 := n2_; have HO_11 := n3_; have HO902 := n4_; have BK884 := n5_; have BK897 := n6_; have HB := n7_; clear n0_ n1_ n2_ n3_ n4_ n5_ n6_ n7_; (try clear hb); (try clear hb2); (try clear hk); (try clear hi)) | ((with_reducible refine gate_callee (f := 52) rfl ?_); refine goesL_ (some 62) rfl rfl Try.func52 (by kernel_rfl) rfl #[.slice A1 l1.length c1] rfl mxp ?_; (with_reducible refine (laws_toRecSayS.calls kj14 _ _ l1 t904 _ ?side1 ?side2 A49.out).mono ?_); (case side1 => exact cx (Kd.C_below HR1.out HB.out)); (case side2 => exact HC1.out); rintro e w131 ⟨v905, rfl, ho0, hb⟩; refine ⟨_, rfl, ?_⟩; have n0_ := Aside0.mk (Kd.R_below (rx HO_7.out) hb); have n1_ := Aside0.mk (Kd.R_below (rx HO_8.out) hb); have n2_ := Aside0.mk (Kd.R_elder' (rx HO_9.out) (Kd.R_base ho0) hb); have n3_ := Aside0.mk (Kd.R_below (rx HO_11.out) hb); have n4_ := Aside0.mk (Kd.R_below (rx HO902.out) hb); have n5_ := Aside0.mk (Kd.R_lower (Kd.R_new' ho0 (Kd.R_lt (rx HO_9.out))) (below_size (bw HB.out))); have n6_ := up BK884 hb; have n7_ := up BK897 hb; have n8_ := bs HB hb; clear HO_7; clear HO_8; clear HO_9; clear HO_11; clear HO902; clear BK884; clear BK897; clear HB; have HO_7 := n0_; have HO_8 := n1_; have HO_9 := n2_; have HO_11 := n3_; have HO902 := n4_; have HO906 := n5_; have BK884 := n6_; have BK897 := n7_; have HB := n8_; clear n0_ n1_ n2_ n3_ n4_ n5_ n6_ n7_ n8_; (try clear hb); (try clear hb2); (try clear hk); (try clear hi); (try clear ho0); obtain ⟨Ao132, co132, eo132⟩ := Kd.R_slice HO906.out; subst eo132) | ((with_reducible refine gate_callee (f := 54) rfl ?_); refine goesL_ (some 63) rfl rfl Try.func54 (by kernel_rfl) rfl #[.slice Ao27 t888.length co27, .slice Ao132 t904.length co132] rfl mxp ?_; (with_reducible refine (laws_eqRecSayS.calls kj14 _ _ t888 _ _ t904 false _ ?side1 ?side2 ?side3 ?side4 A50.out).mono ?_); (case side1 => repeat (first | exact (Kd.R_reads' HO_9.out).2.2 | (with_reducible refine Kd.C_alloc ?_ _) | (with_reducible refine Kd.C_drewN ?_ _) | (with_reducible refine Kd.C_drew ?_))); (case side2 => exact (Kd.R_reads' HO_9.out).2.1); (case side3 => repeat (first | exact (Kd.R_reads' HO906.out).2.2 | (with_reducible refine Kd.C_alloc ?_ _) | (with_reducible refine Kd.C_drewN ?_ _) | (with_reducible refine Kd.C_drew ?_))); (case side4 => exact (Kd.R_reads' HO906.out).2.1); rintro e w133 ⟨rfl, hb⟩; refine ⟨_, rfl, ?_⟩; have n0_ := Aside0.mk (Kd.R_below (rx HO_7.out) hb); have n1_ := Aside0.mk (Kd.R_below (rx HO_8.out) hb); have n2_ := Aside0.mk (Kd.R_below (rx HO_9.out) hb); have n3_ := Aside0.mk (Kd.R_below (rx HO_11.out) hb); have n4_ := Aside0.mk (Kd.R_below (rx HO902.out) hb); have n5_ := Aside0.mk (Kd.R_below (rx HO906.out) hb); have n6_ := up BK884 hb; have n7_ := up BK897 hb; have n8_ := bs HB hb; clear HO_7; clear HO_8; clear HO_9; clear HO_11; clear HO902; clear HO906; clear BK884; clear BK897; clear HB; have HO_7 := n0_; have HO_8 := n1_; have HO_9 := n2_; have HO_11 := n3_; have HO902 := n4_; have HO906 := n5_; have BK884 := n6_; have BK897 := n7_; have HB := n8_; clear n0_ n1_ n2_ n3_ n4_ n5_ n6_ n7_ n8_; (try clear hb); (try clear hb2); (try clear hk); (try clear hi)))
                go_ret
                exact ⟨exq, bw HB.out⟩
            · replace c48 := Bool.eq_false_iff.mpr c48
              subst c48
              have H1 : (some false) = some r := by rw [if_neg (show ¬ (false = true) by decide)] at H; exact H
              clear H
              have H := H1
              clear H1
              obtain rfl := Option.some.inj H
              go_wp2_with (first | ((with_reducible refine gate_callee (f := 38) rfl ?_); refine goesL_ (some 57) rfl rfl Try.func38 (by kernel_rfl) rfl #[.slice A0 l0.length c0] rfl mxp ?_; (with_reducible refine (laws_toRecPhaseS.calls kj14 _ _ l0 t900 _ ?side1 ?side2 A46.out).mono ?_); (case side1 => exact cx (Kd.C_below HR0.out HB.out)); (case side2 => exact HC0.out); rintro e w134 ⟨v901, rfl, ho0, hb⟩; refine ⟨_, rfl, ?_⟩; have n0_ := Aside0.mk (Kd.R_below (rx HO_7.out) hb); have n1_ := Aside0.mk (Kd.R_elder' (rx HO_8.out) (Kd.R_base ho0) hb); have n2_ := Aside0.mk (Kd.R_below (rx HO_9.out) hb); have n3_ := Aside0.mk (Kd.R_below (rx HO_11.out) hb); have n4_ := Aside0.mk (Kd.R_lower (Kd.R_new' ho0 (Kd.R_lt (rx HO_8.out))) (below_size (bw HB.out))); have n5_ := up BK884 hb; have n6_ := up BK897 hb; have n7_ := bs HB hb; clear HO_7; clear HO_8; clear HO_9; clear HO_11; clear BK884; clear BK897; clear HB; have HO_7 := n0_; have HO_8 := n1_; have HO_9 := n2_; have HO_11 := n3_; have HO902 := n4_; have BK884 := n5_; have BK897 := n6_; have HB := n7_; clear n0_ n1_ n2_ n3_ n4_ n5_ n6_ n7_; (try clear hb); (try clear hb2); (try clear hk); (try clear hi); (try clear ho0); obtain ⟨Ao135, co135, eo135⟩ := Kd.R_slice HO902.out; subst eo135) | ((with_reducible refine gate_callee (f := 39) rfl ?_); refine goesL_ (some 58) rfl rfl Try.func39 (by kernel_rfl) rfl #[.slice Ao26 t885.length co26, .slice Ao135 t900.length co135] rfl mxp ?_; (with_reducible refine (laws_eqRecPhaseS.calls kj14 _ _ t885 _ _ t900 false _ ?side1 ?side2 ?side3 ?side4 A47.out).mono ?_); (case side1 => repeat (first | exact (Kd.R_reads' HO_8.out).2.2 | (with_reducible refine Kd.C_alloc ?_ _) | (with_reducible refine Kd.C_drewN ?_ _) | (with_reducible refine Kd.C_drew ?_))); (case side2 => exact (Kd.R_reads' HO_8.out).2.1); (case side3 => repeat (first | exact (Kd.R_reads' HO902.out).2.2 | (with_reducible refine Kd.C_alloc ?_ _) | (with_reducible refine Kd.C_drewN ?_ _) | (with_reducible refine Kd.C_drew ?_))); (case side4 => exact (Kd.R_reads' HO902.out).2.1); rintro e w136 ⟨rfl, hb⟩; refine ⟨_, rfl, ?_⟩; have n0_ := Aside0.mk (Kd.R_below (rx HO_7.out) hb); have n1_ := Aside0.mk (Kd.R_below (rx HO_8.out) hb); have n2_ := Aside0.mk (Kd.R_below (rx HO_9.out) hb); have n3_ := Aside0.mk (Kd.R_below (rx HO_11.out) hb); have n4_ := Aside0.mk (Kd.R_below (rx HO902.out) hb); have n5_ := up BK884 hb; have n6_ := up BK897 hb; have n7_ := bs HB hb; clear HO_7; clear HO_8; clear HO_9; clear HO_11; clear HO902; clear BK884; clear BK897; clear HB; have HO_7 := n0_; have HO_8 := n1_; have HO_9 := n2_; have HO_11 := n3_; have HO902 := n4_; have BK884 := n5_; have BK897 := n6_; have HB := n7_; clear n0_ n1_ n2_ n3_ n4_ n5_ n6_ n7_; (try clear hb); (try clear hb2); (try clear hk); (try clear hi)))
              go_ret
              exact ⟨exq, bw HB.out⟩

end Go.Proofs.Ytdkologncoofdaa.P
-- Q1
namespace Go.Proofs.Ytdkologncoofdaa.P
open Go.RowKit Go.Proofs.YtdkologncoofdaaW.PrintWords Go.Proofs.YtdkologncoofdaaW.PrintLast
set_option linter.unusedVariables false
set_option linter.unusedSimpArgs false

/-- With enough rounds, and from there on, the answer is r. -/
def Evn {α : Type} (g : Nat → Option α) (r : α) : Prop := ∃ K, ∀ k, K ≤ k → g k = some r
theorem Evn.pure {α : Type} (r : α) : Evn (fun _ => some r) r := ⟨0, fun _ _ => rfl⟩
theorem Evn.bind {α β : Type} {g : Nat → Option α} {r : α} {h : Nat → α → Option β} {s : β} (h1 : Evn g r) (h2 : Evn (fun k => h k r) s) : Evn (fun k => (g k).bind (h k)) s := by
  obtain ⟨K1, h1⟩ := h1
  obtain ⟨K2, h2⟩ := h2
  exact ⟨max K1 K2, fun k hk => by show (g k).bind (h k) = some s; rw [h1 k (by omega)]; exact h2 k (by omega)⟩
theorem Evn.bind' {α β : Type} {r : α} {h : Nat → α → Option β} {s : β} (h2 : Evn (fun k => h k r) s) : Evn (fun k => (some r).bind (h k)) s := h2
theorem Evn.succ {α : Type} {g f : Nat → Option α} {r : α} (h : Evn f r) (e : ∀ k, g (k + 1) = f k) : Evn g r := by
  obtain ⟨K, h⟩ := h
  refine ⟨K + 1, fun k hk => ?_⟩
  obtain ⟨k, rfl⟩ : ∃ m, k = m + 1 := ⟨k - 1, by omega⟩
  rw [e]
  exact h k (by omega)
theorem Evn.congr {α : Type} {g f : Nat → Option α} {r : α} (h : Evn f r) (e : ∀ k, g k = f k) : Evn g r := by
  obtain ⟨K, h⟩ := h
  exact ⟨K, fun k hk => by rw [e]; exact h k hk⟩
theorem Evn.of {α : Type} {g : Nat → Option α} {r s : α} (h : Evn g r) (e : r = s) : Evn g s := e ▸ h
theorem Evn.yes {α : Type} {c : Prop} [Decidable c] {f g : Nat → Option α} {r : α} (hc : c) (h : Evn f r) : Evn (fun k => if c then f k else g k) r := h.congr fun k => if_pos hc
theorem Evn.no {α : Type} {c : Prop} [Decidable c] {f g : Nat → Option α} {r : α} (hc : ¬ c) (h : Evn g r) : Evn (fun k => if c then f k else g k) r := h.congr fun k => if_neg hc
theorem Evn.ite {α : Type} {c : Prop} [Decidable c] {f g : Nat → Option α} {r s : α} (h1 : c → Evn f r) (h2 : ¬ c → Evn g s) : Evn (fun k => if c then f k else g k) (if c then r else s) := by
  by_cases hc : c
  · rw [if_pos hc]; exact Evn.yes hc (h1 hc)
  · rw [if_neg hc]; exact Evn.no hc (h2 hc)
theorem Evn.ends {α : Type} {g : Nat → Option α} {r : α} (h : Evn g r) : ∃ k, g k = some r := by
  obtain ⟨K, h⟩ := h
  exact ⟨K, h K (Nat.le_refl _)⟩
/-- Of two answers there is one. -/
theorem Evn.one {α : Type} {g : Nat → Option α} {r s : α} (h : Evn g r) (h' : Evn g s) : r = s := by
  obtain ⟨K, h⟩ := h
  obtain ⟨K', h'⟩ := h'
  have := (h (max K K') (by omega)).symm.trans (h' (max K K') (by omega))
  exact Option.some.inj this

theorem wrap_id {x : Int} (h1 : -9223372036854775808 ≤ x) (h2 : x ≤ 9223372036854775807) : wrap64 x = x := by unfold wrap64; omega

/-! ### Ends -/
def endOf (a : ByteArray) : Int := if a.toList = ([103, 111, 111, 100] : List UInt8) then 1 else if a.toList = ([115, 97, 118, 101, 100] : List UInt8) then 2 else if a.toList = ([115, 99, 114, 97, 112, 112, 101, 100] : List UInt8) then 3 else 0
theorem endOf_range (a : ByteArray) : 0 ≤ endOf a ∧ endOf a ≤ 3 := by unfold endOf; split <;> (try split) <;> (try split) <;> omega
theorem spec_end (a : ByteArray) : spec_RecEnd.f a = some (endOf a) := by
  unfold spec_RecEnd.f endOf
  split <;> (try split) <;> (try split) <;> rfl
theorem impl_end (a : ByteArray) (k : Nat) : impl_RecEnd.f (k + 4) a = some (endOf a) := by
  have w0 : wrap64 1 = 1 := wrap_id (by omega) (by omega)
  have w1 : wrap64 2 = 2 := wrap_id (by omega) (by omega)
  have w2 : wrap64 3 = 3 := wrap_id (by omega) (by omega)
  have w3 : wrap64 0 = 0 := wrap_id (by omega) (by omega)
  unfold endOf impl_RecEnd.f slices_Index_string_string.f
  simp only [slices_Index_string_string.l0, rdOf, Option.bind_some, List.drop, List.length_cons, List.length_nil]
  by_cases c1 : a.toList = ([103, 111, 111, 100] : List UInt8)
  · simp [c1, w0]
  · by_cases c2 : a.toList = ([115, 97, 118, 101, 100] : List UInt8)
    · simp [c2, w0, w1]
    · by_cases c3 : a.toList = ([115, 99, 114, 97, 112, 112, 101, 100] : List UInt8)
      · simp [c3, w0, w1, w2]
      · simp [c1, c2, c3, w0, w1, w2, w3]
theorem impl_endE (a : ByteArray) : Evn (fun k => impl_RecEnd.f k a) (endOf a) := ⟨4, fun k hk => by
  obtain ⟨k, rfl⟩ : ∃ m, k = m + 4 := ⟨k - 4, by omega⟩
  exact impl_end a k⟩

/-! ### Between two bounds -/
def inB (a b c : Int) : Bool := decide (b ≤ a) && decide (a ≤ c)
theorem spec_in (a b c : Int) : spec_l1In.f a b c = some (inB a b c) := by
  unfold spec_l1In.f inB
  by_cases h : a ≥ b
  · rw [if_pos h]; simp [h]
  · rw [if_neg h]; simp [show ¬ b ≤ a from h]
theorem impl_in' (a b c : Int) : impl_in.f a b c = some (inB a b c) := by
  unfold impl_in.f inB
  by_cases h : a ≥ b
  · rw [if_pos h]; simp [h]
  · rw [if_neg h]; simp [show ¬ b ≤ a from h]
theorem inB_iff {a b c : Int} : inB a b c = true ↔ b ≤ a ∧ a ≤ c := by simp [inB]

/-! ### Names -/
def byteOk (x : Int) : Bool := (decide (97 ≤ x) && decide (x ≤ 122)) || (decide (48 ≤ x) && decide (x ≤ 57)) || decide (x = 45)
/-- All bytes from place i on are those of a name. -/
def tailOk (s : ByteArray) (i : Nat) : Bool := (List.range (s.size - i)).all fun j => byteOk (bt s ((i + j : Nat) : Int))
def nmOk (s : ByteArray) : Bool := inB (s.size : Int) 1 8 && tailOk s 0
theorem tailOk_end (s : ByteArray) (i : Nat) (h : s.size ≤ i) : tailOk s i = true := by
  unfold tailOk; rw [show s.size - i = 0 from by omega]; rfl
theorem tailOk_step (s : ByteArray) (i : Nat) (h : i < s.size) : tailOk s i = (byteOk (bt s (i : Int)) && tailOk s (i + 1)) := by
  unfold tailOk
  rw [show s.size - i = (s.size - (i + 1)) + 1 from by omega, List.range_succ_eq_map, List.all_cons, List.all_map]
  congr 1
  apply congrArg
  funext j
  simp only [Function.comp_apply, Nat.succ_eq_add_one]
  rw [show i + (j + 1) = i + 1 + j from by omega]

theorem nm_loop (s : ByteArray) (hs : s.size ≤ 8) (d : Nat) : ∀ (i : Nat) (k : Nat), i ≤ s.size → s.size - i = d → d < k →
    spec_l1NameOk.l0 k s (i : Int) = some (tailOk s i) ∧ impl_name.l0 k s (i : Int) = some (tailOk s i) := by
  induction d with
  | zero =>
    intro i k hi hd hk
    obtain ⟨k, rfl⟩ : ∃ m, k = m + 1 := ⟨k - 1, by omega⟩
    rw [tailOk_end s i (by omega)]
    simp only [spec_l1NameOk.l0, impl_name.l0]
    exact ⟨by rw [if_neg (by omega)], by rw [if_neg (by omega)]⟩
  | succ d ih =>
    intro i k hi hd hk
    obtain ⟨k, rfl⟩ : ∃ m, k = m + 1 := ⟨k - 1, by omega⟩
    obtain ⟨h1, h2⟩ := ih (i + 1) k (by omega) (by omega) (by omega)
    rw [tailOk_step s i (by omega)]
    simp only [spec_l1NameOk.l0, impl_name.l0]
    rw [show wrap64 ((i : Int) + 1) = ((i + 1 : Nat) : Int) from by rw [wrap_id (by omega) (by omega)]; omega, h1, h2]
    have key : ∀ (x : Int) (b : Bool), (if x ≥ 97 then (if x ≤ 122 then (some b) else (if x ≥ 48 then (if x ≤ 57 then (some b) else (if (x = 45) then (some b) else (some false))) else (if (x = 45) then (some b) else (some false)))) else (if x ≥ 48 then (if x ≤ 57 then (some b) else (if (x = 45) then (some b) else (some false))) else (if (x = 45) then (some b) else (some false)))) = some (byteOk x && b) := by
      intro x b
      unfold byteOk
      by_cases a1 : 97 ≤ x <;> by_cases a2 : x ≤ 122 <;> by_cases a3 : 48 ≤ x <;> by_cases a4 : x ≤ 57 <;> by_cases a5 : x = 45 <;> simp [a1, a2, a3, a4, a5] <;> omega
    exact ⟨by rw [if_pos (by omega), if_pos (by omega)]; exact key _ _, by rw [if_pos (by omega), if_pos (by omega)]; exact key _ _⟩
theorem spec_nm (s : ByteArray) (k : Nat) : spec_l1NameOk.f (k + 9) s = some (nmOk s) := by
  unfold spec_l1NameOk.f nmOk
  rw [spec_in, Option.bind_some]
  by_cases h : inB (s.size : Int) 1 8 = true
  · rw [if_pos h, h]
    have := inB_iff.1 h
    exact (nm_loop s (by omega) s.size 0 (k + 9) (by omega) (by omega) (by omega)).1
  · rw [if_neg h, Bool.eq_false_iff.2 h]; rfl
theorem impl_nm (s : ByteArray) (k : Nat) : impl_name.f (k + 9) s = some (nmOk s) := by
  unfold impl_name.f nmOk
  rw [impl_in', Option.bind_some]
  by_cases h : inB (s.size : Int) 1 8 = true
  · rw [if_pos h, h]
    have := inB_iff.1 h
    exact (nm_loop s (by omega) s.size 0 (k + 9) (by omega) (by omega) (by omega)).2
  · rw [if_neg h, Bool.eq_false_iff.2 h]; rfl

/-! ### Phases -/
def argsOk (x : S39) : Bool :=
  if x.f1 = 1 then nmOk x.f2 && nmOk x.f3 && inB x.f4 1 1000 else
  if x.f1 = 2 then nmOk x.f2 && nmOk x.f3 && (x.f2.toList != x.f3.toList) && inB x.f4 1 1000 else
  if x.f1 = 3 then nmOk x.f2 && decide (x.f3.toList = []) && inB x.f4 1 x.f5 else
  if x.f1 = 4 ∨ x.f1 = 5 then nmOk x.f2 && decide (x.f3.toList = []) && (x.f4 == 0) else false
def phOk (x : S39) : Bool := nmOk x.f0 && (endOf x.f0 == 0) && inB x.f5 1 1000 && argsOk x && nmOk x.f6 && nmOk x.f7

theorem spec_args (x : S39) (k : Nat) : spec_l1ArgsOk.f (k + 9) x.f0 x.f1 x.f2 x.f3 x.f4 x.f5 x.f6 x.f7 = some (argsOk x) := by
  unfold spec_l1ArgsOk.f argsOk
  simp only [spec_nm, spec_in, Option.bind_some]
  by_cases c1 : x.f1 = 1
  · rw [if_pos c1, if_pos c1]
    cases nmOk x.f2 <;> cases nmOk x.f3 <;> simp
  · rw [if_neg c1, if_neg c1]
    by_cases c2 : x.f1 = 2
    · rw [if_pos c2, if_pos c2]
      cases nmOk x.f2 <;> cases nmOk x.f3 <;> simp
      by_cases e : x.f2.toList = x.f3.toList <;> simp [e]
    · rw [if_neg c2, if_neg c2]
      by_cases c3 : x.f1 = 3
      · rw [if_pos c3, if_pos c3]
        cases nmOk x.f2 <;> simp
        by_cases e : x.f3.toList = [] <;> simp [e]
      · rw [if_neg c3, if_neg c3]
        by_cases c4 : x.f1 = 4
        · rw [if_pos c4, if_pos (Or.inl c4)]
          cases nmOk x.f2 <;> simp
          by_cases e : x.f3.toList = [] <;> simp [e]
        · rw [if_neg c4]
          by_cases c5 : x.f1 = 5
          · rw [if_pos c5, if_pos (Or.inr c5)]
            cases nmOk x.f2 <;> simp
            by_cases e : x.f3.toList = [] <;> simp [e]
          · rw [if_neg c5, if_neg (by omega)]
theorem spec_ph (x : S39) (k : Nat) : spec_RecPhaseOk.f (k + 9) x.f0 x.f1 x.f2 x.f3 x.f4 x.f5 x.f6 x.f7 = some (phOk x) := by
  unfold spec_RecPhaseOk.f phOk spec_l1PlainOk.f
  simp only [spec_nm, spec_in, spec_args, spec_end, Option.bind_some]
  generalize (endOf x.f0 == 0) = b
  cases nmOk x.f0 <;> cases b <;> cases inB x.f5 1 1000 <;> cases argsOk x <;> cases nmOk x.f6 <;> simp
theorem impl_j1 (x : S39) (c : Int) (b : Bool) (k : Nat) (hc : c = x.f1) (hb : b = (decide (x.f1 = 1) || decide (x.f1 = 2))) (hA : nmOk x.f2 = true) :
    impl_RecPhaseOk.j1 (k + 10) c b x.f0 x.f1 x.f2 x.f3 x.f4 x.f5 x.f6 x.f7 = some (argsOk x) := by
  subst hc
  simp only [impl_RecPhaseOk.j1]
  unfold argsOk
  simp only [impl_nm, impl_in', Option.bind_some, hA, Bool.true_and]
  by_cases c1 : x.f1 = 1
  · have : b = true := by rw [hb]; simp [c1]
    subst this
    cases nmOk x.f3 <;> cases inB x.f4 1 1000 <;> simp [c1]
  · by_cases c2 : x.f1 = 2
    · have : b = true := by rw [hb]; simp [c2]
      subst this
      cases nmOk x.f3 <;> cases inB x.f4 1 1000 <;> simp [c2]
    · have : b = false := by rw [hb]; simp [c1, c2]
      subst this
      by_cases c3 : x.f1 = 3
      · by_cases e : x.f3.toList = [] <;> simp [e, c3]
      · by_cases c4 : x.f1 = 4
        · by_cases e : x.f3.toList = [] <;> simp [e, c4]
        · by_cases c5 : x.f1 = 5
          · by_cases e : x.f3.toList = [] <;> simp [e, c5]
          · simp [c1, c2, c3, c4, c5]
theorem impl_j0F (x : S39) (k : Nat) : impl_RecPhaseOk.j0 (k + 1) true x.f0 x.f1 x.f2 x.f3 x.f4 x.f5 x.f6 x.f7 = some false := by
  simp [impl_RecPhaseOk.j0]
theorem impl_j0T (x : S39) (k : Nat) (hA : nmOk x.f2 = true) : impl_RecPhaseOk.j0 (k + 11) false x.f0 x.f1 x.f2 x.f3 x.f4 x.f5 x.f6 x.f7 = some (argsOk x) := by
  simp only [impl_RecPhaseOk.j0]
  rw [if_neg (by decide)]
  by_cases c1 : x.f1 = 1
  · rw [if_pos c1]
    exact impl_j1 x _ _ k rfl (by simp [c1]) hA
  · rw [if_neg c1]
    exact impl_j1 x _ _ k rfl (by rw [show decide (x.f1 = 1) = false from decide_eq_false c1]; rfl) hA
theorem argsOk_A (x : S39) (h : nmOk x.f2 = false) : argsOk x = false := by
  unfold argsOk; simp [h]
theorem impl_ph (x : S39) (k : Nat) : impl_RecPhaseOk.f (k + 11) x.f0 x.f1 x.f2 x.f3 x.f4 x.f5 x.f6 x.f7 = some (phOk x) := by
  unfold impl_RecPhaseOk.f phOk
  have e0 : ∀ s, impl_name.f (k + 11) s = some (nmOk s) := fun s => impl_nm s (k + 2)
  have e1 : impl_RecEnd.f (k + 11) x.f0 = some (endOf x.f0) := impl_end _ (k + 7)
  simp only [e0, e1, impl_in', Option.bind_some, impl_j0F x (k + 10)]
  cases h0 : nmOk x.f0
  · simp
  · rw [if_pos rfl]
    have hr := endOf_range x.f0
    by_cases he : endOf x.f0 > 0
    · rw [if_pos he, show (endOf x.f0 == 0) = false from beq_eq_false_iff_ne.2 (by omega)]; simp
    · rw [if_neg he, show (endOf x.f0 == 0) = true from beq_iff_eq.2 (by omega)]
      cases inB x.f5 1 1000
      · simp
      · rw [if_pos rfl]
        cases h2 : nmOk x.f2
        · rw [argsOk_A x h2]; simp
        · rw [if_pos rfl]
          cases h6 : nmOk x.f6
          · simp
          · rw [if_pos rfl]
            cases h7 : nmOk x.f7
            · simp [impl_j0F x (k + 10)]
            · simp [impl_j0T x k h2]

end Go.Proofs.Ytdkologncoofdaa.P
-- Q3
namespace Go.Proofs.Ytdkologncoofdaa.P
open Go.RowKit Go.Proofs.YtdkologncoofdaaW.PrintWords Go.Proofs.YtdkologncoofdaaW.PrintLast
set_option linter.unusedVariables false
set_option linter.unusedSimpArgs false

/-! ### Places -/
/-- The first place from i on of a phase of this name. -/
theorem atOf_range (l : List S39) (a : ByteArray) : -1 ≤ atOf l a ∧ atOf l a < (l.length : Int) := by
  unfold atOf
  cases h : l.findIdx? (fun p => p.f0.toList == a.toList) with
  | none => simp only; omega
  | some i =>
    obtain ⟨hlt, _⟩ := List.findIdx?_eq_some_iff_getElem.1 h
    simp only
    omega
theorem atOf_name (l : List S39) (a : ByteArray) (h : 0 ≤ atOf l a) : (rd_T39 l (atOf l a)).f0.toList = a.toList := by
  unfold atOf at h ⊢
  cases e : l.findIdx? (fun p => p.f0.toList == a.toList) with
  | none => rw [e] at h; simp at h
  | some i =>
    obtain ⟨hlt, h1, _⟩ := List.findIdx?_eq_some_iff_getElem.1 e
    simp only [rd_T39, Int.toNat_natCast]
    rw [List.getD_eq_getElem?_getD, List.getElem?_eq_getElem hlt]
    simpa using h1
theorem atOf_not (l : List S39) (a : ByteArray) (h : atOf l a < 0) (j : Nat) (hj : j < l.length) : (l.getD j z39).f0.toList ≠ a.toList := by
  unfold atOf at h
  cases e : l.findIdx? (fun p => p.f0.toList == a.toList) with
  | some i => rw [e] at h; simp only at h; omega
  | none =>
    have h2 := List.findIdx?_eq_none_iff.1 e (l.getD j z39) (by rw [List.getD_eq_getElem?_getD, List.getElem?_eq_getElem hj]; exact List.getElem_mem hj)
    simpa using h2
theorem at_loop (l : List S39) (a : ByteArray) (hl : l.length ≤ 9223372036854775807) (d : Nat) : ∀ (i k : Nat), i ≤ l.length → l.length - i = d → d < k →
    (∀ j, j < i → ((l.getD j z39).f0.toList == a.toList) = false) → spec_l2At.l0 k l a (i : Int) = some (atOf l a) := by
  induction d with
  | zero =>
    intro i k hi hd hk hb
    obtain ⟨k, rfl⟩ : ∃ m, k = m + 1 := ⟨k - 1, by omega⟩
    simp only [spec_l2At.l0]
    rw [if_neg (by omega), atOf_miss l a (fun j hj => hb j (by omega))]
  | succ d ih =>
    intro i k hi hd hk hb
    obtain ⟨k, rfl⟩ : ∃ m, k = m + 1 := ⟨k - 1, by omega⟩
    simp only [spec_l2At.l0]
    have e : rd_T39 l (i : Int) = l.getD i z39 := by simp [rd_T39]
    rw [if_pos (by omega), if_pos (by omega), e]
    by_cases h : (l.getD i z39).f0.toList = a.toList
    · rw [if_pos h, atOf_hit l a i (by omega) (by simpa using h) hb]
    · rw [if_neg h, show wrap64 ((i : Int) + 1) = ((i + 1 : Nat) : Int) from by rw [wrap_id (by omega) (by omega)]; omega]
      refine ih (i + 1) k (by omega) (by omega) (by omega) (fun j hj => ?_)
      by_cases e2 : j = i
      · subst e2; simpa using h
      · exact hb j (by omega)
theorem spec_at (l : List S39) (a : ByteArray) (hl : l.length ≤ 9223372036854775807) (k : Nat) (hk : l.length < k) : spec_l2At.f k l a = some (atOf l a) :=
  at_loop l a hl l.length 0 k (by omega) (by omega) hk (fun j hj => absurd hj (Nat.not_lt_zero _))

/-! ### Recipes -/
def refOk (l : List S39) (i : Int) (n : ByteArray) : Bool := !(endOf n == 0) || decide (i < atOf l n)
def okAt (l : List S39) (i : Nat) : Bool := phOk (rd_T39 l i) && (atOf l (rd_T39 l i).f0 == (i : Int)) && refOk l i (rd_T39 l i).f6 && refOk l i (rd_T39 l i).f7
def restOk (l : List S39) (i : Nat) : Bool := (List.range (l.length - i)).all fun j => okAt l (i + j)
def recOk (l : List S39) : Bool := inB (l.length : Int) 1 12 && restOk l 0
theorem restOk_end (l : List S39) (i : Nat) (h : l.length ≤ i) : restOk l i = true := by
  unfold restOk; rw [show l.length - i = 0 from by omega]; rfl
theorem restOk_step (l : List S39) (i : Nat) (h : i < l.length) : restOk l i = (okAt l i && restOk l (i + 1)) := by
  unfold restOk
  rw [show l.length - i = (l.length - (i + 1)) + 1 from by omega, List.range_succ_eq_map, List.all_cons, List.all_map]
  congr 1
  apply congrArg
  funext j
  simp only [Function.comp_apply, Nat.succ_eq_add_one]
  rw [show i + (j + 1) = i + 1 + j from by omega]
theorem recOk_at (l : List S39) (h : recOk l = true) (i : Nat) (hi : i < l.length) : okAt l i = true := by
  unfold recOk restOk at h
  simp only [Bool.and_eq_true, List.all_eq_true] at h
  have := h.2 i (List.mem_range.2 (by omega))
  simpa using this
theorem recOk_len (l : List S39) (h : recOk l = true) : 1 ≤ l.length ∧ l.length ≤ 12 := by
  unfold recOk at h
  simp only [Bool.and_eq_true, inB_iff] at h
  omega

theorem spec_ok_loop (l : List S39) (hl : l.length ≤ 12) (d : Nat) : ∀ (i k : Nat), i ≤ l.length → l.length - i = d → 2 * d + 20 ≤ k → spec_RecOk.l0 k l (i : Int) = some (restOk l i) := by
  induction d with
  | zero =>
    intro i k hi hd hk
    obtain ⟨k, rfl⟩ : ∃ m, k = m + 1 := ⟨k - 1, by omega⟩
    simp only [spec_RecOk.l0]
    rw [if_neg (by omega), restOk_end l i (by omega)]
  | succ d ih =>
    intro i k hi hd hk
    obtain ⟨k, rfl⟩ : ∃ m, k = m + 2 := ⟨k - 2, by omega⟩
    have hi' := ih (i + 1) k (by omega) (by omega) (by omega)
    have hw : wrap64 ((i : Int) + 1) = ((i + 1 : Nat) : Int) := by rw [wrap_id (by omega) (by omega)]; omega
    have hph : spec_RecPhaseOk.f (k + 1) (rd_T39 l i).f0 (rd_T39 l i).f1 (rd_T39 l i).f2 (rd_T39 l i).f3 (rd_T39 l i).f4 (rd_T39 l i).f5 (rd_T39 l i).f6 (rd_T39 l i).f7 = some (phOk (rd_T39 l i)) := by
      obtain ⟨m, hm⟩ : ∃ m, k + 1 = m + 9 := ⟨k - 8, by omega⟩
      rw [hm]; exact spec_ph _ m
    have hat : ∀ n, spec_l2At.f (k + 1) l n = some (atOf l n) := fun n => spec_at l n (by omega) _ (by omega)
    have hat' : ∀ n, spec_l2At.f k l n = some (atOf l n) := fun n => spec_at l n (by omega) _ (by omega)
    simp only [spec_RecOk.l0]
    rw [if_pos (by omega), if_pos (by omega), hph, Option.bind_some, hat, Option.bind_some, restOk_step l i (by omega)]
    unfold okAt
    cases h1 : phOk (rd_T39 l i)
    · rw [if_neg (by decide)]
      simp [spec_RecOk.j1]
    · rw [if_pos rfl]
      simp only [spec_RecOk.j1]
      by_cases h2 : atOf l (rd_T39 l i).f0 = (i : Int)
      · rw [if_neg (by simp [h2]), if_pos (by omega), if_pos (by omega), spec_end, Option.bind_some, spec_end, Option.bind_some, hat', hat', Option.bind_some, Option.bind_some, hw, hi']
        unfold refOk
        rw [show (atOf l (rd_T39 l i).f0 == (i : Int)) = true from beq_iff_eq.2 h2]
        by_cases e6 : endOf (rd_T39 l i).f6 = 0 <;> by_cases e7 : endOf (rd_T39 l i).f7 = 0 <;> by_cases a6 : atOf l (rd_T39 l i).f6 ≤ (i : Int) <;> by_cases a7 : atOf l (rd_T39 l i).f7 ≤ (i : Int) <;>
          simp [e6, e7, a6, a7, show (decide ((i : Int) < atOf l (rd_T39 l i).f6)) = !(decide (atOf l (rd_T39 l i).f6 ≤ (i : Int))) from by simp [← decide_not, Int.not_le], show (decide ((i : Int) < atOf l (rd_T39 l i).f7)) = !(decide (atOf l (rd_T39 l i).f7 ≤ (i : Int))) from by simp [← decide_not, Int.not_le]]
      · rw [if_pos (by simpa using h2), show (atOf l (rd_T39 l i).f0 == (i : Int)) = false from beq_eq_false_iff_ne.2 h2]
        simp
theorem spec_ok (l : List S39) (k : Nat) (hk : 44 ≤ k) : spec_RecOk.f k l = some (recOk l) := by
  unfold spec_RecOk.f recOk
  rw [spec_in, Option.bind_some]
  by_cases h : inB (l.length : Int) 1 12 = true
  · rw [if_pos h, h]
    have := inB_iff.1 h
    exact spec_ok_loop l (by omega) l.length 0 k (by omega) (by omega) (by omega)
  · rw [if_neg h, Bool.eq_false_iff.2 h]; rfl

/-- What stands behind a pair of names. -/
theorem impl_pair (l : List S39) (i : Nat) (x12 : Int) (k : Nat) (hk : 10 ≤ k) (n6 n7 : ByteArray) (r : Bool) (h0 : impl_RecOk.l0 k l l x12 (wrap64 ((i : Int) + 1)) = some r) :
    impl_RecOk.l1 (k + 3) l i l x12 i [n6, n7] 2 0 = some (refOk l i n6 && (refOk l i n7 && r)) := by
  have he : ∀ n m, 4 ≤ m → impl_RecEnd.f m n = some (endOf n) := fun n m hm => by
    obtain ⟨q, rfl⟩ : ∃ q, m = q + 4 := ⟨m - 4, by omega⟩
    exact impl_end n q
  have w1 : wrap64 (0 + 1) = 1 := wrap_id (by omega) (by omega)
  have w2 : wrap64 (1 + 1) = 2 := wrap_id (by omega) (by omega)
  have e0 : rdOf ByteArray.empty [n6, n7] 0 = n6 := rfl
  have e1 : rdOf ByteArray.empty [n6, n7] 1 = n7 := rfl
  simp only [impl_RecOk.l1, impl_at.f, w1, w2, e0, e1, List.length_cons, List.length_nil, he n6 (k + 2) (by omega), he n7 (k + 1) (by omega), Option.bind_some, h0]
  unfold refOk
  by_cases e6 : endOf n6 = 0 <;> by_cases e7 : endOf n7 = 0 <;> by_cases a6 : atOf l n6 ≤ (i : Int) <;> by_cases a7 : atOf l n7 ≤ (i : Int) <;>
    simp [show (endOf n6 == 0) = decide (endOf n6 = 0) from rfl, show (endOf n7 == 0) = decide (endOf n7 = 0) from rfl, e6, e7, a6, a7, show (decide ((i : Int) < atOf l n6)) = !(decide (atOf l n6 ≤ (i : Int))) from by simp [← decide_not, Int.not_le], show (decide ((i : Int) < atOf l n7)) = !(decide (atOf l n7 ≤ (i : Int))) from by simp [← decide_not, Int.not_le]]
theorem impl_ok_loop (l : List S39) (hl : l.length ≤ 12) (d : Nat) : ∀ (i k : Nat), i ≤ l.length → l.length - i = d → 5 * d + 20 ≤ k → impl_RecOk.l0 k l l (l.length : Int) (i : Int) = some (restOk l i) := by
  induction d with
  | zero =>
    intro i k hi hd hk
    obtain ⟨k, rfl⟩ : ∃ m, k = m + 1 := ⟨k - 1, by omega⟩
    simp only [impl_RecOk.l0]
    rw [if_neg (by omega), restOk_end l i (by omega)]
  | succ d ih =>
    intro i k hi hd hk
    obtain ⟨k, rfl⟩ : ∃ m, k = m + 5 := ⟨k - 5, by omega⟩
    have hi' := ih (i + 1) k (by omega) (by omega) (by omega)
    have hw : wrap64 ((i : Int) + 1) = ((i + 1 : Nat) : Int) := by rw [wrap_id (by omega) (by omega)]; omega
    have hph : impl_RecPhaseOk.f (k + 4) (rd_T39 l i).f0 (rd_T39 l i).f1 (rd_T39 l i).f2 (rd_T39 l i).f3 (rd_T39 l i).f4 (rd_T39 l i).f5 (rd_T39 l i).f6 (rd_T39 l i).f7 = some (phOk (rd_T39 l i)) := by
      obtain ⟨m, hm⟩ : ∃ m, k + 4 = m + 11 := ⟨k - 7, by omega⟩
      rw [hm]; exact impl_ph _ m
    have hp := impl_pair l i (l.length : Int) k (by omega) (rd_T39 l i).f6 (rd_T39 l i).f7 (restOk l (i + 1)) (by rw [hw]; exact hi')
    simp only [impl_RecOk.l0]
    rw [if_pos (by omega), if_pos (by omega), if_pos (by omega), hph, Option.bind_some, restOk_step l i (by omega)]
    unfold okAt
    cases h1 : phOk (rd_T39 l i)
    · rw [if_neg (by decide)]
      simp [impl_RecOk.j1]
    · rw [if_pos rfl]
      simp only [impl_RecOk.j1, impl_at.f, Option.bind_some]
      by_cases h2 : atOf l (rd_T39 l i).f0 = (i : Int)
      · rw [if_neg (by simp [h2])]
        simp only [List.length_cons, List.length_nil]
        rw [show (((0 + 1 + 1 : Nat) : Int)) = 2 from rfl, hp, show (atOf l (rd_T39 l i).f0 == (i : Int)) = true from beq_iff_eq.2 h2]
        simp only [Bool.true_and, Bool.and_assoc]
      · rw [if_pos (by simpa using h2), show (atOf l (rd_T39 l i).f0 == (i : Int)) = false from beq_eq_false_iff_ne.2 h2]
        simp
theorem impl_ok (l : List S39) (k : Nat) (hk : 80 ≤ k) : impl_RecOk.f k l = some (recOk l) := by
  unfold impl_RecOk.f recOk
  rw [impl_in', Option.bind_some]
  by_cases h : inB (l.length : Int) 1 12 = true
  · rw [if_pos h, h]
    have := inB_iff.1 h
    exact impl_ok_loop l (by omega) l.length 0 k (by omega) (by omega) (by omega)
  · rw [if_neg h, Bool.eq_false_iff.2 h]; rfl

end Go.Proofs.Ytdkologncoofdaa.P
-- Q4
namespace Go.Proofs.Ytdkologncoofdaa.P
open Go.RowKit Go.Proofs.YtdkologncoofdaaW.PrintWords Go.Proofs.YtdkologncoofdaaW.PrintLast
set_option linter.unusedVariables false
set_option linter.unusedSimpArgs false

/-! ### Arguments measured, copied, compared -/
theorem sz_some (x : S48) (n : Int) : ∃ r, laws_szRecPhase.f x.f0 x.f1 x.f2 x.f3 x.f4 x.f5 x.f6 x.f7 n = some r := by
  unfold laws_szRecPhase.f
  repeat' split
  all_goals exact ⟨_, rfl⟩

theorem szS_loop (l : List S48) (hl : l.length ≤ 1048576) (d : Nat) : ∀ (i k : Nat) (n : Int), i ≤ l.length → l.length - i = d → d < k → ∃ r, laws_szRecPhaseS.l0 k l n (i : Int) = some r := by
  induction d with
  | zero =>
    intro i k n hi hd hk
    obtain ⟨k, rfl⟩ : ∃ m, k = m + 1 := ⟨k - 1, by omega⟩
    simp only [laws_szRecPhaseS.l0]
    rw [if_neg (by omega)]
    exact ⟨_, rfl⟩
  | succ d ih =>
    intro i k n hi hd hk
    obtain ⟨k, rfl⟩ : ∃ m, k = m + 1 := ⟨k - 1, by omega⟩
    simp only [laws_szRecPhaseS.l0]
    rw [if_pos (by omega), if_pos (by omega)]
    obtain ⟨r, hr⟩ := sz_some (rd_T48 l i) n
    rw [hr, Option.bind_some, show wrap64 ((i : Int) + 1) = ((i + 1 : Nat) : Int) from by rw [wrap_id (by omega) (by omega)]; omega]
    by_cases h : r < 0
    · rw [if_pos h]; exact ⟨_, rfl⟩
    · rw [if_neg h]; exact ih (i + 1) k r (by omega) (by omega) (by omega)
/-- The arguments' size: an answer; and if it is none of a refusal, the slice is short. -/
theorem szS (l : List S48) (hl : l.length ≤ 9223372036854775807) (k : Nat) (hk : 1048577 < k) : ∃ r, laws_szRecPhaseS.f k l 1048576 = some r ∧ (¬ r < 0 → l.length ≤ 1048576) := by
  unfold laws_szRecPhaseS.f
  rw [wrap_id (by omega) (by omega)]
  by_cases h : 1048576 - (l.length : Int) < 0
  · rw [if_pos h]; exact ⟨-1, rfl, fun h2 => absurd (show (-1 : Int) < 0 by omega) h2⟩
  · rw [if_neg h]
    obtain ⟨r, hr⟩ := szS_loop l (by omega) l.length 0 k (1048576 - (l.length : Int)) (by omega) (by omega) (by omega)
    exact ⟨r, hr, fun _ => by omega⟩
def to39 (x : S48) : S39 := ⟨x.f0, x.f1, x.f2, x.f3, x.f4, x.f5, x.f6, x.f7⟩
theorem toS_loop (l : List S48) (hl : l.length ≤ 1048576) (d : Nat) : ∀ (i k : Nat) (acc : List S39), i ≤ l.length → l.length - i = d → d < k → acc.length = l.length → acc.take i = (l.map to39).take i →
    laws_toRecPhaseS.l0 k l acc (i : Int) = some (l.map to39) := by
  induction d with
  | zero =>
    intro i k acc hi hd hk ha ht
    obtain ⟨k, rfl⟩ : ∃ m, k = m + 1 := ⟨k - 1, by omega⟩
    simp only [laws_toRecPhaseS.l0]
    rw [if_neg (by omega)]
    rw [List.take_of_length_le (by omega), List.take_of_length_le (by rw [List.length_map]; omega)] at ht
    rw [ht]
  | succ d ih =>
    intro i k acc hi hd hk ha ht
    obtain ⟨k, rfl⟩ : ∃ m, k = m + 1 := ⟨k - 1, by omega⟩
    simp only [laws_toRecPhaseS.l0, laws_toRecPhase.f, Option.bind_some]
    rw [if_pos (by omega), if_pos (by omega), if_pos (by omega), show wrap64 ((i : Int) + 1) = ((i + 1 : Nat) : Int) from by rw [wrap_id (by omega) (by omega)]; omega, Int.toNat_natCast]
    refine ih (i + 1) k _ (by omega) (by omega) (by omega) (by rw [List.length_set]; exact ha) ?_
    have hil : i < l.length := by omega
    have e : rd_T48 l (i : Int) = l[i] := by simp [rd_T48, List.getD_eq_getElem?_getD, List.getElem?_eq_getElem hil]
    rw [e, List.take_succ_eq_append_getElem (by rw [List.length_set]; omega), List.take_succ_eq_append_getElem (by rw [List.length_map]; omega), List.take_set_of_le (by omega), ht]
    simp [to39]
theorem toS (l : List S48) (hl : l.length ≤ 1048576) (k : Nat) (hk : 1048577 < k) : laws_toRecPhaseS.f k l = some (l.map to39) := by
  unfold laws_toRecPhaseS.f
  rw [if_pos (by omega), Int.toNat_natCast, if_pos (by omega)]
  exact toS_loop l hl l.length 0 k _ (by omega) (by omega) (by omega) (by simp) (by simp)
theorem eqP_self (x : S39) : laws_eqRecPhase.f x.f0 x.f1 x.f2 x.f3 x.f4 x.f5 x.f6 x.f7 x.f0 x.f1 x.f2 x.f3 x.f4 x.f5 x.f6 x.f7 = some true := by
  unfold laws_eqRecPhase.f
  simp
theorem eqS_loop (l : List S39) (hl : l.length ≤ 1048576) (d : Nat) : ∀ (i k : Nat), i ≤ l.length → l.length - i = d → d < k → laws_eqRecPhaseS.l0 k l l (i : Int) = some true := by
  induction d with
  | zero =>
    intro i k hi hd hk
    obtain ⟨k, rfl⟩ : ∃ m, k = m + 1 := ⟨k - 1, by omega⟩
    simp only [laws_eqRecPhaseS.l0]
    rw [if_neg (by omega)]
  | succ d ih =>
    intro i k hi hd hk
    obtain ⟨k, rfl⟩ : ∃ m, k = m + 1 := ⟨k - 1, by omega⟩
    simp only [laws_eqRecPhaseS.l0]
    rw [if_pos (by omega), if_pos (by omega), if_pos (by omega), eqP_self, Option.bind_some, if_pos rfl, show wrap64 ((i : Int) + 1) = ((i + 1 : Nat) : Int) from by rw [wrap_id (by omega) (by omega)]; omega]
    exact ih (i + 1) k (by omega) (by omega) (by omega)
theorem eqS (l : List S39) (hl : l.length ≤ 1048576) (k : Nat) (hk : 1048577 < k) : laws_eqRecPhaseS.f k l l = some true := by
  unfold laws_eqRecPhaseS.f
  rw [if_pos rfl]
  exact eqS_loop l hl l.length 0 k (by omega) (by omega) (by omega)

/-! ### The bound -/
/-- How many steps there may be from here. -/
def rk (l : List S39) (a : ByteArray) : Nat := (if atOf l a < 0 then 0 else (l.length : Int) - atOf l a).toNat
def bnd (l : List S39) : Nat → ByteArray → Int
  | 0, _ => 0
  | n + 1, a => if atOf l a < 0 then 0 else (rd_T39 l (atOf l a)).f5 + max (bnd l n (rd_T39 l (atOf l a)).f6) (bnd l n (rd_T39 l (atOf l a)).f7)
/-- RecBound of a recipe that is ok. -/
def boundOf (l : List S39) (a : ByteArray) : Int := bnd l 13 a
theorem end_no (l : List S39) (h : recOk l = true) (a : ByteArray) (ha : ¬ endOf a = 0) : atOf l a < 0 := by
  rcases Int.lt_or_le (atOf l a) 0 with h0 | h0
  · exact h0
  · have hr := atOf_range l a
    obtain ⟨i, hi⟩ := Int.eq_ofNat_of_zero_le h0
    have hn := atOf_name l a h0
    have hok := recOk_at l h i (by omega)
    unfold okAt phOk at hok
    simp only [Bool.and_eq_true, beq_iff_eq] at hok
    have e : endOf (rd_T39 l (atOf l a)).f0 = endOf a := by unfold endOf; rw [hn]
    rw [hi] at e
    omega
theorem ok_ref (l : List S39) (h : recOk l = true) (a : ByteArray) (h0 : ¬ atOf l a < 0) :
    rk l (rd_T39 l (atOf l a)).f6 < rk l a ∧ rk l (rd_T39 l (atOf l a)).f7 < rk l a ∧ 1 ≤ (rd_T39 l (atOf l a)).f5 ∧ (rd_T39 l (atOf l a)).f5 ≤ 1000 := by
  have hr := atOf_range l a
  obtain ⟨i, hi⟩ := Int.eq_ofNat_of_zero_le (show 0 ≤ atOf l a by omega)
  have hok := recOk_at l h i (by omega)
  unfold okAt at hok
  simp only [Bool.and_eq_true] at hok
  obtain ⟨⟨⟨h1, _⟩, h6⟩, h7⟩ := hok
  have key : ∀ n, refOk l (i : Int) n = true → rk l n < rk l a := by
    intro n hn
    have hrn := atOf_range l n
    unfold rk
    rw [if_neg h0]
    unfold refOk at hn
    simp only [Bool.or_eq_true, Bool.not_eq_true', beq_eq_false_iff_ne, decide_eq_true_eq] at hn
    rcases hn with hn | hn
    · rw [if_pos (end_no l h n hn)]; omega
    · rw [if_neg (by omega)]; omega
  rw [hi]
  refine ⟨key _ h6, key _ h7, ?_⟩
  unfold phOk at h1
  simp only [Bool.and_eq_true, inB_iff] at h1
  exact h1.1.1.1.2
theorem bnd_bound (l : List S39) (h : recOk l = true) (n : Nat) : ∀ a, 0 ≤ bnd l n a ∧ bnd l n a ≤ 1000 * (n : Int) := by
  induction n with
  | zero => intro a; simp [bnd]
  | succ n ih =>
    intro a
    simp only [bnd]
    by_cases h0 : atOf l a < 0
    · rw [if_pos h0]; omega
    · rw [if_neg h0]
      have hx := ok_ref l h a h0
      have h6 := ih (rd_T39 l (atOf l a)).f6
      have h7 := ih (rd_T39 l (atOf l a)).f7
      omega
theorem bnd_more (l : List S39) (h : recOk l = true) (n : Nat) : ∀ a m, rk l a < n → rk l a < m → bnd l n a = bnd l m a := by
  induction n with
  | zero => intro a m hn; omega
  | succ n ih =>
    intro a m hn hm
    obtain ⟨m, rfl⟩ : ∃ q, m = q + 1 := ⟨m - 1, by omega⟩
    simp only [bnd]
    by_cases h0 : atOf l a < 0
    · rw [if_pos h0, if_pos h0]
    · rw [if_neg h0, if_neg h0]
      have hx := ok_ref l h a h0
      rw [ih _ m (by omega) (by omega), ih (rd_T39 l (atOf l a)).f7 m (by omega) (by omega)]
theorem rk_le (l : List S39) (h : recOk l = true) (a : ByteArray) : rk l a ≤ 12 := by
  have := recOk_len l h
  unfold rk
  split <;> omega
theorem boundOf_step (l : List S39) (h : recOk l = true) (a : ByteArray) : boundOf l a = if atOf l a < 0 then 0 else (rd_T39 l (atOf l a)).f5 + max (boundOf l (rd_T39 l (atOf l a)).f6) (boundOf l (rd_T39 l (atOf l a)).f7) := by
  unfold boundOf
  rw [bnd_more l h 13 a 14 (by have := rk_le l h a; omega) (by have := rk_le l h a; omega)]
  rfl
theorem boundOf_range (l : List S39) (h : recOk l = true) (a : ByteArray) : 0 ≤ boundOf l a ∧ boundOf l a ≤ 13000 := by
  have := bnd_bound l h 13 a
  unfold boundOf
  omega
theorem mx_eq (a b : Int) : mx a b = max a b := by unfold mx; omega
theorem bound_both (l : List S39) (h : recOk l = true) (n : Nat) : ∀ a k, n ≤ 100 → rk l a < n → n + 14 ≤ k → impl_bound.f k l a = some (bnd l n a) ∧ spec_l2Bound.f k l a = some (bnd l n a) := by
  induction n with
  | zero => intro a k _ hn; omega
  | succ n ih =>
    intro a k hn1 hn hk
    obtain ⟨k, rfl⟩ : ∃ m, k = m + 1 := ⟨k - 1, by omega⟩
    have hlen := recOk_len l h
    have hr := atOf_range l a
    simp only [impl_bound.f, spec_l2Bound.f, impl_at.f, spec_at l a (by omega) k (by omega), Option.bind_some, bnd]
    by_cases h0 : atOf l a < 0
    · rw [if_pos h0, if_pos h0, if_pos h0]; exact ⟨rfl, rfl⟩
    · have hx := ok_ref l h a h0
      obtain ⟨a6, b6⟩ := ih (rd_T39 l (atOf l a)).f6 k (by omega) (by omega) (by omega)
      obtain ⟨a7, b7⟩ := ih (rd_T39 l (atOf l a)).f7 k (by omega) (by omega) (by omega)
      have r6 := bnd_bound l h n (rd_T39 l (atOf l a)).f6
      have r7 := bnd_bound l h n (rd_T39 l (atOf l a)).f7
      rw [if_neg h0, if_neg h0, if_neg h0, if_pos (by omega), if_pos (by omega), if_pos (by omega), if_pos (by omega), a6, a7, b6, b7]
      simp only [Option.bind_some]
      rw [mx_eq]
      refine ⟨by rw [wrap_id (by omega) (by omega)], ?_⟩
      by_cases hlt : bnd l n (rd_T39 l (atOf l a)).f6 < bnd l n (rd_T39 l (atOf l a)).f7
      · rw [if_pos hlt, wrap_id (by omega) (by omega), Int.max_eq_right (by omega), Int.add_comm]
      · rw [if_neg hlt, wrap_id (by omega) (by omega), Int.max_eq_left (by omega), Int.add_comm]
theorem impl_bd (l : List S39) (h : recOk l = true) (a : ByteArray) (k : Nat) (hk : 27 ≤ k) : impl_bound.f k l a = some (boundOf l a) := (bound_both l h 13 a k (by omega) (by have := rk_le l h a; omega) (by omega)).1
theorem spec_bd (l : List S39) (h : recOk l = true) (a : ByteArray) (k : Nat) (hk : 27 ≤ k) : spec_l2Bound.f k l a = some (boundOf l a) := (bound_both l h 13 a k (by omega) (by have := rk_le l h a; omega) (by omega)).2

end Go.Proofs.Ytdkologncoofdaa.P
-- Q5
namespace Go.Proofs.Ytdkologncoofdaa.P
open Go.RowKit Go.Proofs.YtdkologncoofdaaW.PrintWords Go.Proofs.YtdkologncoofdaaW.PrintLast
set_option linter.unusedVariables false
set_option linter.unusedSimpArgs false

theorem map_le2 (l : List S48) (h : l.length ≤ 1048576) : (l.map to39).length ≤ 1048576 := by rw [List.length_map]; exact h

/-! ### The begin -/
def beginOf (l : List S39) : ByteArray × Int × Int := if recOk l = true then ((rd_T39 l 0).f0, 0, boundOf l (rd_T39 l 0).f0) else (⟨#[]⟩, 0, 0)
theorem spec_bg (l : List S39) (k : Nat) (hk : 80 ≤ k) : spec_RecBegin.f k l = some (beginOf l) := by
  unfold spec_RecBegin.f beginOf spec_l4At.f
  rw [spec_ok l k (by omega), Option.bind_some]
  by_cases h : recOk l = true
  · have := recOk_len l h
    rw [if_pos h, if_pos h, if_pos (by omega), spec_bd l h _ k (by omega)]; rfl
  · rw [if_neg h, if_neg h]
theorem impl_bg (l : List S39) (k : Nat) (hk : 80 ≤ k) : impl_RecBegin.f k l = some (beginOf l) := by
  unfold impl_RecBegin.f beginOf
  rw [impl_ok l k (by omega), Option.bind_some]
  by_cases h : recOk l = true
  · have := recOk_len l h
    rw [if_pos h, if_pos h, if_pos (by omega), impl_bd l h _ k (by omega)]; rfl
  · rw [if_neg h, if_neg h]
theorem eqState_self (a : ByteArray) (b c : Int) : laws_eqRecState.f a b c a b c = some true := by
  unfold laws_eqRecState.f
  simp

end Go.Proofs.Ytdkologncoofdaa.P
-- Q6
namespace Go.Proofs.Ytdkologncoofdaa.P
open Go.RowKit Go.Proofs.YtdkologncoofdaaW.PrintWords Go.Proofs.YtdkologncoofdaaW.PrintLast
set_option linter.unusedVariables false
set_option linter.unusedSimpArgs false

/-- How long a phase takes, and whether it goes well. -/
def tickOf (p : S39) (t : Int) (w : Bool) : Int := if max t 0 > p.f5 then p.f5 else if w = true ∧ p.f1 = 3 then max (max t 0) p.f4 else max t 0
def wellOf (p : S39) (t : Int) (w : Bool) : Bool := if max t 0 > p.f5 then false else w
def nextOf (p : S39) (t : Int) (w : Bool) : ByteArray := if wellOf p t w = true then p.f6 else p.f7
def canGo (l : List S39) (a : ByteArray) (now : Int) : Bool := recOk l && !(decide (atOf l a < 0)) && inB now 0 12000
def goOf (l : List S39) (a : ByteArray) (now left : Int) (t : Int) (w : Bool) : ByteArray × Int × Int × Bool :=
  if canGo l a now = true then (nextOf (rd_T39 l (atOf l a)) t w, now + tickOf (rd_T39 l (atOf l a)) t w, boundOf l (nextOf (rd_T39 l (atOf l a)) t w), true) else (a, now, left, false)

theorem phase_of (l : List S39) (h : recOk l = true) (a : ByteArray) (h0 : ¬ atOf l a < 0) : phOk (rd_T39 l (atOf l a)) = true := by
  have hr := atOf_range l a
  obtain ⟨i, hi⟩ := Int.eq_ofNat_of_zero_le (show 0 ≤ atOf l a by omega)
  have hok := recOk_at l h i (by omega)
  unfold okAt at hok
  simp only [Bool.and_eq_true] at hok
  rw [hi]
  exact hok.1.1.1
theorem ph_within (p : S39) (h : phOk p = true) : 1 ≤ p.f5 ∧ p.f5 ≤ 1000 := by
  unfold phOk at h
  simp only [Bool.and_eq_true, inB_iff] at h
  exact h.1.1.1.2
theorem ph_hold (p : S39) (h : phOk p = true) (h3 : p.f1 = 3) : 1 ≤ p.f4 ∧ p.f4 ≤ p.f5 := by
  unfold phOk argsOk at h
  rw [if_neg (by omega), if_neg (by omega), if_pos h3] at h
  simp only [Bool.and_eq_true, inB_iff] at h
  exact h.1.1.2.2
theorem tick_range (p : S39) (h : phOk p = true) (t : Int) (w : Bool) : 0 ≤ tickOf p t w ∧ tickOf p t w ≤ p.f5 := by
  have := ph_within p h
  unfold tickOf
  split
  · omega
  · split
    · rename_i h3
      have := ph_hold p h h3.2
      omega
    · omega

theorem impl_go_j1 (l : List S39) (h : recOk l = true) (t : Int) (w : Bool) (a : ByteArray) (now left : Int) (p : S39) (k : Nat) (hk : 28 ≤ k) (hp : phOk p = true) (ht : 0 ≤ t ∧ t ≤ 1000) (hn : 0 ≤ now ∧ now ≤ 12000) :
    impl_RecGo.j1 k l t w a now left p.f0 p.f1 p.f2 p.f3 p.f4 p.f5 p.f6 p.f7 = some (if w = true then p.f6 else p.f7, now + (if w = true ∧ p.f1 = 3 then max t p.f4 else t), boundOf l (if w = true then p.f6 else p.f7), true) := by
  obtain ⟨k, rfl⟩ : ∃ m, k = m + 1 := ⟨k - 1, by omega⟩
  simp only [impl_RecGo.j1, impl_bd l h _ k (by omega), Option.bind_some]
  cases w
  · rw [if_neg (by decide), if_neg (by decide), if_neg (by simp), wrap_id (by omega) (by omega)]
  · by_cases h3 : p.f1 = 3
    · have := ph_hold p hp h3
      have := ph_within p hp
      rw [if_pos rfl, if_pos h3, if_pos rfl, if_pos ⟨rfl, h3⟩, mx_eq, wrap_id (by omega) (by omega)]
    · rw [if_pos rfl, if_neg h3, if_pos rfl, if_neg (fun z => h3 z.2), wrap_id (by omega) (by omega)]
theorem impl_go_j0 (l : List S39) (h : recOk l = true) (t : Int) (w : Bool) (a : ByteArray) (now left : Int) (k : Nat) (hk : 29 ≤ k) (h0 : ¬ atOf l a < 0) (hn : 0 ≤ now ∧ now ≤ 12000) :
    impl_RecGo.j0 k l false a now left t w = some (nextOf (rd_T39 l (atOf l a)) t w, now + tickOf (rd_T39 l (atOf l a)) t w, boundOf l (nextOf (rd_T39 l (atOf l a)) t w), true) := by
  obtain ⟨k, rfl⟩ : ∃ m, k = m + 1 := ⟨k - 1, by omega⟩
  have hp := phase_of l h a h0
  have hr := atOf_range l a
  have hw := ph_within _ hp
  simp only [impl_RecGo.j0, impl_at.f, Option.bind_some, mx_eq]
  rw [if_neg (by decide), if_pos (by omega), if_pos (by omega)]
  unfold nextOf wellOf tickOf
  by_cases c : max t 0 > (rd_T39 l (atOf l a)).f5
  · rw [if_pos c, if_pos c, if_pos c, impl_go_j1 l h _ _ a now left _ k (by omega) hp (by omega) hn]
    simp
  · rw [if_neg c, if_neg c, if_neg c, impl_go_j1 l h _ _ a now left _ k (by omega) hp (by omega) hn]
theorem impl_go (l : List S39) (a : ByteArray) (now left : Int) (t : Int) (w : Bool) (k : Nat) (hk : 80 ≤ k) : impl_RecGo.f k l a now left t w = some (goOf l a now left t w) := by
  have hj : impl_RecGo.j0 k l true a now left t w = some (a, now, left, false) := by
    obtain ⟨k, rfl⟩ : ∃ m, k = m + 1 := ⟨k - 1, by omega⟩
    simp [impl_RecGo.j0]
  unfold impl_RecGo.f goOf canGo
  rw [impl_ok l k (by omega), Option.bind_some]
  cases h : recOk l
  · rw [if_neg (by decide), hj]; simp
  · rw [if_pos rfl]
    simp only [impl_at.f, Option.bind_some, impl_in']
    by_cases h0 : atOf l a < 0
    · rw [if_pos h0, hj]; simp [h0]
    · rw [if_neg h0]
      cases hn : inB now 0 12000
      · simp only [Bool.not_false]; rw [hj]; simp
      · simp only [Bool.not_true]
        rw [impl_go_j0 l h t w a now left k (by omega) h0 (by simpa using inB_iff.1 hn)]
        simp [h0]

theorem spec_at4 (l : List S39) (h : recOk l = true) (a : ByteArray) (n : Int) (k : Nat) (hk : 27 ≤ k) : spec_l4At.f k l a n = some (a, n, boundOf l a) := by
  unfold spec_l4At.f
  rw [spec_bd l h a k hk]; rfl
theorem spec_go_j3 (l : List S39) (h : recOk l = true) (t : Int) (w : Bool) (a : ByteArray) (now left : Int) (p : S39) (k : Nat) (hk : 28 ≤ k) (ht : 0 ≤ t ∧ t ≤ 1000) (hn : 0 ≤ now ∧ now ≤ 12000) :
    spec_l4Go.j3 k l t w a now left p.f0 p.f1 p.f2 p.f3 p.f4 p.f5 p.f6 p.f7 = some (if w = true then p.f6 else p.f7, now + t, boundOf l (if w = true then p.f6 else p.f7)) := by
  obtain ⟨k, rfl⟩ : ∃ m, k = m + 1 := ⟨k - 1, by omega⟩
  simp only [spec_l4Go.j3, spec_at4 l h _ _ k (show 27 ≤ k by omega), Option.bind_some]
  cases w
  · rw [if_neg (by decide), if_neg (by decide), wrap_id (by omega) (by omega)]
  · rw [if_pos rfl, if_pos rfl, wrap_id (by omega) (by omega)]
theorem spec_go_j0 (l : List S39) (h : recOk l = true) (t : Int) (w : Bool) (a : ByteArray) (now left : Int) (p : S39) (k : Nat) (hk : 40 ≤ k) (hp : phOk p = true) (hn : 0 ≤ now ∧ now ≤ 12000) :
    spec_l4Go.j0 k l t w (decide (w = true ∧ p.f1 = 3 ∧ t < p.f4)) a now left p.f0 p.f1 p.f2 p.f3 p.f4 p.f5 p.f6 p.f7 = some (nextOf p t w, now + tickOf p t w, boundOf l (nextOf p t w)) := by
  obtain ⟨k, rfl⟩ : ∃ m, k = m + 3 := ⟨k - 3, by omega⟩
  have hw := ph_within p hp
  have hj : ∀ (x : Int) (b : Bool), (x > p.f5 → spec_l4Go.j1 (k + 2) l x b a now left p.f0 p.f1 p.f2 p.f3 p.f4 p.f5 p.f6 p.f7 = some (p.f7, now + p.f5, boundOf l p.f7)) ∧
      (¬ x > p.f5 → spec_l4Go.j1 (k + 2) l x b a now left p.f0 p.f1 p.f2 p.f3 p.f4 p.f5 p.f6 p.f7 = some (if b = true then p.f6 else p.f7, now + max x 0, boundOf l (if b = true then p.f6 else p.f7))) := by
    intro x b
    refine ⟨fun hx => ?_, fun hx => ?_⟩
    · simp only [spec_l4Go.j1, spec_l4Go.j2]
      rw [if_pos hx, if_neg (by omega), spec_go_j3 l h p.f5 false a now left p k (by omega) (by omega) hn, if_neg (by decide)]
    · simp only [spec_l4Go.j1, spec_l4Go.j2]
      rw [if_neg hx]
      by_cases h0 : x < 0
      · rw [if_pos h0, spec_go_j3 l h 0 b a now left p k (by omega) (by omega) hn, Int.max_eq_right (by omega)]
      · rw [if_neg h0, spec_go_j3 l h x b a now left p k (by omega) (by omega) hn, Int.max_eq_left (by omega)]
  simp only [spec_l4Go.j0]
  unfold nextOf wellOf tickOf
  by_cases c : w = true ∧ p.f1 = 3 ∧ t < p.f4
  · obtain ⟨rfl, h3, h4⟩ := c
    have hh := ph_hold p hp h3
    rw [if_pos (by simp [h3, h4]), (hj p.f4 true).2 (by omega)]
    have e1 : ¬ max t 0 > p.f5 := by omega
    rw [if_neg e1, if_neg e1, if_pos rfl, if_pos (⟨rfl, h3⟩ : true = true ∧ p.f1 = 3), Int.max_eq_left (by omega), Int.max_eq_right (by omega)]
  · rw [if_neg (by simpa using c)]
    by_cases e1 : max t 0 > p.f5
    · rw [(hj t w).1 (by omega), if_pos e1, if_pos e1, if_neg (by decide)]
    · rw [(hj t w).2 (by omega), if_neg e1, if_neg e1]
      by_cases c2 : w = true ∧ p.f1 = 3
      · have : ¬ t < p.f4 := fun z => c ⟨c2.1, c2.2, z⟩
        have hh := ph_hold p hp c2.2
        rw [if_pos c2, Int.max_eq_left (show 0 ≤ t by omega), Int.max_eq_left (by omega)]
      · rw [if_neg c2]
theorem spec_l4 (l : List S39) (h : recOk l = true) (t : Int) (w : Bool) (a : ByteArray) (now left : Int) (k : Nat) (hk : 40 ≤ k) (h0 : ¬ atOf l a < 0) (hn : 0 ≤ now ∧ now ≤ 12000) :
    spec_l4Go.f k l a now left (atOf l a) t w = some (nextOf (rd_T39 l (atOf l a)) t w, now + tickOf (rd_T39 l (atOf l a)) t w, boundOf l (nextOf (rd_T39 l (atOf l a)) t w)) := by
  have hp := phase_of l h a h0
  have hr := atOf_range l a
  rw [← spec_go_j0 l h t w a now left _ k hk hp hn]
  unfold spec_l4Go.f
  rw [if_pos (by omega), if_pos (by omega)]
  by_cases h3 : (rd_T39 l (atOf l a)).f1 = 3
  · rw [if_pos h3]
    cases w
    · rw [if_neg (by decide)]; simp
    · rw [if_pos rfl]; simp [h3]
  · rw [if_neg h3]; simp [h3]
theorem spec_go (l : List S39) (hl : l.length ≤ 1048576) (a : ByteArray) (now left : Int) (t : Int) (w : Bool) (k : Nat) (hk : 1048577 < k) : spec_RecGo.f k l a now left t w = some (goOf l a now left t w) := by
  unfold spec_RecGo.f goOf canGo
  rw [spec_at l a (by omega) k (by omega), Option.bind_some, spec_ok l k (by omega), Option.bind_some]
  cases h : recOk l
  · rw [if_neg (by decide)]; simp
  · rw [if_pos rfl]
    by_cases h0 : atOf l a < 0
    · rw [if_pos h0]; simp [h0]
    · rw [if_neg h0, spec_in, Option.bind_some]
      cases hn : inB now 0 12000
      · rw [if_neg (by decide)]; simp
      · rw [if_pos rfl, spec_l4 l h t w a now left k (by omega) h0 (by simpa using inB_iff.1 hn)]
        simp [h0]

end Go.Proofs.Ytdkologncoofdaa.P
-- Q9
namespace Go.Proofs.Ytdkologncoofdaa.P
open Go.RowKit Go.Proofs.YtdkologncoofdaaW.PrintWords Go.Proofs.YtdkologncoofdaaW.PrintLast
set_option linter.unusedVariables false
set_option linter.unusedSimpArgs false

/-- How phase number i is said to go. -/
def sayT (says : List S43) (i : Nat) : Int := if (i : Int) < (says.length : Int) then (rd_T43 says i).f0 else 1001
def sayW (says : List S43) (i : Nat) : Bool := if (i : Int) < (says.length : Int) then (rd_T43 says i).f1 else false
/-- A run that has come to a state, its path so far behind it. -/
def runFrom (l : List S39) (says : List S43) : Nat → List ByteArray → Nat → ByteArray × Int × Int → ByteArray × Int × Int × List ByteArray
  | 0, acc, _, s => (s.1, s.2.1, s.2.2, acc)
  | n + 1, acc, i, s => if endOf s.1 = 0 then runFrom l says n (acc ++ [s.1]) (i + 1) ((goOf l s.1 s.2.1 s.2.2 (sayT says i) (sayW says i)).1, (goOf l s.1 s.2.1 s.2.2 (sayT says i) (sayW says i)).2.1, (goOf l s.1 s.2.1 s.2.2 (sayT says i) (sayW says i)).2.2.1) else (s.1, s.2.1, s.2.2, acc)
def runOf (l : List S39) (says : List S43) : ByteArray × Int × Int × List ByteArray := if recOk l = true then runFrom l says 13 [] 0 (beginOf l) else (⟨#[]⟩, 0, 0, [])

/-- A place of a run: a phase or an end; and the ticks fit. -/
def At (l : List S39) (s : ByteArray × Int × Int) : Prop := (endOf s.1 = 0 → ¬ atOf l s.1 < 0) ∧ 0 ≤ s.2.1 ∧ s.2.1 + 1000 * (rk l s.1 : Int) ≤ 12000
theorem ref_at (l : List S39) (i : Int) (h0 : 0 ≤ i) (n : ByteArray) (h : refOk l i n = true) : endOf n = 0 → ¬ atOf l n < 0 := by
  intro he hn
  unfold refOk at h
  rw [he] at h
  simp only [Bool.or_eq_true, decide_eq_true_eq] at h
  rcases h with h | h
  · cases h
  · omega
theorem begin_at (l : List S39) (h : recOk l = true) : At l (beginOf l) := by
  have hl := recOk_len l h
  have hok := recOk_at l h 0 (by omega)
  unfold okAt at hok
  simp only [Bool.and_eq_true, beq_iff_eq] at hok
  unfold beginOf
  rw [if_pos h]
  have e : rd_T39 l ((0 : Nat) : Int) = rd_T39 l 0 := rfl
  rw [e] at hok
  refine ⟨fun _ => ?_, by simp, ?_⟩
  · simp only; omega
  · have := rk_le l h (rd_T39 l 0).f0
    simp only; omega
theorem go_can (l : List S39) (h : recOk l = true) (s : ByteArray × Int × Int) (hs : At l s) (he : endOf s.1 = 0) : canGo l s.1 s.2.1 = true := by
  unfold canGo
  rw [h, show decide (atOf l s.1 < 0) = false from decide_eq_false (hs.1 he), inB_iff.2 ⟨hs.2.1, by have := hs.2.2; omega⟩]
  rfl
theorem go_at (l : List S39) (h : recOk l = true) (s : ByteArray × Int × Int) (hs : At l s) (he : endOf s.1 = 0) (t : Int) (w : Bool) :
    At l ((goOf l s.1 s.2.1 s.2.2 t w).1, (goOf l s.1 s.2.1 s.2.2 t w).2.1, (goOf l s.1 s.2.1 s.2.2 t w).2.2.1) ∧ rk l (goOf l s.1 s.2.1 s.2.2 t w).1 < rk l s.1 := by
  have hc := go_can l h s hs he
  have h0 := hs.1 he
  have hp := phase_of l h s.1 h0
  have hx := ok_ref l h s.1 h0
  have ht := tick_range _ hp t w
  have hr := atOf_range l s.1
  obtain ⟨i, hi⟩ := Int.eq_ofNat_of_zero_le (show 0 ≤ atOf l s.1 by omega)
  have hok := recOk_at l h i (by omega)
  unfold okAt at hok
  simp only [Bool.and_eq_true] at hok
  rw [← hi] at hok
  have hn : rk l (nextOf (rd_T39 l (atOf l s.1)) t w) < rk l s.1 ∧ (endOf (nextOf (rd_T39 l (atOf l s.1)) t w) = 0 → ¬ atOf l (nextOf (rd_T39 l (atOf l s.1)) t w) < 0) := by
    unfold nextOf
    split
    · exact ⟨hx.1, ref_at l _ (by omega) _ hok.1.2⟩
    · exact ⟨hx.2.1, ref_at l _ (by omega) _ hok.2⟩
  unfold goOf
  rw [if_pos hc]
  refine ⟨⟨hn.2, ?_, ?_⟩, hn.1⟩
  · have := hs.2.1
    simp only; omega
  · have := hs.2.2
    have := hn.1
    simp only; omega

theorem impl_run_loop (l : List S39) (says : List S43) (h : recOk l = true) (n : Nat) : ∀ (acc : List ByteArray) (i k : Nat) (s : ByteArray × Int × Int), At l s → rk l s.1 < n → acc.length + n ≤ 1000 → i + n ≤ 1000 → n + 100 ≤ k →
    impl_RecRun.l0 k l says acc (i : Int) s.1 s.2.1 s.2.2 = some (runFrom l says n acc i s) := by
  induction n with
  | zero => intro acc i k s _ hn; omega
  | succ n ih =>
    intro acc i k s hs hn ha hi hk
    obtain ⟨k, rfl⟩ : ∃ m, k = m + 1 := ⟨k - 1, by omega⟩
    have he : impl_RecEnd.f k s.1 = some (endOf s.1) := by
      obtain ⟨q, rfl⟩ : ∃ q, k = q + 4 := ⟨k - 4, by omega⟩
      exact impl_end _ q
    simp only [impl_RecRun.l0, he, Option.bind_some, runFrom]
    by_cases c : endOf s.1 = 0
    · have hg := go_at l h s hs c (sayT says i) (sayW says i)
      have hw : wrap64 ((i : Int) + 1) = ((i + 1 : Nat) : Int) := by rw [wrap_id (by omega) (by omega)]; omega
      have := ih (acc ++ [s.1]) (i + 1) k _ hg.1 (by simp only; omega) (by simp; omega) (by omega) (by omega)
      rw [if_pos c, if_pos (by omega), if_pos c]
      unfold sayT sayW at this ⊢
      by_cases c2 : (i : Int) < (says.length : Int)
      · rw [if_pos c2, if_pos c2] at this
        rw [if_pos c2, if_pos (by omega), impl_go l _ _ _ _ _ k (by omega), Option.bind_some, hw, if_pos c2, if_pos c2]
        exact this
      · rw [if_neg c2, if_neg c2] at this
        rw [if_neg c2, impl_go l _ _ _ _ _ k (by omega), Option.bind_some, hw, if_neg c2, if_neg c2]
        exact this
    · rw [if_neg c, if_neg c]
theorem impl_run (l : List S39) (says : List S43) (k : Nat) (hk : 200 ≤ k) : impl_RecRun.f k l says = some (runOf l says) := by
  unfold impl_RecRun.f runOf
  rw [impl_ok l k (by omega), Option.bind_some]
  by_cases h : recOk l = true
  · rw [if_pos h, if_pos h, impl_bg l k (by omega), Option.bind_some]
    exact impl_run_loop l says h 13 [] 0 k (beginOf l) (begin_at l h) (by have := rk_le l h (beginOf l).1; omega) (by simp) (by omega) (by omega)
  · rw [if_neg h, if_neg h]

theorem spec_run_loop (l : List S39) (says : List S43) (h : recOk l = true) (n : Nat) : ∀ (acc : List ByteArray) (i k : Nat) (s : ByteArray × Int × Int), At l s → rk l s.1 < n → acc.length + n ≤ 1000 → i + n ≤ 1000 → 2 * n + 1048600 ≤ k →
    spec_RecRun.l0 k l says acc (i : Int) s.1 s.2.1 s.2.2 = some (runFrom l says n acc i s) := by
  induction n with
  | zero => intro acc i k s _ hn; omega
  | succ n ih =>
    intro acc i k s hs hn ha hi hk
    obtain ⟨k, rfl⟩ : ∃ m, k = m + 2 := ⟨k - 2, by omega⟩
    have hl := recOk_len l h
    simp only [spec_RecRun.l0, spec_ok l (k + 1) (by omega), spec_at l _ (show l.length ≤ 9223372036854775807 by omega) (k + 1) (by omega), Option.bind_some]
    rw [if_pos h]
    simp only [spec_RecRun.j1, runFrom]
    by_cases c : endOf s.1 = 0
    · have h0 := hs.1 c
      have hg := go_at l h s hs c (sayT says i) (sayW says i)
      have hw : wrap64 ((i : Int) + 1) = ((i + 1 : Nat) : Int) := by rw [wrap_id (by omega) (by omega)]; omega
      have := ih (acc ++ [s.1]) (i + 1) k _ hg.1 (by simp only; omega) (by simp; omega) (by omega) (by omega)
      rw [if_pos (decide_eq_true (by omega)), if_pos c]
      unfold sayT sayW at this ⊢
      by_cases c2 : (i : Int) < (says.length : Int)
      · rw [if_pos c2, if_pos c2] at this
        rw [if_pos c2, if_pos (by omega), if_pos (by omega), spec_go l (by omega) _ _ _ _ _ k (by omega), Option.bind_some, hw, if_pos c2, if_pos c2]
        exact this
      · rw [if_neg c2, if_neg c2] at this
        rw [if_neg c2, if_pos (by omega), spec_go l (by omega) _ _ _ _ _ k (by omega), Option.bind_some, hw, if_neg c2, if_neg c2]
        exact this
    · have := end_no l h s.1 c
      rw [if_neg (by simp; omega), if_neg c]
theorem spec_run (l : List S39) (says : List S43) (k : Nat) (hk : 1048630 ≤ k) : spec_RecRun.f k l says = some (runOf l says) := by
  unfold spec_RecRun.f runOf
  rw [spec_bg l k (by omega), Option.bind_some]
  by_cases h : recOk l = true
  · rw [if_pos h]
    exact spec_run_loop l says h 13 [] 0 k (beginOf l) (begin_at l h) (by have := rk_le l h (beginOf l).1; omega) (by simp) (by omega) (by omega)
  · rw [if_neg h]
    obtain ⟨k, rfl⟩ : ∃ m, k = m + 2 := ⟨k - 2, by omega⟩
    simp only [spec_RecRun.l0, spec_ok l (k + 1) (by omega), Option.bind_some]
    rw [if_neg h]
    simp only [spec_RecRun.j1]
    rw [if_neg (by decide)]
    unfold beginOf
    rw [if_neg h]

end Go.Proofs.Ytdkologncoofdaa.P
-- Q10
namespace Go.Proofs.Ytdkologncoofdaa.P
open Go.RowKit Go.Proofs.YtdkologncoofdaaW.PrintWords Go.Proofs.YtdkologncoofdaaW.PrintLast
set_option linter.unusedVariables false
set_option linter.unusedSimpArgs false

/-! ### The text of a mark -/
theorem mark_loop (f : Nat) : ∀ (n : Int) (acc : ByteArray), 0 ≤ n → n ≤ 1000000000 → n < 10 ^ f → acc.size + f ≤ 100 → f ≤ 30 → ∃ t, ∀ k, f < k → laws_markText.l0 k n acc = some t := by
  induction f with
  | zero =>
    intro n acc h0 _ h1 ha _
    refine ⟨(⟨#[109]⟩ : ByteArray) ++ acc, fun k hk => ?_⟩
    obtain ⟨k, rfl⟩ : ∃ m, k = m + 1 := ⟨k - 1, by omega⟩
    simp only [laws_markText.l0]
    rw [if_neg (by omega), if_pos (by omega)]
  | succ f ih =>
    intro n acc h0 hb h1 ha hf
    by_cases h : n > 0
    · have hd : Int.tdiv n 10 = n / 10 := Int.tdiv_eq_ediv_of_nonneg h0
      have e1 : (strOfNums [(wrap64 (48 + (Int.tmod n 10))) % 256]).size = 1 := rfl
      have h2 : n < 10 * 10 ^ f := by rw [Int.pow_succ] at h1; omega
      obtain ⟨t, ht⟩ := ih (n / 10) (strOfNums [(wrap64 (48 + (Int.tmod n 10))) % 256] ++ acc) (by omega) (by omega) (by omega) (by rw [ByteArray.size_append]; omega) (by omega)
      refine ⟨t, fun k hk => ?_⟩
      obtain ⟨k, rfl⟩ : ∃ m, k = m + 1 := ⟨k - 1, by omega⟩
      simp only [laws_markText.l0, Option.bind_some]
      rw [if_pos h, if_pos (by omega), hd, wrap_id (x := n / 10) (by omega) (by omega)]
      exact ht k (by omega)
    · refine ⟨(⟨#[109]⟩ : ByteArray) ++ acc, fun k hk => ?_⟩
      obtain ⟨k, rfl⟩ : ∃ m, k = m + 1 := ⟨k - 1, by omega⟩
      simp only [laws_markText.l0]
      rw [if_neg h, if_pos (by omega)]
theorem mark_ex (n : Int) (h : 1 ≤ n) (hb : n ≤ 1000000000) : ∃ t, ∀ k, 20 ≤ k → laws_markText.f k n = some t := by
  obtain ⟨t, ht⟩ := mark_loop 10 n ⟨#[]⟩ (by omega) hb (by omega) (by decide) (by omega)
  refine ⟨t, fun k hk => ?_⟩
  unfold laws_markText.f
  rw [if_neg (by omega)]
  exact ht k (by omega)
open Classical in
/-- The text of mark n. -/
noncomputable def mt (n : Int) : ByteArray := if h : 1 ≤ n ∧ n ≤ 1000000000 then (mark_ex n h.1 h.2).choose else ⟨#[]⟩
theorem mark_ok (n : Int) (h : 1 ≤ n) (hb : n ≤ 1000000000) (k : Nat) (hk : 20 ≤ k) : laws_markText.f k n = some (mt n) := by
  unfold mt
  rw [dif_pos ⟨h, hb⟩]
  exact (mark_ex n h hb).choose_spec k hk

/-! ### Phases marked -/
theorem bindS {β : Type} {X : List S39} {n : Nat} {f : List S39 → Option (Int × β)} {N : Int} (h : ∀ y, y.length = n → ∃ r, f y = some (N, r)) (hX : X.length = n) : ∃ r, (some X).bind f = some (N, r) := h X hX
theorem bindT {β : Type} {X : ByteArray} {f : ByteArray → Option (Int × β)} {N : Int} (h : ∃ r, f X = some (N, r)) : ∃ r, (some X).bind f = some (N, r) := h
theorem markS_loop (d : Nat) : ∀ (l : List S39) (i k : Nat) (n : Int), l.length ≤ 1048576 → i ≤ l.length → l.length - i = d → d + 30 ≤ k → 1 ≤ n → n + 8 * (d : Int) ≤ 100000000 →
    ∃ l', laws_markRecPhaseS.l0 k l n (i : Int) = some (n + 8 * (d : Int), l') := by
  induction d with
  | zero =>
    intro l i k n hl hi hd hk h1 h2
    obtain ⟨k, rfl⟩ : ∃ m, k = m + 1 := ⟨k - 1, by omega⟩
    simp only [laws_markRecPhaseS.l0]
    rw [if_neg (by omega)]
    exact ⟨l, by simp⟩
  | succ d ih =>
    intro l i k n hl hi hd hk h1 h2
    obtain ⟨k, rfl⟩ : ∃ m, k = m + 1 := ⟨k - 1, by omega⟩
    have w1 : wrap64 (n + 1) = n + 1 := wrap_id (by omega) (by omega)
    have w2 : wrap64 (n + 1 + 1) = n + 1 + 1 := wrap_id (by omega) (by omega)
    have w3 : wrap64 (n + 1 + 1 + 1) = n + 1 + 1 + 1 := wrap_id (by omega) (by omega)
    have w4 : wrap64 (n + 1 + 1 + 1 + 1) = n + 1 + 1 + 1 + 1 := wrap_id (by omega) (by omega)
    have w5 : wrap64 (n + 1 + 1 + 1 + 1 + 1) = n + 1 + 1 + 1 + 1 + 1 := wrap_id (by omega) (by omega)
    have w6 : wrap64 (n + 1 + 1 + 1 + 1 + 1 + 1) = n + 1 + 1 + 1 + 1 + 1 + 1 := wrap_id (by omega) (by omega)
    have w7 : wrap64 (n + 1 + 1 + 1 + 1 + 1 + 1 + 1) = n + 1 + 1 + 1 + 1 + 1 + 1 + 1 := wrap_id (by omega) (by omega)
    have w8 : wrap64 (n + 1 + 1 + 1 + 1 + 1 + 1 + 1 + 1) = n + 1 + 1 + 1 + 1 + 1 + 1 + 1 + 1 := wrap_id (by omega) (by omega)
    have wi : wrap64 ((i : Int) + 1) = ((i + 1 : Nat) : Int) := by rw [wrap_id (by omega) (by omega)]; omega
    have hm : ∀ m, 1 ≤ m → m ≤ 1000000000 → laws_markText.f k m = some (mt m) := fun m a b => mark_ok m a b k (by omega)
    have e : n + 8 * ((d + 1 : Nat) : Int) = n + 1 + 1 + 1 + 1 + 1 + 1 + 1 + 1 + 8 * (d : Int) := by omega
    rw [e]
    simp only [laws_markRecPhaseS.l0, w1, w2, w3, w4, w5, w6, w7, w8, wi, hm n (by omega) (by omega), hm (n + 1 + 1) (by omega) (by omega), hm (n + 1 + 1 + 1) (by omega) (by omega), hm (n + 1 + 1 + 1 + 1 + 1 + 1) (by omega) (by omega), hm (n + 1 + 1 + 1 + 1 + 1 + 1 + 1) (by omega) (by omega)]
    clear w1 w2 w3 w4 w5 w6 w7 w8 wi hm
    have c1 : (i : Int) < (l.length : Int) := by omega
    have c2 : (0 : Int) ≤ (i : Int) := by omega
    rw [if_pos c1]
    refine bindT ?_
    rw [if_pos c2]
    refine bindS (n := l.length) ?_ (by simp only [List.length_set])
    intro y1 z1
    refine bindS (n := l.length) ?_ (by simp only [List.length_set]; exact z1)
    intro y2 z2
    refine bindT ?_
    refine bindS (n := l.length) ?_ (by simp only [List.length_set]; exact z2)
    intro y3 z3
    refine bindT ?_
    refine bindS (n := l.length) ?_ (by simp only [List.length_set]; exact z3)
    intro y4 z4
    refine bindS (n := l.length) ?_ (by simp only [List.length_set]; exact z4)
    intro y5 z5
    refine bindS (n := l.length) ?_ (by simp only [List.length_set]; exact z5)
    intro y6 z6
    refine bindT ?_
    refine bindS (n := l.length) ?_ (by simp only [List.length_set]; exact z6)
    intro y7 z7
    refine bindT ?_
    refine ih _ (i + 1) k (n + 1 + 1 + 1 + 1 + 1 + 1 + 1 + 1) ?_ ?_ ?_ (by omega) (by omega) (by omega)
    · simp only [List.length_set]; omega
    · simp only [List.length_set]; omega
    · simp only [List.length_set]; omega
theorem markS (l : List S39) (hl : l.length ≤ 1048576) (k : Nat) (hk : 1048700 ≤ k) : ∃ (n : Int) (l' : List S39), laws_markRecPhaseS.f k l 1 = some (n, l') ∧ ¬ n < 0 ∧ n ≤ 10000000 := by
  obtain ⟨l', h⟩ := markS_loop l.length l 0 k 1 hl (by omega) (by omega) (by omega) (by omega) (by omega)
  exact ⟨_, l', h, by omega, by omega⟩

/-! ### Texts marked, and the marks found -/
theorem markT_loop (d : Nat) : ∀ (l : List ByteArray) (i k : Nat), l.length ≤ 1048576 → i ≤ l.length → l.length - i = d → d + 30 ≤ k → (∀ j, j < i → l[j]? = some (mt ((j : Int) + 1))) →
    ∃ l', laws_markStringS.l0 k l ((i : Int) + 1) (i : Int) = some ((l.length : Int) + 1, l') ∧ l'.length = l.length ∧ ∀ j, j < l.length → l'[j]? = some (mt ((j : Int) + 1)) := by
  induction d with
  | zero =>
    intro l i k hl hi hd hk hj
    obtain ⟨k, rfl⟩ : ∃ m, k = m + 1 := ⟨k - 1, by omega⟩
    simp only [laws_markStringS.l0]
    rw [if_neg (by omega)]
    exact ⟨l, by rw [show i = l.length from by omega], rfl, fun j h => hj j (by omega)⟩
  | succ d ih =>
    intro l i k hl hi hd hk hj
    obtain ⟨k, rfl⟩ : ∃ m, k = m + 1 := ⟨k - 1, by omega⟩
    simp only [laws_markStringS.l0]
    have wi : wrap64 ((i : Int) + 1) = ((i + 1 : Nat) : Int) := by rw [wrap_id (by omega) (by omega)]; omega
    have wi2 : wrap64 ((i : Int) + 1 + 1) = ((i + 1 : Nat) : Int) + 1 := by rw [wrap_id (by omega) (by omega)]; omega
    rw [if_pos (by omega), mark_ok _ (by omega) (by omega) k (by omega), Option.bind_some, if_pos (by omega), wi, wi2, Int.toNat_natCast]
    obtain ⟨l', h1, h2, h3⟩ := ih (l.set i (mt ((i : Int) + 1))) (i + 1) k (by rw [List.length_set]; exact hl) (by rw [List.length_set]; omega) (by rw [List.length_set]; omega) (by omega) (by
      intro j hji
      by_cases e : j = i
      · subst e; rw [List.getElem?_set_self (by omega)]
      · rw [List.getElem?_set_ne (by omega)]; exact hj j (by omega))
    rw [List.length_set] at h1 h2 h3
    exact ⟨l', h1, h2, h3⟩
theorem heldT_loop (l : List ByteArray) (hl : l.length ≤ 1048576) (hj : ∀ j, j < l.length → l[j]? = some (mt ((j : Int) + 1))) (d : Nat) : ∀ (i k : Nat), i ≤ l.length → l.length - i = d → d + 30 ≤ k →
    laws_heldStringS.l0 k l ((i : Int) + 1) (i : Int) = some ((l.length : Int) + 1) := by
  induction d with
  | zero =>
    intro i k hi hd hk
    obtain ⟨k, rfl⟩ : ∃ m, k = m + 1 := ⟨k - 1, by omega⟩
    simp only [laws_heldStringS.l0]
    rw [if_neg (by omega), show i = l.length from by omega]
  | succ d ih =>
    intro i k hi hd hk
    obtain ⟨k, rfl⟩ : ∃ m, k = m + 1 := ⟨k - 1, by omega⟩
    simp only [laws_heldStringS.l0]
    have wi : wrap64 ((i : Int) + 1) = ((i + 1 : Nat) : Int) := by rw [wrap_id (by omega) (by omega)]; omega
    have wi2 : wrap64 ((i : Int) + 1 + 1) = ((i + 1 : Nat) : Int) + 1 := by rw [wrap_id (by omega) (by omega)]; omega
    have e : rdOf ByteArray.empty l (i : Int) = mt ((i : Int) + 1) := by
      simp only [rdOf, Int.toNat_natCast]
      rw [List.getD_eq_getElem?_getD, hj i (by omega)]; rfl
    rw [if_pos (by omega), if_pos (by omega), mark_ok _ (by omega) (by omega) k (by omega), Option.bind_some, e, if_pos rfl, wi, wi2]
    exact ih (i + 1) k (by omega) (by omega) (by omega)
theorem marksT (l : List ByteArray) (hl : l.length ≤ 1048576) (k : Nat) (hk : 1048650 ≤ k) :
    ∃ l', laws_markStringS.f k l 1 = some ((l.length : Int) + 1, l') ∧ ∀ k', 1048640 ≤ k' → laws_heldStringS.f k' l' 1 = some ((l.length : Int) + 1) := by
  obtain ⟨l', h1, h2, h3⟩ := markT_loop l.length l 0 k hl (by omega) (by omega) (by omega) (fun j hj => absurd hj (Nat.not_lt_zero _))
  refine ⟨l', h1, fun k' hk' => ?_⟩
  have := heldT_loop l' (by omega) (by rw [h2]; exact h3) l'.length 0 k' (by omega) (by omega) (by omega)
  rw [h2] at this
  exact this

/-! ### Texts compared -/
theorem eqT_loop (l : List ByteArray) (hl : l.length ≤ 1048576) (d : Nat) : ∀ (i k : Nat), i ≤ l.length → l.length - i = d → d < k → laws_eqStringS.l0 k l l (i : Int) = some true := by
  induction d with
  | zero =>
    intro i k hi hd hk
    obtain ⟨k, rfl⟩ : ∃ m, k = m + 1 := ⟨k - 1, by omega⟩
    simp only [laws_eqStringS.l0]
    rw [if_neg (by omega)]
  | succ d ih =>
    intro i k hi hd hk
    obtain ⟨k, rfl⟩ : ∃ m, k = m + 1 := ⟨k - 1, by omega⟩
    simp only [laws_eqStringS.l0]
    rw [if_pos (by omega), if_pos (by omega), if_pos (by omega), if_pos trivial, show wrap64 ((i : Int) + 1) = ((i + 1 : Nat) : Int) from by rw [wrap_id (by omega) (by omega)]; omega]
    exact ih (i + 1) k (by omega) (by omega) (by omega)
theorem eqT (l : List ByteArray) (hl : l.length ≤ 1048576) (k : Nat) (hk : 1048577 < k) : laws_eqStringS.f k l l = some true := by
  unfold laws_eqStringS.f
  rw [if_pos rfl]
  exact eqT_loop l hl l.length 0 k (by omega) (by omega) (by omega)

end Go.Proofs.Ytdkologncoofdaa.P
-- PlainFnExactRecRun
namespace Go.Proofs.Ytdkologncoofdaa.P
open Go.RowKit Go.Proofs.YtdkologncoofdaaW.PrintWords Go.Proofs.YtdkologncoofdaaW.PrintLast
set_option linter.unusedVariables false
set_option linter.unusedSimpArgs false

theorem sz_le (x : S48) (hx : SzOk x) (n : Int) (h0 : 0 ≤ n) (h1 : n ≤ 1048576) : ∃ r, laws_szRecPhase.f x.f0 x.f1 x.f2 x.f3 x.f4 x.f5 x.f6 x.f7 n = some r ∧ r ≤ 1048576 := by
  obtain ⟨z0, z2, z3, z6, z7⟩ := hx
  simp only [maxLen] at z0 z2 z3 z6 z7
  unfold laws_szRecPhase.f
  rw [wrap_id (x := n - (x.f0.size : Int)) (by omega) (by omega)]
  by_cases c0 : n - (x.f0.size : Int) < 0
  · rw [if_pos c0]; exact ⟨-1, rfl, by omega⟩
  · rw [if_neg c0, wrap_id (x := n - (x.f0.size : Int) - (x.f2.size : Int)) (by omega) (by omega)]
    by_cases c2 : n - (x.f0.size : Int) - (x.f2.size : Int) < 0
    · rw [if_pos c2]; exact ⟨-1, rfl, by omega⟩
    · rw [if_neg c2, wrap_id (x := n - (x.f0.size : Int) - (x.f2.size : Int) - (x.f3.size : Int)) (by omega) (by omega)]
      by_cases c3 : n - (x.f0.size : Int) - (x.f2.size : Int) - (x.f3.size : Int) < 0
      · rw [if_pos c3]; exact ⟨-1, rfl, by omega⟩
      · rw [if_neg c3, wrap_id (x := n - (x.f0.size : Int) - (x.f2.size : Int) - (x.f3.size : Int) - (x.f6.size : Int)) (by omega) (by omega)]
        by_cases c6 : n - (x.f0.size : Int) - (x.f2.size : Int) - (x.f3.size : Int) - (x.f6.size : Int) < 0
        · rw [if_pos c6]; exact ⟨-1, rfl, by omega⟩
        · rw [if_neg c6, wrap_id (x := n - (x.f0.size : Int) - (x.f2.size : Int) - (x.f3.size : Int) - (x.f6.size : Int) - (x.f7.size : Int)) (by omega) (by omega)]
          by_cases c7 : n - (x.f0.size : Int) - (x.f2.size : Int) - (x.f3.size : Int) - (x.f6.size : Int) - (x.f7.size : Int) < 0
          · rw [if_pos c7]; exact ⟨-1, rfl, by omega⟩
          · rw [if_neg c7]; exact ⟨_, rfl, by omega⟩
theorem szS_le_loop (l : List S48) (hl : l.length ≤ 1048576) (hz : ∀ y ∈ l, SzOk y) (d : Nat) : ∀ (i k : Nat) (n : Int), i ≤ l.length → l.length - i = d → d < k → 0 ≤ n → n ≤ 1048576 → ∃ r, laws_szRecPhaseS.l0 k l n (i : Int) = some r ∧ r ≤ 1048576 := by
  induction d with
  | zero =>
    intro i k n hi hd hk h0 h1
    obtain ⟨k, rfl⟩ : ∃ m, k = m + 1 := ⟨k - 1, by omega⟩
    simp only [laws_szRecPhaseS.l0]
    rw [if_neg (by omega)]
    exact ⟨_, rfl, h1⟩
  | succ d ih =>
    intro i k n hi hd hk h0 h1
    obtain ⟨k, rfl⟩ : ∃ m, k = m + 1 := ⟨k - 1, by omega⟩
    simp only [laws_szRecPhaseS.l0]
    rw [if_pos (by omega), if_pos (by omega)]
    have hm : rd_T48 l (i : Int) ∈ l := by
      simp only [rd_T48, Int.toNat_natCast]
      rw [List.getD_eq_getElem?_getD, List.getElem?_eq_getElem (show i < l.length by omega)]
      exact List.getElem_mem _
    obtain ⟨r, hr, hle⟩ := sz_le (rd_T48 l i) (hz _ hm) n h0 h1
    rw [hr, Option.bind_some, show wrap64 ((i : Int) + 1) = ((i + 1 : Nat) : Int) from by rw [wrap_id (by omega) (by omega)]; omega]
    by_cases h : r < 0
    · rw [if_pos h]; exact ⟨-1, rfl, by omega⟩
    · rw [if_neg h]; exact ih (i + 1) k r (by omega) (by omega) (by omega) (by omega) hle
theorem szS_le (l : List S48) (hl : l.length ≤ 9223372036854775807) (hz : ∀ y ∈ l, SzOk y) (k : Nat) (hk : 1048577 < k) : ∃ r, laws_szRecPhaseS.f k l 1048576 = some r ∧ r ≤ 1048576 ∧ (¬ r < 0 → l.length ≤ 1048576) := by
  unfold laws_szRecPhaseS.f
  rw [wrap_id (by omega) (by omega)]
  by_cases h : 1048576 - (l.length : Int) < 0
  · rw [if_pos h]; exact ⟨-1, rfl, by omega, fun h2 => absurd (show (-1 : Int) < 0 by omega) h2⟩
  · rw [if_neg h]
    obtain ⟨r, hr, hle⟩ := szS_le_loop l (by omega) hz l.length 0 k (1048576 - (l.length : Int)) (by omega) (by omega) (by omega) (by omega) (by omega)
    exact ⟨r, hr, hle, fun _ => by omega⟩

/-! ### Says -/
def to43 (x : S66) : S43 := ⟨x.f0, x.f1⟩
theorem toY_loop (l : List S66) (hl : l.length ≤ 1048576) (d : Nat) : ∀ (i k : Nat) (acc : List S43), i ≤ l.length → l.length - i = d → d < k → acc.length = l.length → acc.take i = (l.map to43).take i →
    laws_toRecSayS.l0 k l acc (i : Int) = some (l.map to43) := by
  induction d with
  | zero =>
    intro i k acc hi hd hk ha ht
    obtain ⟨k, rfl⟩ : ∃ m, k = m + 1 := ⟨k - 1, by omega⟩
    simp only [laws_toRecSayS.l0]
    rw [if_neg (by omega)]
    rw [List.take_of_length_le (by omega), List.take_of_length_le (by rw [List.length_map]; omega)] at ht
    rw [ht]
  | succ d ih =>
    intro i k acc hi hd hk ha ht
    obtain ⟨k, rfl⟩ : ∃ m, k = m + 1 := ⟨k - 1, by omega⟩
    simp only [laws_toRecSayS.l0, laws_toRecSay.f, Option.bind_some]
    rw [if_pos (by omega), if_pos (by omega), if_pos (by omega), show wrap64 ((i : Int) + 1) = ((i + 1 : Nat) : Int) from by rw [wrap_id (by omega) (by omega)]; omega, Int.toNat_natCast]
    refine ih (i + 1) k _ (by omega) (by omega) (by omega) (by rw [List.length_set]; exact ha) ?_
    have hil : i < l.length := by omega
    have e : rd_T66 l (i : Int) = l[i] := by simp [rd_T66, List.getD_eq_getElem?_getD, List.getElem?_eq_getElem hil]
    rw [e, List.take_succ_eq_append_getElem (by rw [List.length_set]; omega), List.take_succ_eq_append_getElem (by rw [List.length_map]; omega), List.take_set_of_le (by omega), ht]
    simp [to43]
theorem toY (l : List S66) (hl : l.length ≤ 1048576) (k : Nat) (hk : 1048577 < k) : laws_toRecSayS.f k l = some (l.map to43) := by
  unfold laws_toRecSayS.f
  rw [if_pos (by omega), Int.toNat_natCast, if_pos (by omega)]
  exact toY_loop l hl l.length 0 k _ (by omega) (by omega) (by omega) (by simp) (by simp)
theorem eqY_loop (l : List S43) (hl : l.length ≤ 1048576) (d : Nat) : ∀ (i k : Nat), i ≤ l.length → l.length - i = d → d < k → laws_eqRecSayS.l0 k l l (i : Int) = some true := by
  induction d with
  | zero =>
    intro i k hi hd hk
    obtain ⟨k, rfl⟩ : ∃ m, k = m + 1 := ⟨k - 1, by omega⟩
    simp only [laws_eqRecSayS.l0]
    rw [if_neg (by omega)]
  | succ d ih =>
    intro i k hi hd hk
    obtain ⟨k, rfl⟩ : ∃ m, k = m + 1 := ⟨k - 1, by omega⟩
    have e : ∀ x : S43, laws_eqRecSay.f x.f0 x.f1 x.f0 x.f1 = some true := by intro x; unfold laws_eqRecSay.f; simp
    simp only [laws_eqRecSayS.l0, e, Option.bind_some]
    rw [if_pos (by omega), if_pos (by omega), if_pos (by omega), if_pos trivial, show wrap64 ((i : Int) + 1) = ((i + 1 : Nat) : Int) from by rw [wrap_id (by omega) (by omega)]; omega]
    exact ih (i + 1) k (by omega) (by omega) (by omega)
theorem eqY (l : List S43) (hl : l.length ≤ 1048576) (k : Nat) (hk : 1048577 < k) : laws_eqRecSayS.f k l l = some true := by
  unfold laws_eqRecSayS.f
  rw [if_pos rfl]
  exact eqY_loop l hl l.length 0 k (by omega) (by omega) (by omega)
theorem bindY {β : Type} {X : List S43} {n : Nat} {f : List S43 → Option (Int × β)} {N : Int} (h : ∀ y, y.length = n → ∃ r, f y = some (N, r)) (hX : X.length = n) : ∃ r, (some X).bind f = some (N, r) := h X hX
theorem markY_loop (d : Nat) : ∀ (l : List S43) (i k : Nat) (n : Int), l.length ≤ 1048576 → i ≤ l.length → l.length - i = d → d < k → 0 ≤ n → n + 2 * (d : Int) ≤ 100000000 →
    ∃ l', laws_markRecSayS.l0 k l n (i : Int) = some (n + 2 * (d : Int), l') := by
  induction d with
  | zero =>
    intro l i k n hl hi hd hk h1 h2
    obtain ⟨k, rfl⟩ : ∃ m, k = m + 1 := ⟨k - 1, by omega⟩
    simp only [laws_markRecSayS.l0]
    rw [if_neg (by omega)]
    exact ⟨l, by simp⟩
  | succ d ih =>
    intro l i k n hl hi hd hk h1 h2
    obtain ⟨k, rfl⟩ : ∃ m, k = m + 1 := ⟨k - 1, by omega⟩
    have w1 : wrap64 (n + 1) = n + 1 := wrap_id (by omega) (by omega)
    have w2 : wrap64 (n + 1 + 1) = n + 1 + 1 := wrap_id (by omega) (by omega)
    have wi : wrap64 ((i : Int) + 1) = ((i + 1 : Nat) : Int) := by rw [wrap_id (by omega) (by omega)]; omega
    have e : n + 2 * ((d + 1 : Nat) : Int) = n + 1 + 1 + 2 * (d : Int) := by omega
    rw [e]
    simp only [laws_markRecSayS.l0, w1, w2, wi]
    rw [if_pos (by omega), if_pos (by omega)]
    refine bindY (n := l.length) ?_ (by simp only [List.length_set])
    intro y1 z1
    refine ih _ (i + 1) k (n + 1 + 1) ?_ ?_ ?_ (by omega) (by omega) (by omega)
    · simp only [List.length_set]; omega
    · simp only [List.length_set]; omega
    · simp only [List.length_set]; omega

theorem run_len (l : List S39) (says : List S43) (n : Nat) : ∀ acc i s, (runFrom l says n acc i s).2.2.2.length ≤ acc.length + n := by
  induction n with
  | zero => intro acc i s; simp [runFrom]
  | succ n ih =>
    intro acc i s
    simp only [runFrom]
    split
    · have := ih (acc ++ [s.1]) (i + 1) ((goOf l s.1 s.2.1 s.2.2 (sayT says i) (sayW says i)).1, (goOf l s.1 s.2.1 s.2.2 (sayT says i) (sayW says i)).2.1, (goOf l s.1 s.2.1 s.2.2 (sayT says i) (sayW says i)).2.2.1)
      rw [List.length_append] at this
      simp only [List.length_cons, List.length_nil] at this
      omega
    · simp
theorem runOf_len (l : List S39) (says : List S43) : (runOf l says).2.2.2.length ≤ 1048576 := by
  unfold runOf
  split
  · have := run_len l says 13 [] 0 (beginOf l)
    simp only [List.length_nil] at this
    omega
  · simp

theorem pure_FnExactRecRun (l : List S48) (hl : l.length ≤ 9223372036854775807) (hz : ∀ y ∈ l, SzOk y) (y : List S66) (hy : y.length ≤ 9223372036854775807) : ∃ k, laws_FnExactRecRun.f k l y = some true := by
  refine ⟨2000000, ?_⟩
  unfold laws_FnExactRecRun.f
  obtain ⟨r, hr, hr2, hs⟩ := szS_le l hl hz 2000000 (by omega)
  rw [hr, Option.bind_some]
  by_cases h : r < 0
  · rw [if_pos h]
  · have hs := hs h
    rw [if_neg h]
    unfold laws_szRecSayS.f
    rw [wrap_id (by omega) (by omega)]
    by_cases h2 : r - (y.length : Int) < 0
    · rw [if_pos h2, Option.bind_some, if_pos (by omega)]
    · rw [if_neg h2, Option.bind_some, if_neg h2]
      have hyl : y.length ≤ 1048576 := by omega
      have hm : (l.map to39).length ≤ 1048576 := by rw [List.length_map]; exact hs
      have hm2 : (y.map to43).length ≤ 1048576 := by rw [List.length_map]; exact hyl
      have hlen := runOf_len (l.map to39) (y.map to43)
      rw [toS l hs 2000000 (by omega), Option.bind_some, toY y hyl 2000000 (by omega), Option.bind_some, spec_run _ _ 2000000 (by omega), Option.bind_some, Option.bind_some, Option.bind_some, impl_run _ _ 2000000 (by omega), Option.bind_some]
      generalize hR : runOf (l.map to39) (y.map to43) = R at hlen ⊢
      rw [eqState_self, Option.bind_some, if_pos rfl, eqT _ hlen 2000000 (by omega), Option.bind_some]
      simp only [laws_FnExactRecRun.j0]
      rw [if_neg (by decide), toS l hs 1999999 (by omega), Option.bind_some, eqS _ hm 1999999 (by omega), Option.bind_some, if_pos rfl, toY y hyl 1999999 (by omega), Option.bind_some, eqY _ hm2 1999999 (by omega), Option.bind_some, if_pos rfl]
      obtain ⟨n1, l1, e1, p1, q1⟩ := markS (l.map to39) hm 1999999 (by omega)
      rw [e1, Option.bind_some]
      obtain ⟨l2, e2⟩ := markY_loop (y.map to43).length (y.map to43) 0 1999999 n1 hm2 (by omega) (by omega) (by omega) (by omega) (by omega)
      have e2' : laws_markRecSayS.f 1999999 (y.map to43) n1 = some (n1 + 2 * ((y.map to43).length : Int), l2) := e2
      simp only
      rw [e2', Option.bind_some]
      simp only
      rw [if_neg (by omega), eqState_self, Option.bind_some, if_pos rfl, eqT _ hlen 1999999 (by omega), Option.bind_some]
      simp only [laws_FnExactRecRun.j1]
      rw [if_neg (by decide)]
      obtain ⟨l3, e3, e4⟩ := marksT R.2.2.2 hlen 1999998 (by omega)
      rw [e3, Option.bind_some]
      simp only
      rw [e4 1999998 (by omega), Option.bind_some, if_neg (by omega), if_pos rfl, toS l hs 1999998 (by omega), Option.bind_some, toY y hyl 1999998 (by omega), Option.bind_some, impl_run _ _ 1999998 (by omega), Option.bind_some, hR, eqState_self, Option.bind_some, if_pos rfl, eqT _ hlen 1999998 (by omega), Option.bind_some]
      simp only [laws_FnExactRecRun.j2]
      rw [if_neg (by decide), e4 1999997 (by omega), Option.bind_some, if_neg (by omega), if_pos rfl]

end Go.Proofs.Ytdkologncoofdaa.P
