/- Part 4 of the texts that the law FnExactRecBegin reaches: contracts of the functions and plain lemmas. -/
import Derived.Test.YtdkologncoofdaaCFnExactRecBegin3
-- Px49
namespace Go.Proofs.Ytdkologncoofdaa.P
open Go.RowKit Go.Proofs.YtdkologncoofdaaW.PrintWords Go.Proofs.YtdkologncoofdaaW.PrintLast Go.Proofs.YtdkologncoofdaaW.PrintMore
attribute [local go_sem] max2_int min2_int max_two min_two max_three min_three max_four min_four   -- for this text's walks alone
set_option linter.unusedVariables false
set_option linter.unusedSimpArgs false

/-! ### laws_FnExactRecBegin: function 11 -/
def laws_FnExactRecBegin.f (k : Nat) (l0 : List (S48)) : Option (Bool) := (laws_szRecPhaseS.f k l0 1048576).bind fun t448 => (if t448 < 0 then (some true) else ((laws_toRecPhaseS.f k l0).bind fun t449 => ((spec_RecBegin.f k t449).bind fun bt452 => ((laws_toRecPhaseS.f k l0).bind fun t456 => ((impl_RecBegin.f k t456).bind fun bt459 => ((laws_eqRecState.f bt459.1 bt459.2.1 bt459.2.2 bt452.1 bt452.2.1 bt452.2.2).bind fun t463 => (if t463 = true then ((laws_toRecPhaseS.f k l0).bind fun t464 => ((laws_eqRecPhaseS.f k t456 t464).bind fun t467 => (if t467 = true then (some true) else (some false)))) else (some false))))))))
theorem laws_FnExactRecBegin.mono : ∀ a0 k, LeO (laws_FnExactRecBegin.f k a0) (laws_FnExactRecBegin.f (k + 1) a0) := by
  intro a0 k
  unfold laws_FnExactRecBegin.f
  repeat' first
      | (with_reducible exact impl_RecBegin.mono _ _)
      | (with_reducible exact laws_eqRecPhaseS.mono _ _ _)
      | (with_reducible exact laws_szRecPhaseS.mono _ _ _)
      | (with_reducible exact laws_toRecPhaseS.mono _ _)
      | (with_reducible exact spec_RecBegin.mono _ _)
      | (with_reducible exact LeO.refl _)
      | (with_reducible exact LeO.none _)
      | (with_reducible refine LeO.ite ?_ ?_)
      | (with_reducible refine LeO.bind ?_ (fun _ => ?_))
      | exact impl_RecBegin.mono _ _
      | exact laws_eqRecPhaseS.mono _ _ _
      | exact laws_szRecPhaseS.mono _ _ _
      | exact laws_toRecPhaseS.mono _ _
      | exact spec_RecBegin.mono _ _
      | exact LeO.none _
      | refine LeO.ite ?_ ?_
      | refine LeO.bind ?_ (fun _ => ?_)
set_option maxHeartbeats 8000000 in
set_option maxRecDepth 100000 in
theorem laws_FnExactRecBegin.calls (k : Nat) (A0 : Option Addr) (c0 : Nat) (l0 : List (S48)) (r : Bool) (w : World) (hr0 : Kd.C k48 w A0 l0.length l0) (hc0 : l0.length ≤ c0) (h : laws_FnExactRecBegin.f k l0 = some r) :
    Calls Try.prog 11 #[.slice A0 l0.length c0] w fun e w' => e = .returned (.bool r) ∧ Below w.heap.size w w' := by
  have hu31 := Try.underlying31
  have HR0 := Aside0.mk hr0
  have HC0 := Aside0.mk hc0
  clear hr0 hc0
  have HB := Aside0.mk (Below.refl w.heap.size w)
  have H : ((laws_szRecPhaseS.f k l0 1048576).bind fun t448 => (if t448 < 0 then (some true) else ((laws_toRecPhaseS.f k l0).bind fun t449 => ((spec_RecBegin.f k t449).bind fun bt452 => ((laws_toRecPhaseS.f k l0).bind fun t456 => ((impl_RecBegin.f k t456).bind fun bt459 => ((laws_eqRecState.f bt459.1 bt459.2.1 bt459.2.2 bt452.1 bt452.2.1 bt452.2.2).bind fun t463 => (if t463 = true then ((laws_toRecPhaseS.f k l0).bind fun t464 => ((laws_eqRecPhaseS.f k t456 t464).bind fun t467 => (if t467 = true then (some true) else (some false)))) else (some false))))))))) = some r := h
  clear h
  replace H := Option.bind_eq_some_iff.mp H
  obtain ⟨t448, A20, H⟩ := H
  replace H : (if t448 < 0 then (some true) else ((laws_toRecPhaseS.f k l0).bind fun t449 => ((spec_RecBegin.f k t449).bind fun bt452 => ((laws_toRecPhaseS.f k l0).bind fun t456 => ((impl_RecBegin.f k t456).bind fun bt459 => ((laws_eqRecState.f bt459.1 bt459.2.1 bt459.2.2 bt452.1 bt452.2.1 bt452.2.2).bind fun t463 => (if t463 = true then ((laws_toRecPhaseS.f k l0).bind fun t464 => ((laws_eqRecPhaseS.f k t456 t464).bind fun t467 => (if t467 = true then (some true) else (some false)))) else (some false)))))))) = some r := H
  have A2 := Aside0.mk A20
  clear A20
  by_cases c3 : t448 < 0
  · rw [if_pos c3] at H
    have c3b0 : decide (t448 < 0) = true := decide_eq_true c3
    clear c3
    obtain rfl := Option.some.inj H
    go_enter Try.func11, Try.ntmps11
    go_wp2_with (first | ((with_reducible refine gate_callee (f := 37) rfl ?_); refine goesL_ (some 9) rfl rfl Try.func37 (by kernel_rfl) rfl #[.slice A0 l0.length c0, .int .i64 1048576] rfl (by (try simp only [List.map_toArray, List.map_cons, List.map_nil]); first | done | rfl | (simp only [List.length_drop, List.length_take]; rfl)) ?_; (with_reducible refine (laws_szRecPhaseS.calls k _ _ l0 1048576 t448 _ ?side1 ?side2 A2.out).mono ?_); (case side1 => repeat (first | exact HR0.out | (with_reducible refine Kd.C_alloc ?_ _) | (with_reducible refine Kd.C_drewN ?_ _) | (with_reducible refine Kd.C_drew ?_))); (case side2 => exact HC0.out); rintro e w4 ⟨rfl, hb⟩; refine ⟨_, rfl, ?_⟩; have n0_ := Aside0.mk (below_step (by repeat (first | (with_reducible first | exact HB.out | apply below_alloc | apply pw_below_drewN | apply below_drew1) | exact HB.out)) hb); clear HB; have HB := n0_; clear n0_; (try clear hb); (try clear hb2); (try clear hk); (try clear hi)))
    go_ret
    exact ⟨by first | rfl | (simp [errW_none, errW_some] <;> rfl) | (simp [*, errW_none, errW_some] <;> rfl), by repeat (first | (with_reducible first | exact HB.out | apply below_alloc | apply pw_below_drewN | apply below_drew1) | exact HB.out)⟩
  · rw [if_neg c3] at H
    have c3b0 : decide (t448 < 0) = false := decide_eq_false c3
    clear c3
    replace H := Option.bind_eq_some_iff.mp H
    obtain ⟨t449, A50, H⟩ := H
    replace H : ((spec_RecBegin.f k t449).bind fun bt452 => ((laws_toRecPhaseS.f k l0).bind fun t456 => ((impl_RecBegin.f k t456).bind fun bt459 => ((laws_eqRecState.f bt459.1 bt459.2.1 bt459.2.2 bt452.1 bt452.2.1 bt452.2.2).bind fun t463 => (if t463 = true then ((laws_toRecPhaseS.f k l0).bind fun t464 => ((laws_eqRecPhaseS.f k t456 t464).bind fun t467 => (if t467 = true then (some true) else (some false)))) else (some false)))))) = some r := H
    have A5 := Aside0.mk A50
    clear A50
    replace H := Option.bind_eq_some_iff.mp H
    obtain ⟨⟨t452, t453, t454⟩, A60, H⟩ := H
    replace H : ((laws_toRecPhaseS.f k l0).bind fun t456 => ((impl_RecBegin.f k t456).bind fun bt459 => ((laws_eqRecState.f bt459.1 bt459.2.1 bt459.2.2 t452 t453 t454).bind fun t463 => (if t463 = true then ((laws_toRecPhaseS.f k l0).bind fun t464 => ((laws_eqRecPhaseS.f k t456 t464).bind fun t467 => (if t467 = true then (some true) else (some false)))) else (some false))))) = some r := H
    have A6 := Aside0.mk A60
    clear A60
    replace H := Option.bind_eq_some_iff.mp H
    obtain ⟨t456, A70, H⟩ := H
    replace H : ((impl_RecBegin.f k t456).bind fun bt459 => ((laws_eqRecState.f bt459.1 bt459.2.1 bt459.2.2 t452 t453 t454).bind fun t463 => (if t463 = true then ((laws_toRecPhaseS.f k l0).bind fun t464 => ((laws_eqRecPhaseS.f k t456 t464).bind fun t467 => (if t467 = true then (some true) else (some false)))) else (some false)))) = some r := H
    have A7 := Aside0.mk A70
    clear A70
    replace H := Option.bind_eq_some_iff.mp H
    obtain ⟨⟨t459, t460, t461⟩, A80, H⟩ := H
    replace H : ((laws_eqRecState.f t459 t460 t461 t452 t453 t454).bind fun t463 => (if t463 = true then ((laws_toRecPhaseS.f k l0).bind fun t464 => ((laws_eqRecPhaseS.f k t456 t464).bind fun t467 => (if t467 = true then (some true) else (some false)))) else (some false))) = some r := H
    have A8 := Aside0.mk A80
    clear A80
    replace H := Option.bind_eq_some_iff.mp H
    obtain ⟨t463, A90, H⟩ := H
    replace H : (if t463 = true then ((laws_toRecPhaseS.f k l0).bind fun t464 => ((laws_eqRecPhaseS.f k t456 t464).bind fun t467 => (if t467 = true then (some true) else (some false)))) else (some false)) = some r := H
    have A9 := Aside0.mk A90
    clear A90
    by_cases c10 : t463 = true
    · subst c10
      have H1 : ((laws_toRecPhaseS.f k l0).bind fun t464 => ((laws_eqRecPhaseS.f k t456 t464).bind fun t467 => (if t467 = true then (some true) else (some false)))) = some r := by rw [if_pos rfl] at H; exact H
      clear H
      have H := H1
      clear H1
      replace H := Option.bind_eq_some_iff.mp H
      obtain ⟨t464, A110, H⟩ := H
      replace H : ((laws_eqRecPhaseS.f k t456 t464).bind fun t467 => (if t467 = true then (some true) else (some false))) = some r := H
      have A11 := Aside0.mk A110
      clear A110
      replace H := Option.bind_eq_some_iff.mp H
      obtain ⟨t467, A120, H⟩ := H
      replace H : (if t467 = true then (some true) else (some false)) = some r := H
      have A12 := Aside0.mk A120
      clear A120
      by_cases c13 : t467 = true
      · subst c13
        have H1 : (some true) = some r := by rw [if_pos rfl] at H; exact H
        clear H
        have H := H1
        clear H1
        obtain rfl := Option.some.inj H
        go_enter Try.func11, Try.ntmps11
        go_wp2_with (first | ((with_reducible refine gate_callee (f := 37) rfl ?_); refine goesL_ (some 9) rfl rfl Try.func37 (by kernel_rfl) rfl #[.slice A0 l0.length c0, .int .i64 1048576] rfl (by (try simp only [List.map_toArray, List.map_cons, List.map_nil]); first | done | rfl | (simp only [List.length_drop, List.length_take]; rfl)) ?_; (with_reducible refine (laws_szRecPhaseS.calls k _ _ l0 1048576 t448 _ ?side1 ?side2 A2.out).mono ?_); (case side1 => repeat (first | exact HR0.out | (with_reducible refine Kd.C_alloc ?_ _) | (with_reducible refine Kd.C_drewN ?_ _) | (with_reducible refine Kd.C_drew ?_))); (case side2 => exact HC0.out); rintro e w14 ⟨rfl, hb⟩; refine ⟨_, rfl, ?_⟩; have n0_ := Aside0.mk (below_step (by repeat (first | (with_reducible first | exact HB.out | apply below_alloc | apply pw_below_drewN | apply below_drew1) | exact HB.out)) hb); clear HB; have HB := n0_; clear n0_; (try clear hb); (try clear hb2); (try clear hk); (try clear hi)) | ((with_reducible refine gate_callee (f := 38) rfl ?_); refine goesL_ (some 13) rfl rfl Try.func38 (by kernel_rfl) rfl #[.slice A0 l0.length c0] rfl (by (try simp only [List.map_toArray, List.map_cons, List.map_nil]); first | done | rfl | (simp only [List.length_drop, List.length_take]; rfl)) ?_; (with_reducible refine (laws_toRecPhaseS.calls k _ _ l0 t449 _ ?side1 ?side2 A5.out).mono ?_); (case side1 => repeat (first | exact (Kd.C_below HR0.out HB.out) | (with_reducible refine Kd.C_alloc ?_ _) | (with_reducible refine Kd.C_drewN ?_ _) | (with_reducible refine Kd.C_drew ?_))); (case side2 => exact HC0.out); rintro e w15 ⟨v450, rfl, ho0, hb⟩; refine ⟨_, rfl, ?_⟩; have n0_ := Aside0.mk (Kd.R_lower ho0 (below_size (by repeat (first | (with_reducible first | exact HB.out | apply below_alloc | apply pw_below_drewN | apply below_drew1) | exact HB.out)))); have n1_ := Aside0.mk (below_step (by repeat (first | (with_reducible first | exact HB.out | apply below_alloc | apply pw_below_drewN | apply below_drew1) | exact HB.out)) hb); clear HB; have HO451 := n0_; have HB := n1_; clear n0_ n1_; (try clear hb); (try clear hb2); (try clear hk); (try clear hi); (try clear ho0); obtain ⟨Ao16, co16, eo16⟩ := Kd.R_slice HO451.out; subst eo16) | ((with_reducible refine gate_callee (f := 42) rfl ?_); refine goesL_ (some 14) rfl rfl Try.func42 (by kernel_rfl) rfl #[.slice Ao16 t449.length co16] rfl (by (try simp only [List.map_toArray, List.map_cons, List.map_nil]); first | done | rfl | (simp only [List.length_drop, List.length_take]; rfl)) ?_; (with_reducible refine (spec_RecBegin.calls k _ _ t449 t452 t453 t454 _ ?side1 ?side2 A6.out).mono ?_); (case side1 => repeat (first | exact (Kd.R_reads' HO451.out).2.2 | (with_reducible refine Kd.C_alloc ?_ _) | (with_reducible refine Kd.C_drewN ?_ _) | (with_reducible refine Kd.C_drew ?_))); (case side2 => exact (Kd.R_reads' HO451.out).2.1); rintro e w17 ⟨rfl, hb⟩; refine ⟨_, rfl, ?_⟩; have n0_ := Aside0.mk (Kd.R_below (by (with_reducible repeat (first | apply Kd.R_alloc | apply Kd.R_drewN | apply Kd.R_drew)); exact HO451.out) hb); have n1_ := Aside0.mk (below_step (by repeat (first | (with_reducible first | exact HB.out | apply below_alloc | apply pw_below_drewN | apply below_drew1) | exact HB.out)) hb); clear HO451; clear HB; have HO451 := n0_; have HB := n1_; clear n0_ n1_; (try clear hb); (try clear hb2); (try clear hk); (try clear hi)) | ((with_reducible refine gate_dst (N := 4) rfl ?_); refine box_event ?hg (N := 4) ?hd (cs := #[.string (⟨#[]⟩ : ByteArray), .int .i64 0, .int .i64 0]) (t := 31) ?hr ?_; (case hd => rfl); (case hg => rfl); (case hr => first | (go_simp; done) | (go_simp; rfl)); intro gb455 hg w18 hbox hb; have n0_ := Aside0.mk (Kd.R_below (by (with_reducible repeat (first | apply Kd.R_alloc | apply Kd.R_drewN | apply Kd.R_drew)); exact HO451.out) hb); have n1_ := Aside0.mk (below_step (by repeat (first | (with_reducible first | exact HB.out | apply below_alloc | apply pw_below_drewN | apply below_drew1) | exact HB.out)) hb); have n2_ := Aside0.mk (hbox); have n3_ := Aside0.mk ((by rw [hg]; exact (below_size (by repeat (first | (with_reducible first | exact HB.out | apply below_alloc | apply pw_below_drewN | apply below_drew1) | exact HB.out))) : w.heap.size ≤ gb455)); have n4_ := Aside0.mk ((by rw [hg]; exact (below_size (by repeat (first | (with_reducible first | exact HB.out | apply below_alloc | apply pw_below_drewN | apply below_drew1) | exact HB.out))) : w.heap.size ≤ gb455)); clear HO451; clear HB; have HO451 := n0_; have HB := n1_; have BK455 := n2_; have GW455 := n3_; have GE455 := n4_; clear n0_ n1_ n2_ n3_ n4_; clear hb hbox hg; have hcz19_0 : w18.cell? ⟨gb455, 0, none⟩ = some (.string (⟨#[]⟩ : ByteArray)) := (blk_cell BK455.out 0).trans rfl; have hcz19_1 : w18.cell? ⟨gb455, 1, none⟩ = some (.int .i64 0) := (blk_cell BK455.out 1).trans rfl; have hcz19_2 : w18.cell? ⟨gb455, 2, none⟩ = some (.int .i64 0) := (blk_cell BK455.out 2).trans rfl; have hfz19_0 := blk_frozen BK455.out 0; have hfz19_1 := blk_frozen BK455.out 1; have hfz19_2 := blk_frozen BK455.out 2) | ((with_reducible refine gate_callee (f := 38) rfl ?_); refine goesL_ (some 16) rfl rfl Try.func38 (by kernel_rfl) rfl #[.slice A0 l0.length c0] rfl (by (try simp only [List.map_toArray, List.map_cons, List.map_nil]); first | done | rfl | (simp only [List.length_drop, List.length_take]; rfl)) ?_; (with_reducible refine (laws_toRecPhaseS.calls k _ _ l0 t456 _ ?side1 ?side2 A7.out).mono ?_); (case side1 => exact Kd.C_below HR0.out (by repeat (first | (with_reducible first | exact HB.out | apply below_alloc | apply pw_below_drewN | apply below_drew1 | refine below_set ?_ GE455.out) | exact HB.out))); (case side2 => exact HC0.out); rintro e w20 ⟨v457, rfl, ho0, hb⟩; refine ⟨_, rfl, ?_⟩; have n0_ := Aside0.mk (Kd.R_elder' (by (with_reducible repeat (first | apply Kd.R_alloc | apply Kd.R_drewN | apply Kd.R_drew)); exact (Kd.R_mono (Kd.R_far (p := ⟨gb455, 2, none⟩) (Kd.R_far (p := ⟨gb455, 1, none⟩) (Kd.R_far (p := ⟨gb455, 0, none⟩) (Kd.R_types HO451.out BK455.out (by decide)) (fun _ hk => hk.2) (.string t452)) (fun _ hk => hk.2) (.int .i64 t453)) (fun _ hk => hk.2) (.int .i64 t454)) (fun _ h_ => h_.1))) (Kd.R_base ho0) hb); have n1_ := Aside0.mk (Kd.R_lower (Kd.R_new' ho0 (Kd.R_lt (by (with_reducible repeat (first | apply Kd.R_alloc | apply Kd.R_drewN | apply Kd.R_drew)); exact (Kd.R_mono (Kd.R_far (p := ⟨gb455, 2, none⟩) (Kd.R_far (p := ⟨gb455, 1, none⟩) (Kd.R_far (p := ⟨gb455, 0, none⟩) (Kd.R_types HO451.out BK455.out (by decide)) (fun _ hk => hk.2) (.string t452)) (fun _ hk => hk.2) (.int .i64 t453)) (fun _ hk => hk.2) (.int .i64 t454)) (fun _ h_ => h_.1))))) (below_size (by repeat (first | (with_reducible first | exact HB.out | apply below_alloc | apply pw_below_drewN | apply below_drew1 | refine below_set ?_ GE455.out) | exact HB.out)))); have n2_ := Aside0.mk (blk_below (g := gb455) (o := .cells #[.string t452, .int .i64 t453, .int .i64 t454] 31 (0, 0)) (by (with_reducible repeat (first | refine blk_drewN ?_ _ | refine blk_drew ?_ | refine blk_alloc ?_ _)); refine blk_put (cs := #[.string t452, .int .i64 t453, .int .i64 0]) ?_ 2 _ rfl; (with_reducible repeat (first | refine blk_drewN ?_ _ | refine blk_drew ?_ | refine blk_alloc ?_ _)); refine blk_put (cs := #[.string t452, .int .i64 0, .int .i64 0]) ?_ 1 _ rfl; (with_reducible repeat (first | refine blk_drewN ?_ _ | refine blk_drew ?_ | refine blk_alloc ?_ _)); refine blk_put (cs := #[.string (⟨#[]⟩ : ByteArray), .int .i64 0, .int .i64 0]) ?_ 0 _ rfl; (with_reducible repeat (first | refine blk_drewN ?_ _ | refine blk_drew ?_ | refine blk_alloc ?_ _)); exact BK455.out) hb); have n3_ := Aside0.mk (below_step (by repeat (first | (with_reducible first | exact HB.out | apply below_alloc | apply pw_below_drewN | apply below_drew1 | refine below_set ?_ GE455.out) | exact HB.out)) hb); clear HO451; clear BK455; clear HB; have HO451 := n0_; have HO458 := n1_; have BK455 := n2_; have HB := n3_; clear n0_ n1_ n2_ n3_; (try clear hb); (try clear hb2); (try clear hk); (try clear hi); (try clear ho0); obtain ⟨Ao21, co21, eo21⟩ := Kd.R_slice HO458.out; subst eo21) | ((with_reducible refine gate_callee (f := 27) rfl ?_); refine goesL_ (some 18) rfl rfl Try.func27 (by kernel_rfl) rfl #[.slice Ao21 t456.length co21] rfl (by (try simp only [List.map_toArray, List.map_cons, List.map_nil]); first | done | rfl | (simp only [List.length_drop, List.length_take]; rfl)) ?_; (with_reducible refine (impl_RecBegin.calls k _ _ t456 t459 t460 t461 _ ?side1 ?side2 A8.out).mono ?_); (case side1 => repeat (first | exact (Kd.R_reads' HO458.out).2.2 | (with_reducible refine Kd.C_alloc ?_ _) | (with_reducible refine Kd.C_drewN ?_ _) | (with_reducible refine Kd.C_drew ?_))); (case side2 => exact (Kd.R_reads' HO458.out).2.1); rintro e w22 ⟨rfl, hb⟩; refine ⟨_, rfl, ?_⟩; have n0_ := Aside0.mk (Kd.R_below (by (with_reducible repeat (first | apply Kd.R_alloc | apply Kd.R_drewN | apply Kd.R_drew)); exact HO451.out) hb); have n1_ := Aside0.mk (Kd.R_below (by (with_reducible repeat (first | apply Kd.R_alloc | apply Kd.R_drewN | apply Kd.R_drew)); exact HO458.out) hb); have n2_ := Aside0.mk (blk_below (g := gb455) (o := .cells #[.string t452, .int .i64 t453, .int .i64 t454] 31 (0, 0)) (by (with_reducible repeat (first | refine blk_drewN ?_ _ | refine blk_drew ?_ | refine blk_alloc ?_ _)); exact BK455.out) hb); have n3_ := Aside0.mk (below_step (by repeat (first | (with_reducible first | exact HB.out | apply below_alloc | apply pw_below_drewN | apply below_drew1 | refine below_set ?_ GE455.out) | exact HB.out)) hb); clear HO451; clear HO458; clear BK455; clear HB; have HO451 := n0_; have HO458 := n1_; have BK455 := n2_; have HB := n3_; clear n0_ n1_ n2_ n3_; (try clear hb); (try clear hb2); (try clear hk); (try clear hi)) | ((with_reducible refine gate_dst (N := 6) rfl ?_); refine box_event ?hg (N := 6) ?hd (cs := #[.string (⟨#[]⟩ : ByteArray), .int .i64 0, .int .i64 0]) (t := 31) ?hr ?_; (case hd => rfl); (case hg => rfl); (case hr => first | (go_simp; done) | (go_simp; rfl)); intro gb462 hg w23 hbox hb; have n0_ := Aside0.mk (Kd.R_below (by (with_reducible repeat (first | apply Kd.R_alloc | apply Kd.R_drewN | apply Kd.R_drew)); exact HO451.out) hb); have n1_ := Aside0.mk (Kd.R_below (by (with_reducible repeat (first | apply Kd.R_alloc | apply Kd.R_drewN | apply Kd.R_drew)); exact HO458.out) hb); have n2_ := Aside0.mk (blk_below (g := gb455) (o := .cells #[.string t452, .int .i64 t453, .int .i64 t454] 31 (0, 0)) (by (with_reducible repeat (first | refine blk_drewN ?_ _ | refine blk_drew ?_ | refine blk_alloc ?_ _)); exact BK455.out) hb); have n3_ := Aside0.mk (below_step (by repeat (first | (with_reducible first | exact HB.out | apply below_alloc | apply pw_below_drewN | apply below_drew1 | refine below_set ?_ GE455.out) | exact HB.out)) hb); have n4_ := Aside0.mk (hbox); have n5_ := Aside0.mk ((by rw [hg]; exact (below_size (by repeat (first | (with_reducible first | exact HB.out | apply below_alloc | apply pw_below_drewN | apply below_drew1 | refine below_set ?_ GE455.out) | exact HB.out))) : w.heap.size ≤ gb462)); have n6_ := Aside0.mk ((by rw [hg]; exact (below_size (by repeat (first | (with_reducible first | exact HB.out | apply below_alloc | apply pw_below_drewN | apply below_drew1 | refine below_set ?_ GE455.out) | exact HB.out))) : w.heap.size ≤ gb462)); have n7_ := Aside0.mk ((by rw [hg]; exact Nat.ne_of_lt (blk_lt (g := gb455) (o := .cells #[.string t452, .int .i64 t453, .int .i64 t454] 31 (0, 0)) (by (with_reducible repeat (first | refine blk_drewN ?_ _ | refine blk_drew ?_ | refine blk_alloc ?_ _)); exact BK455.out)) : gb455 ≠ gb462)); have n8_ := Aside0.mk ((by rw [hg]; exact Nat.ne_of_gt (blk_lt (g := gb455) (o := .cells #[.string t452, .int .i64 t453, .int .i64 t454] 31 (0, 0)) (by (with_reducible repeat (first | refine blk_drewN ?_ _ | refine blk_drew ?_ | refine blk_alloc ?_ _)); exact BK455.out)) : gb462 ≠ gb455)); clear HO451; clear HO458; clear BK455; clear HB; have HO451 := n0_; have HO458 := n1_; have BK455 := n2_; have HB := n3_; have BK462 := n4_; have GW462 := n5_; have GE462 := n6_; have NB455_462 := n7_; have NB462_455 := n8_; clear n0_ n1_ n2_ n3_ n4_ n5_ n6_ n7_ n8_; clear hb hbox hg; have hnb24 := NB462_455.out; have hnc24 := NB455_462.out; have hcz25_0 : w23.cell? ⟨gb462, 0, none⟩ = some (.string (⟨#[]⟩ : ByteArray)) := (blk_cell BK462.out 0).trans rfl; have hcz25_1 : w23.cell? ⟨gb462, 1, none⟩ = some (.int .i64 0) := (blk_cell BK462.out 1).trans rfl; have hcz25_2 : w23.cell? ⟨gb462, 2, none⟩ = some (.int .i64 0) := (blk_cell BK462.out 2).trans rfl; have hfz25_0 := blk_frozen BK462.out 0; have hfz25_1 := blk_frozen BK462.out 1; have hfz25_2 := blk_frozen BK462.out 2; have hcz26_0 : w23.cell? ⟨gb455, 0, none⟩ = some (.string t452) := (blk_cell BK455.out 0).trans rfl; have hcz26_1 : w23.cell? ⟨gb455, 1, none⟩ = some (.int .i64 t453) := (blk_cell BK455.out 1).trans rfl; have hcz26_2 : w23.cell? ⟨gb455, 2, none⟩ = some (.int .i64 t454) := (blk_cell BK455.out 2).trans rfl; have hfz26_0 := blk_frozen BK455.out 0; have hfz26_1 := blk_frozen BK455.out 1; have hfz26_2 := blk_frozen BK455.out 2) | ((with_reducible refine gate_callee (f := 43) rfl ?_); refine goesL_ (some 21) rfl rfl Try.func43 (by kernel_rfl) rfl #[.agg #[.string t459, .int .i64 t460, .int .i64 t461], .agg #[.string t452, .int .i64 t453, .int .i64 t454]] rfl (by (try simp only [List.map_toArray, List.map_cons, List.map_nil]); first | done | rfl | (simp only [List.length_drop, List.length_take]; rfl)) ?_; (with_reducible refine (laws_eqRecState.calls t459 t460 t461 t452 t453 t454 true _ A9.out).mono ?_); rintro e w27 ⟨rfl, hb⟩; refine ⟨_, rfl, ?_⟩; have n0_ := Aside0.mk (Kd.R_below (by (with_reducible repeat (first | apply Kd.R_alloc | apply Kd.R_drewN | apply Kd.R_drew)); exact (Kd.R_mono (Kd.R_far (p := ⟨gb462, 2, none⟩) (Kd.R_far (p := ⟨gb462, 1, none⟩) (Kd.R_far (p := ⟨gb462, 0, none⟩) (Kd.R_types HO451.out BK462.out (by decide)) (fun _ hk => hk.2) (.string t459)) (fun _ hk => hk.2) (.int .i64 t460)) (fun _ hk => hk.2) (.int .i64 t461)) (fun _ h_ => h_.1))) hb); have n1_ := Aside0.mk (Kd.R_below (by (with_reducible repeat (first | apply Kd.R_alloc | apply Kd.R_drewN | apply Kd.R_drew)); exact (Kd.R_mono (Kd.R_far (p := ⟨gb462, 2, none⟩) (Kd.R_far (p := ⟨gb462, 1, none⟩) (Kd.R_far (p := ⟨gb462, 0, none⟩) (Kd.R_types HO458.out BK462.out (by decide)) (fun _ hk => hk.2) (.string t459)) (fun _ hk => hk.2) (.int .i64 t460)) (fun _ hk => hk.2) (.int .i64 t461)) (fun _ h_ => h_.1))) hb); have n2_ := Aside0.mk (blk_below (g := gb455) (o := .cells #[.string t452, .int .i64 t453, .int .i64 t454] 31 (0, 0)) (by (with_reducible repeat (first | refine blk_drewN ?_ _ | refine blk_drew ?_ | refine blk_alloc ?_ _)); refine blk_far ?_ NB455_462.out _; (with_reducible repeat (first | refine blk_drewN ?_ _ | refine blk_drew ?_ | refine blk_alloc ?_ _)); refine blk_far ?_ NB455_462.out _; (with_reducible repeat (first | refine blk_drewN ?_ _ | refine blk_drew ?_ | refine blk_alloc ?_ _)); refine blk_far ?_ NB455_462.out _; (with_reducible repeat (first | refine blk_drewN ?_ _ | refine blk_drew ?_ | refine blk_alloc ?_ _)); exact BK455.out) hb); have n3_ := Aside0.mk (blk_below (g := gb462) (o := .cells #[.string t459, .int .i64 t460, .int .i64 t461] 31 (0, 0)) (by (with_reducible repeat (first | refine blk_drewN ?_ _ | refine blk_drew ?_ | refine blk_alloc ?_ _)); refine blk_put (cs := #[.string t459, .int .i64 t460, .int .i64 0]) ?_ 2 _ rfl; (with_reducible repeat (first | refine blk_drewN ?_ _ | refine blk_drew ?_ | refine blk_alloc ?_ _)); refine blk_put (cs := #[.string t459, .int .i64 0, .int .i64 0]) ?_ 1 _ rfl; (with_reducible repeat (first | refine blk_drewN ?_ _ | refine blk_drew ?_ | refine blk_alloc ?_ _)); refine blk_put (cs := #[.string (⟨#[]⟩ : ByteArray), .int .i64 0, .int .i64 0]) ?_ 0 _ rfl; (with_reducible repeat (first | refine blk_drewN ?_ _ | refine blk_drew ?_ | refine blk_alloc ?_ _)); exact BK462.out) hb); have n4_ := Aside0.mk (below_step (by repeat (first | (with_reducible first | exact HB.out | apply below_alloc | apply pw_below_drewN | apply below_drew1 | refine below_set ?_ GE455.out | refine below_set ?_ GE462.out) | exact HB.out)) hb); clear HO451; clear HO458; clear BK455; clear BK462; clear HB; have HO451 := n0_; have HO458 := n1_; have BK455 := n2_; have BK462 := n3_; have HB := n4_; clear n0_ n1_ n2_ n3_ n4_; (try clear hb); (try clear hb2); (try clear hk); (try clear hi)) | ((with_reducible refine gate_callee (f := 38) rfl ?_); refine goesL_ (some 25) rfl rfl Try.func38 (by kernel_rfl) rfl #[.slice A0 l0.length c0] rfl (by (try simp only [List.map_toArray, List.map_cons, List.map_nil]); first | done | rfl | (simp only [List.length_drop, List.length_take]; rfl)) ?_; (with_reducible refine (laws_toRecPhaseS.calls k _ _ l0 t464 _ ?side1 ?side2 A11.out).mono ?_); (case side1 => repeat (first | exact (Kd.C_below HR0.out HB.out) | (with_reducible refine Kd.C_alloc ?_ _) | (with_reducible refine Kd.C_drewN ?_ _) | (with_reducible refine Kd.C_drew ?_))); (case side2 => exact HC0.out); rintro e w28 ⟨v465, rfl, ho0, hb⟩; refine ⟨_, rfl, ?_⟩; have n0_ := Aside0.mk (Kd.R_elder' (by (with_reducible repeat (first | apply Kd.R_alloc | apply Kd.R_drewN | apply Kd.R_drew)); exact HO451.out) (Kd.R_base ho0) hb); have n1_ := Aside0.mk (Kd.R_elder' (by (with_reducible repeat (first | apply Kd.R_alloc | apply Kd.R_drewN | apply Kd.R_drew)); exact HO458.out) (Kd.R_base ho0) hb); have n2_ := Aside0.mk (Kd.R_lower (Kd.R_new' (Kd.R_new' ho0 (Kd.R_lt (by (with_reducible repeat (first | apply Kd.R_alloc | apply Kd.R_drewN | apply Kd.R_drew)); exact HO451.out))) (Kd.R_lt (by (with_reducible repeat (first | apply Kd.R_alloc | apply Kd.R_drewN | apply Kd.R_drew)); exact HO458.out))) (below_size (by repeat (first | (with_reducible first | exact HB.out | apply below_alloc | apply pw_below_drewN | apply below_drew1 | refine below_set ?_ GE455.out | refine below_set ?_ GE462.out) | exact HB.out)))); have n3_ := Aside0.mk (blk_below (g := gb455) (o := .cells #[.string t452, .int .i64 t453, .int .i64 t454] 31 (0, 0)) (by (with_reducible repeat (first | refine blk_drewN ?_ _ | refine blk_drew ?_ | refine blk_alloc ?_ _)); exact BK455.out) hb); have n4_ := Aside0.mk (blk_below (g := gb462) (o := .cells #[.string t459, .int .i64 t460, .int .i64 t461] 31 (0, 0)) (by (with_reducible repeat (first | refine blk_drewN ?_ _ | refine blk_drew ?_ | refine blk_alloc ?_ _)); exact BK462.out) hb); have n5_ := Aside0.mk (below_step (by repeat (first | (with_reducible first | exact HB.out | apply below_alloc | apply pw_below_drewN | apply below_drew1 | refine below_set ?_ GE455.out | refine below_set ?_ GE462.out) | exact HB.out)) hb); clear HO451; clear HO458; clear BK455; clear BK462; clear HB; have HO451 := n0_; have HO458 := n1_; have HO466 := n2_; have BK455 := n3_; have BK462 := n4_; have HB := n5_; clear n0_ n1_ n2_ n3_ n4_ n5_; (try clear hb); (try clear hb2); (try clear hk); (try clear hi); (try clear ho0); obtain ⟨Ao29, co29, eo29⟩ := Kd.R_slice HO466.out; subst eo29) | ((with_reducible refine gate_callee (f := 39) rfl ?_); refine goesL_ (some 26) rfl rfl Try.func39 (by kernel_rfl) rfl #[.slice Ao21 t456.length co21, .slice Ao29 t464.length co29] rfl (by (try simp only [List.map_toArray, List.map_cons, List.map_nil]); first | done | rfl | (simp only [List.length_drop, List.length_take]; rfl)) ?_; (with_reducible refine (laws_eqRecPhaseS.calls k _ _ t456 _ _ t464 true _ ?side1 ?side2 ?side3 ?side4 A12.out).mono ?_); (case side1 => repeat (first | exact (Kd.R_reads' HO458.out).2.2 | (with_reducible refine Kd.C_alloc ?_ _) | (with_reducible refine Kd.C_drewN ?_ _) | (with_reducible refine Kd.C_drew ?_))); (case side2 => exact (Kd.R_reads' HO458.out).2.1); (case side3 => repeat (first | exact (Kd.R_reads' HO466.out).2.2 | (with_reducible refine Kd.C_alloc ?_ _) | (with_reducible refine Kd.C_drewN ?_ _) | (with_reducible refine Kd.C_drew ?_))); (case side4 => exact (Kd.R_reads' HO466.out).2.1); rintro e w30 ⟨rfl, hb⟩; refine ⟨_, rfl, ?_⟩; have n0_ := Aside0.mk (Kd.R_below (by (with_reducible repeat (first | apply Kd.R_alloc | apply Kd.R_drewN | apply Kd.R_drew)); exact HO451.out) hb); have n1_ := Aside0.mk (Kd.R_below (by (with_reducible repeat (first | apply Kd.R_alloc | apply Kd.R_drewN | apply Kd.R_drew)); exact HO458.out) hb); have n2_ := Aside0.mk (Kd.R_below (by (with_reducible repeat (first | apply Kd.R_alloc | apply Kd.R_drewN | apply Kd.R_drew)); exact HO466.out) hb); have n3_ := Aside0.mk (blk_below (g := gb455) (o := .cells #[.string t452, .int .i64 t453, .int .i64 t454] 31 (0, 0)) (by (with_reducible repeat (first | refine blk_drewN ?_ _ | refine blk_drew ?_ | refine blk_alloc ?_ _)); exact BK455.out) hb); have n4_ := Aside0.mk (blk_below (g := gb462) (o := .cells #[.string t459, .int .i64 t460, .int .i64 t461] 31 (0, 0)) (by (with_reducible repeat (first | refine blk_drewN ?_ _ | refine blk_drew ?_ | refine blk_alloc ?_ _)); exact BK462.out) hb); have n5_ := Aside0.mk (below_step (by repeat (first | (with_reducible first | exact HB.out | apply below_alloc | apply pw_below_drewN | apply below_drew1 | refine below_set ?_ GE455.out | refine below_set ?_ GE462.out) | exact HB.out)) hb); clear HO451; clear HO458; clear HO466; clear BK455; clear BK462; clear HB; have HO451 := n0_; have HO458 := n1_; have HO466 := n2_; have BK455 := n3_; have BK462 := n4_; have HB := n5_; clear n0_ n1_ n2_ n3_ n4_ n5_; (try clear hb); (try clear hb2); (try clear hk); (try clear hi)))
        go_ret
        exact ⟨by first | rfl | (simp [errW_none, errW_some] <;> rfl) | (simp [*, errW_none, errW_some] <;> rfl), by repeat (first | (with_reducible first | exact HB.out | apply below_alloc | apply pw_below_drewN | apply below_drew1 | refine below_set ?_ GE455.out | refine below_set ?_ GE462.out) | exact HB.out)⟩
      · replace c13 := Bool.eq_false_iff.mpr c13
        subst c13
        have H1 : (some false) = some r := by rw [if_neg (show ¬ (false = true) by decide)] at H; exact H
        clear H
        have H := H1
        clear H1
        obtain rfl := Option.some.inj H
        go_enter Try.func11, Try.ntmps11
        go_wp2_with (first | ((with_reducible refine gate_callee (f := 37) rfl ?_); refine goesL_ (some 9) rfl rfl Try.func37 (by kernel_rfl) rfl #[.slice A0 l0.length c0, .int .i64 1048576] rfl (by (try simp only [List.map_toArray, List.map_cons, List.map_nil]); first | done | rfl | (simp only [List.length_drop, List.length_take]; rfl)) ?_; (with_reducible refine (laws_szRecPhaseS.calls k _ _ l0 1048576 t448 _ ?side1 ?side2 A2.out).mono ?_); (case side1 => repeat (first | exact HR0.out | (with_reducible refine Kd.C_alloc ?_ _) | (with_reducible refine Kd.C_drewN ?_ _) | (with_reducible refine Kd.C_drew ?_))); (case side2 => exact HC0.out); rintro e w31 ⟨rfl, hb⟩; refine ⟨_, rfl, ?_⟩; have n0_ := Aside0.mk (below_step (by repeat (first | (with_reducible first | exact HB.out | apply below_alloc | apply pw_below_drewN | apply below_drew1) | exact HB.out)) hb); clear HB; have HB := n0_; clear n0_; (try clear hb); (try clear hb2); (try clear hk); (try clear hi)) | ((with_reducible refine gate_callee (f := 38) rfl ?_); refine goesL_ (some 13) rfl rfl Try.func38 (by kernel_rfl) rfl #[.slice A0 l0.length c0] rfl (by (try simp only [List.map_toArray, List.map_cons, List.map_nil]); first | done | rfl | (simp only [List.length_drop, List.length_take]; rfl)) ?_; (with_reducible refine (laws_toRecPhaseS.calls k _ _ l0 t449 _ ?side1 ?side2 A5.out).mono ?_); (case side1 => repeat (first | exact (Kd.C_below HR0.out HB.out) | (with_reducible refine Kd.C_alloc ?_ _) | (with_reducible refine Kd.C_drewN ?_ _) | (with_reducible refine Kd.C_drew ?_))); (case side2 => exact HC0.out); rintro e w32 ⟨v450, rfl, ho0, hb⟩; refine ⟨_, rfl, ?_⟩; have n0_ := Aside0.mk (Kd.R_lower ho0 (below_size (by repeat (first | (with_reducible first | exact HB.out | apply below_alloc | apply pw_below_drewN | apply below_drew1) | exact HB.out)))); have n1_ := Aside0.mk (below_step (by repeat (first | (with_reducible first | exact HB.out | apply below_alloc | apply pw_below_drewN | apply below_drew1) | exact HB.out)) hb); clear HB; have HO451 := n0_; have HB := n1_; clear n0_ n1_; (try clear hb); (try clear hb2); (try clear hk); (try clear hi); (try clear ho0); obtain ⟨Ao33, co33, eo33⟩ := Kd.R_slice HO451.out; subst eo33) | ((with_reducible refine gate_callee (f := 42) rfl ?_); refine goesL_ (some 14) rfl rfl Try.func42 (by kernel_rfl) rfl #[.slice Ao33 t449.length co33] rfl (by (try simp only [List.map_toArray, List.map_cons, List.map_nil]); first | done | rfl | (simp only [List.length_drop, List.length_take]; rfl)) ?_; (with_reducible refine (spec_RecBegin.calls k _ _ t449 t452 t453 t454 _ ?side1 ?side2 A6.out).mono ?_); (case side1 => repeat (first | exact (Kd.R_reads' HO451.out).2.2 | (with_reducible refine Kd.C_alloc ?_ _) | (with_reducible refine Kd.C_drewN ?_ _) | (with_reducible refine Kd.C_drew ?_))); (case side2 => exact (Kd.R_reads' HO451.out).2.1); rintro e w34 ⟨rfl, hb⟩; refine ⟨_, rfl, ?_⟩; have n0_ := Aside0.mk (Kd.R_below (by (with_reducible repeat (first | apply Kd.R_alloc | apply Kd.R_drewN | apply Kd.R_drew)); exact HO451.out) hb); have n1_ := Aside0.mk (below_step (by repeat (first | (with_reducible first | exact HB.out | apply below_alloc | apply pw_below_drewN | apply below_drew1) | exact HB.out)) hb); clear HO451; clear HB; have HO451 := n0_; have HB := n1_; clear n0_ n1_; (try clear hb); (try clear hb2); (try clear hk); (try clear hi)) | ((with_reducible refine gate_dst (N := 4) rfl ?_); refine box_event ?hg (N := 4) ?hd (cs := #[.string (⟨#[]⟩ : ByteArray), .int .i64 0, .int .i64 0]) (t := 31) ?hr ?_; (case hd => rfl); (case hg => rfl); (case hr => first | (go_simp; done) | (go_simp; rfl)); intro gb455 hg w35 hbox hb; have n0_ := Aside0.mk (Kd.R_below (by (with_reducible repeat (first | apply Kd.R_alloc | apply Kd.R_drewN | apply Kd.R_drew)); exact HO451.out) hb); have n1_ := Aside0.mk (below_step (by repeat (first | (with_reducible first | exact HB.out | apply below_alloc | apply pw_below_drewN | apply below_drew1) | exact HB.out)) hb); have n2_ := Aside0.mk (hbox); have n3_ := Aside0.mk ((by rw [hg]; exact (below_size (by repeat (first | (with_reducible first | exact HB.out | apply below_alloc | apply pw_below_drewN | apply below_drew1) | exact HB.out))) : w.heap.size ≤ gb455)); have n4_ := Aside0.mk ((by rw [hg]; exact (below_size (by repeat (first | (with_reducible first | exact HB.out | apply below_alloc | apply pw_below_drewN | apply below_drew1) | exact HB.out))) : w.heap.size ≤ gb455)); clear HO451; clear HB; have HO451 := n0_; have HB := n1_; have BK455 := n2_; have GW455 := n3_; have GE455 := n4_; clear n0_ n1_ n2_ n3_ n4_; clear hb hbox hg; have hcz36_0 : w35.cell? ⟨gb455, 0, none⟩ = some (.string (⟨#[]⟩ : ByteArray)) := (blk_cell BK455.out 0).trans rfl; have hcz36_1 : w35.cell? ⟨gb455, 1, none⟩ = some (.int .i64 0) := (blk_cell BK455.out 1).trans rfl; have hcz36_2 : w35.cell? ⟨gb455, 2, none⟩ = some (.int .i64 0) := (blk_cell BK455.out 2).trans rfl; have hfz36_0 := blk_frozen BK455.out 0; have hfz36_1 := blk_frozen BK455.out 1; have hfz36_2 := blk_frozen BK455.out 2) | ((with_reducible refine gate_callee (f := 38) rfl ?_); refine goesL_ (some 16) rfl rfl Try.func38 (by kernel_rfl) rfl #[.slice A0 l0.length c0] rfl (by (try simp only [List.map_toArray, List.map_cons, List.map_nil]); first | done | rfl | (simp only [List.length_drop, List.length_take]; rfl)) ?_; (with_reducible refine (laws_toRecPhaseS.calls k _ _ l0 t456 _ ?side1 ?side2 A7.out).mono ?_); (case side1 => exact Kd.C_below HR0.out (by repeat (first | (with_reducible first | exact HB.out | apply below_alloc | apply pw_below_drewN | apply below_drew1 | refine below_set ?_ GE455.out) | exact HB.out))); (case side2 => exact HC0.out); rintro e w37 ⟨v457, rfl, ho0, hb⟩; refine ⟨_, rfl, ?_⟩; have n0_ := Aside0.mk (Kd.R_elder' (by (with_reducible repeat (first | apply Kd.R_alloc | apply Kd.R_drewN | apply Kd.R_drew)); exact (Kd.R_mono (Kd.R_far (p := ⟨gb455, 2, none⟩) (Kd.R_far (p := ⟨gb455, 1, none⟩) (Kd.R_far (p := ⟨gb455, 0, none⟩) (Kd.R_types HO451.out BK455.out (by decide)) (fun _ hk => hk.2) (.string t452)) (fun _ hk => hk.2) (.int .i64 t453)) (fun _ hk => hk.2) (.int .i64 t454)) (fun _ h_ => h_.1))) (Kd.R_base ho0) hb); have n1_ := Aside0.mk (Kd.R_lower (Kd.R_new' ho0 (Kd.R_lt (by (with_reducible repeat (first | apply Kd.R_alloc | apply Kd.R_drewN | apply Kd.R_drew)); exact (Kd.R_mono (Kd.R_far (p := ⟨gb455, 2, none⟩) (Kd.R_far (p := ⟨gb455, 1, none⟩) (Kd.R_far (p := ⟨gb455, 0, none⟩) (Kd.R_types HO451.out BK455.out (by decide)) (fun _ hk => hk.2) (.string t452)) (fun _ hk => hk.2) (.int .i64 t453)) (fun _ hk => hk.2) (.int .i64 t454)) (fun _ h_ => h_.1))))) (below_size (by repeat (first | (with_reducible first | exact HB.out | apply below_alloc | apply pw_below_drewN | apply below_drew1 | refine below_set ?_ GE455.out) | exact HB.out)))); have n2_ := Aside0.mk (blk_below (g := gb455) (o := .cells #[.string t452, .int .i64 t453, .int .i64 t454] 31 (0, 0)) (by (with_reducible repeat (first | refine blk_drewN ?_ _ | refine blk_drew ?_ | refine blk_alloc ?_ _)); refine blk_put (cs := #[.string t452, .int .i64 t453, .int .i64 0]) ?_ 2 _ rfl; (with_reducible repeat (first | refine blk_drewN ?_ _ | refine blk_drew ?_ | refine blk_alloc ?_ _)); refine blk_put (cs := #[.string t452, .int .i64 0, .int .i64 0]) ?_ 1 _ rfl; (with_reducible repeat (first | refine blk_drewN ?_ _ | refine blk_drew ?_ | refine blk_alloc ?_ _)); refine blk_put (cs := #[.string (⟨#[]⟩ : ByteArray), .int .i64 0, .int .i64 0]) ?_ 0 _ rfl; (with_reducible repeat (first | refine blk_drewN ?_ _ | refine blk_drew ?_ | refine blk_alloc ?_ _)); exact BK455.out) hb); have n3_ := Aside0.mk (below_step (by repeat (first | (with_reducible first | exact HB.out | apply below_alloc | apply pw_below_drewN | apply below_drew1 | refine below_set ?_ GE455.out) | exact HB.out)) hb); clear HO451; clear BK455; clear HB; have HO451 := n0_; have HO458 := n1_; have BK455 := n2_; have HB := n3_; clear n0_ n1_ n2_ n3_; (try clear hb); (try clear hb2); (try clear hk); (try clear hi); (try clear ho0); obtain ⟨Ao38, co38, eo38⟩ := Kd.R_slice HO458.out; subst eo38) | ((with_reducible refine gate_callee (f := 27) rfl ?_); refine goesL_ (some 18) rfl rfl Try.func27 (by kernel_rfl) rfl #[.slice Ao38 t456.length co38] rfl (by (try simp only [List.map_toArray, List.map_cons, List.map_nil]); first | done | rfl | (simp only [List.length_drop, List.length_take]; rfl)) ?_; (with_reducible refine (impl_RecBegin.calls k _ _ t456 t459 t460 t461 _ ?side1 ?side2 A8.out).mono ?_); (case side1 => repeat (first | exact (Kd.R_reads' HO458.out).2.2 | (with_reducible refine Kd.C_alloc ?_ _) | (with_reducible refine Kd.C_drewN ?_ _) | (with_reducible refine Kd.C_drew ?_))); (case side2 => exact (Kd.R_reads' HO458.out).2.1); rintro e w39 ⟨rfl, hb⟩; refine ⟨_, rfl, ?_⟩; have n0_ := Aside0.mk (Kd.R_below (by (with_reducible repeat (first | apply Kd.R_alloc | apply Kd.R_drewN | apply Kd.R_drew)); exact HO451.out) hb); have n1_ := Aside0.mk (Kd.R_below (by (with_reducible repeat (first | apply Kd.R_alloc | apply Kd.R_drewN | apply Kd.R_drew)); exact HO458.out) hb); have n2_ := Aside0.mk (blk_below (g := gb455) (o := .cells #[.string t452, .int .i64 t453, .int .i64 t454] 31 (0, 0)) (by (with_reducible repeat (first | refine blk_drewN ?_ _ | refine blk_drew ?_ | refine blk_alloc ?_ _)); exact BK455.out) hb); have n3_ := Aside0.mk (below_step (by repeat (first | (with_reducible first | exact HB.out | apply below_alloc | apply pw_below_drewN | apply below_drew1 | refine below_set ?_ GE455.out) | exact HB.out)) hb); clear HO451; clear HO458; clear BK455; clear HB; have HO451 := n0_; have HO458 := n1_; have BK455 := n2_; have HB := n3_; clear n0_ n1_ n2_ n3_; (try clear hb); (try clear hb2); (try clear hk); (try clear hi)) | ((with_reducible refine gate_dst (N := 6) rfl ?_); refine box_event ?hg (N := 6) ?hd (cs := #[.string (⟨#[]⟩ : ByteArray), .int .i64 0, .int .i64 0]) (t := 31) ?hr ?_; (case hd => rfl); (case hg => rfl); (case hr => first | (go_simp; done) | (go_simp; rfl)); intro gb462 hg w40 hbox hb; have n0_ := Aside0.mk (Kd.R_below (by (with_reducible repeat (first | apply Kd.R_alloc | apply Kd.R_drewN | apply Kd.R_drew)); exact HO451.out) hb); have n1_ := Aside0.mk (Kd.R_below (by (with_reducible repeat (first | apply Kd.R_alloc | apply Kd.R_drewN | apply Kd.R_drew)); exact HO458.out) hb); have n2_ := Aside0.mk (blk_below (g := gb455) (o := .cells #[.string t452, .int .i64 t453, .int .i64 t454] 31 (0, 0)) (by (with_reducible repeat (first | refine blk_drewN ?_ _ | refine blk_drew ?_ | refine blk_alloc ?_ _)); exact BK455.out) hb); have n3_ := Aside0.mk (below_step (by repeat (first | (with_reducible first | exact HB.out | apply below_alloc | apply pw_below_drewN | apply below_drew1 | refine below_set ?_ GE455.out) | exact HB.out)) hb); have n4_ := Aside0.mk (hbox); have n5_ := Aside0.mk ((by rw [hg]; exact (below_size (by repeat (first | (with_reducible first | exact HB.out | apply below_alloc | apply pw_below_drewN | apply below_drew1 | refine below_set ?_ GE455.out) | exact HB.out))) : w.heap.size ≤ gb462)); have n6_ := Aside0.mk ((by rw [hg]; exact (below_size (by repeat (first | (with_reducible first | exact HB.out | apply below_alloc | apply pw_below_drewN | apply below_drew1 | refine below_set ?_ GE455.out) | exact HB.out))) : w.heap.size ≤ gb462)); have n7_ := Aside0.mk ((by rw [hg]; exact Nat.ne_of_lt (blk_lt (g := gb455) (o := .cells #[.string t452, .int .i64 t453, .int .i64 t454] 31 (0, 0)) (by (with_reducible repeat (first | refine blk_drewN ?_ _ | refine blk_drew ?_ | refine blk_alloc ?_ _)); exact BK455.out)) : gb455 ≠ gb462)); have n8_ := Aside0.mk ((by rw [hg]; exact Nat.ne_of_gt (blk_lt (g := gb455) (o := .cells #[.string t452, .int .i64 t453, .int .i64 t454] 31 (0, 0)) (by (with_reducible repeat (first | refine blk_drewN ?_ _ | refine blk_drew ?_ | refine blk_alloc ?_ _)); exact BK455.out)) : gb462 ≠ gb455)); clear HO451; clear HO458; clear BK455; clear HB; have HO451 := n0_; have HO458 := n1_; have BK455 := n2_; have HB := n3_; have BK462 := n4_; have GW462 := n5_; have GE462 := n6_; have NB455_462 := n7_; have NB462_455 := n8_; clear n0_ n1_ n2_ n3_ n4_ n5_ n6_ n7_ n8_; clear hb hbox hg; have hnb41 := NB462_455.out; have hnc41 := NB455_462.out; have hcz42_0 : w40.cell? ⟨gb462, 0, none⟩ = some (.string (⟨#[]⟩ : ByteArray)) := (blk_cell BK462.out 0).trans rfl; have hcz42_1 : w40.cell? ⟨gb462, 1, none⟩ = some (.int .i64 0) := (blk_cell BK462.out 1).trans rfl; have hcz42_2 : w40.cell? ⟨gb462, 2, none⟩ = some (.int .i64 0) := (blk_cell BK462.out 2).trans rfl; have hfz42_0 := blk_frozen BK462.out 0; have hfz42_1 := blk_frozen BK462.out 1; have hfz42_2 := blk_frozen BK462.out 2; have hcz43_0 : w40.cell? ⟨gb455, 0, none⟩ = some (.string t452) := (blk_cell BK455.out 0).trans rfl; have hcz43_1 : w40.cell? ⟨gb455, 1, none⟩ = some (.int .i64 t453) := (blk_cell BK455.out 1).trans rfl; have hcz43_2 : w40.cell? ⟨gb455, 2, none⟩ = some (.int .i64 t454) := (blk_cell BK455.out 2).trans rfl; have hfz43_0 := blk_frozen BK455.out 0; have hfz43_1 := blk_frozen BK455.out 1; have hfz43_2 := blk_frozen BK455.out 2) | ((with_reducible refine gate_callee (f := 43) rfl ?_); refine goesL_ (some 21) rfl rfl Try.func43 (by kernel_rfl) rfl #[.agg #[.string t459, .int .i64 t460, .int .i64 t461], .agg #[.string t452, .int .i64 t453, .int .i64 t454]] rfl (by (try simp only [List.map_toArray, List.map_cons, List.map_nil]); first | done | rfl | (simp only [List.length_drop, List.length_take]; rfl)) ?_; (with_reducible refine (laws_eqRecState.calls t459 t460 t461 t452 t453 t454 true _ A9.out).mono ?_); rintro e w44 ⟨rfl, hb⟩; refine ⟨_, rfl, ?_⟩; have n0_ := Aside0.mk (Kd.R_below (by (with_reducible repeat (first | apply Kd.R_alloc | apply Kd.R_drewN | apply Kd.R_drew)); exact (Kd.R_mono (Kd.R_far (p := ⟨gb462, 2, none⟩) (Kd.R_far (p := ⟨gb462, 1, none⟩) (Kd.R_far (p := ⟨gb462, 0, none⟩) (Kd.R_types HO451.out BK462.out (by decide)) (fun _ hk => hk.2) (.string t459)) (fun _ hk => hk.2) (.int .i64 t460)) (fun _ hk => hk.2) (.int .i64 t461)) (fun _ h_ => h_.1))) hb); have n1_ := Aside0.mk (Kd.R_below (by (with_reducible repeat (first | apply Kd.R_alloc | apply Kd.R_drewN | apply Kd.R_drew)); exact (Kd.R_mono (Kd.R_far (p := ⟨gb462, 2, none⟩) (Kd.R_far (p := ⟨gb462, 1, none⟩) (Kd.R_far (p := ⟨gb462, 0, none⟩) (Kd.R_types HO458.out BK462.out (by decide)) (fun _ hk => hk.2) (.string t459)) (fun _ hk => hk.2) (.int .i64 t460)) (fun _ hk => hk.2) (.int .i64 t461)) (fun _ h_ => h_.1))) hb); have n2_ := Aside0.mk (blk_below (g := gb455) (o := .cells #[.string t452, .int .i64 t453, .int .i64 t454] 31 (0, 0)) (by (with_reducible repeat (first | refine blk_drewN ?_ _ | refine blk_drew ?_ | refine blk_alloc ?_ _)); refine blk_far ?_ NB455_462.out _; (with_reducible repeat (first | refine blk_drewN ?_ _ | refine blk_drew ?_ | refine blk_alloc ?_ _)); refine blk_far ?_ NB455_462.out _; (with_reducible repeat (first | refine blk_drewN ?_ _ | refine blk_drew ?_ | refine blk_alloc ?_ _)); refine blk_far ?_ NB455_462.out _; (with_reducible repeat (first | refine blk_drewN ?_ _ | refine blk_drew ?_ | refine blk_alloc ?_ _)); exact BK455.out) hb); have n3_ := Aside0.mk (blk_below (g := gb462) (o := .cells #[.string t459, .int .i64 t460, .int .i64 t461] 31 (0, 0)) (by (with_reducible repeat (first | refine blk_drewN ?_ _ | refine blk_drew ?_ | refine blk_alloc ?_ _)); refine blk_put (cs := #[.string t459, .int .i64 t460, .int .i64 0]) ?_ 2 _ rfl; (with_reducible repeat (first | refine blk_drewN ?_ _ | refine blk_drew ?_ | refine blk_alloc ?_ _)); refine blk_put (cs := #[.string t459, .int .i64 0, .int .i64 0]) ?_ 1 _ rfl; (with_reducible repeat (first | refine blk_drewN ?_ _ | refine blk_drew ?_ | refine blk_alloc ?_ _)); refine blk_put (cs := #[.string (⟨#[]⟩ : ByteArray), .int .i64 0, .int .i64 0]) ?_ 0 _ rfl; (with_reducible repeat (first | refine blk_drewN ?_ _ | refine blk_drew ?_ | refine blk_alloc ?_ _)); exact BK462.out) hb); have n4_ := Aside0.mk (below_step (by repeat (first | (with_reducible first | exact HB.out | apply below_alloc | apply pw_below_drewN | apply below_drew1 | refine below_set ?_ GE455.out | refine below_set ?_ GE462.out) | exact HB.out)) hb); clear HO451; clear HO458; clear BK455; clear BK462; clear HB; have HO451 := n0_; have HO458 := n1_; have BK455 := n2_; have BK462 := n3_; have HB := n4_; clear n0_ n1_ n2_ n3_ n4_; (try clear hb); (try clear hb2); (try clear hk); (try clear hi)) | ((with_reducible refine gate_callee (f := 38) rfl ?_); refine goesL_ (some 25) rfl rfl Try.func38 (by kernel_rfl) rfl #[.slice A0 l0.length c0] rfl (by (try simp only [List.map_toArray, List.map_cons, List.map_nil]); first | done | rfl | (simp only [List.length_drop, List.length_take]; rfl)) ?_; (with_reducible refine (laws_toRecPhaseS.calls k _ _ l0 t464 _ ?side1 ?side2 A11.out).mono ?_); (case side1 => repeat (first | exact (Kd.C_below HR0.out HB.out) | (with_reducible refine Kd.C_alloc ?_ _) | (with_reducible refine Kd.C_drewN ?_ _) | (with_reducible refine Kd.C_drew ?_))); (case side2 => exact HC0.out); rintro e w45 ⟨v465, rfl, ho0, hb⟩; refine ⟨_, rfl, ?_⟩; have n0_ := Aside0.mk (Kd.R_elder' (by (with_reducible repeat (first | apply Kd.R_alloc | apply Kd.R_drewN | apply Kd.R_drew)); exact HO451.out) (Kd.R_base ho0) hb); have n1_ := Aside0.mk (Kd.R_elder' (by (with_reducible repeat (first | apply Kd.R_alloc | apply Kd.R_drewN | apply Kd.R_drew)); exact HO458.out) (Kd.R_base ho0) hb); have n2_ := Aside0.mk (Kd.R_lower (Kd.R_new' (Kd.R_new' ho0 (Kd.R_lt (by (with_reducible repeat (first | apply Kd.R_alloc | apply Kd.R_drewN | apply Kd.R_drew)); exact HO451.out))) (Kd.R_lt (by (with_reducible repeat (first | apply Kd.R_alloc | apply Kd.R_drewN | apply Kd.R_drew)); exact HO458.out))) (below_size (by repeat (first | (with_reducible first | exact HB.out | apply below_alloc | apply pw_below_drewN | apply below_drew1 | refine below_set ?_ GE455.out | refine below_set ?_ GE462.out) | exact HB.out)))); have n3_ := Aside0.mk (blk_below (g := gb455) (o := .cells #[.string t452, .int .i64 t453, .int .i64 t454] 31 (0, 0)) (by (with_reducible repeat (first | refine blk_drewN ?_ _ | refine blk_drew ?_ | refine blk_alloc ?_ _)); exact BK455.out) hb); have n4_ := Aside0.mk (blk_below (g := gb462) (o := .cells #[.string t459, .int .i64 t460, .int .i64 t461] 31 (0, 0)) (by (with_reducible repeat (first | refine blk_drewN ?_ _ | refine blk_drew ?_ | refine blk_alloc ?_ _)); exact BK462.out) hb); have n5_ := Aside0.mk (below_step (by repeat (first | (with_reducible first | exact HB.out | apply below_alloc | apply pw_below_drewN | apply below_drew1 | refine below_set ?_ GE455.out | refine below_set ?_ GE462.out) | exact HB.out)) hb); clear HO451; clear HO458; clear BK455; clear BK462; clear HB; have HO451 := n0_; have HO458 := n1_; have HO466 := n2_; have BK455 := n3_; have BK462 := n4_; have HB := n5_; clear n0_ n1_ n2_ n3_ n4_ n5_; (try clear hb); (try clear hb2); (try clear hk); (try clear hi); (try clear ho0); obtain ⟨Ao46, co46, eo46⟩ := Kd.R_slice HO466.out; subst eo46) | ((with_reducible refine gate_callee (f := 39) rfl ?_); refine goesL_ (some 26) rfl rfl Try.func39 (by kernel_rfl) rfl #[.slice Ao38 t456.length co38, .slice Ao46 t464.length co46] rfl (by (try simp only [List.map_toArray, List.map_cons, List.map_nil]); first | done | rfl | (simp only [List.length_drop, List.length_take]; rfl)) ?_; (with_reducible refine (laws_eqRecPhaseS.calls k _ _ t456 _ _ t464 false _ ?side1 ?side2 ?side3 ?side4 A12.out).mono ?_); (case side1 => repeat (first | exact (Kd.R_reads' HO458.out).2.2 | (with_reducible refine Kd.C_alloc ?_ _) | (with_reducible refine Kd.C_drewN ?_ _) | (with_reducible refine Kd.C_drew ?_))); (case side2 => exact (Kd.R_reads' HO458.out).2.1); (case side3 => repeat (first | exact (Kd.R_reads' HO466.out).2.2 | (with_reducible refine Kd.C_alloc ?_ _) | (with_reducible refine Kd.C_drewN ?_ _) | (with_reducible refine Kd.C_drew ?_))); (case side4 => exact (Kd.R_reads' HO466.out).2.1); rintro e w47 ⟨rfl, hb⟩; refine ⟨_, rfl, ?_⟩; have n0_ := Aside0.mk (Kd.R_below (by (with_reducible repeat (first | apply Kd.R_alloc | apply Kd.R_drewN | apply Kd.R_drew)); exact HO451.out) hb); have n1_ := Aside0.mk (Kd.R_below (by (with_reducible repeat (first | apply Kd.R_alloc | apply Kd.R_drewN | apply Kd.R_drew)); exact HO458.out) hb); have n2_ := Aside0.mk (Kd.R_below (by (with_reducible repeat (first | apply Kd.R_alloc | apply Kd.R_drewN | apply Kd.R_drew)); exact HO466.out) hb); have n3_ := Aside0.mk (blk_below (g := gb455) (o := .cells #[.string t452, .int .i64 t453, .int .i64 t454] 31 (0, 0)) (by (with_reducible repeat (first | refine blk_drewN ?_ _ | refine blk_drew ?_ | refine blk_alloc ?_ _)); exact BK455.out) hb); have n4_ := Aside0.mk (blk_below (g := gb462) (o := .cells #[.string t459, .int .i64 t460, .int .i64 t461] 31 (0, 0)) (by (with_reducible repeat (first | refine blk_drewN ?_ _ | refine blk_drew ?_ | refine blk_alloc ?_ _)); exact BK462.out) hb); have n5_ := Aside0.mk (below_step (by repeat (first | (with_reducible first | exact HB.out | apply below_alloc | apply pw_below_drewN | apply below_drew1 | refine below_set ?_ GE455.out | refine below_set ?_ GE462.out) | exact HB.out)) hb); clear HO451; clear HO458; clear HO466; clear BK455; clear BK462; clear HB; have HO451 := n0_; have HO458 := n1_; have HO466 := n2_; have BK455 := n3_; have BK462 := n4_; have HB := n5_; clear n0_ n1_ n2_ n3_ n4_ n5_; (try clear hb); (try clear hb2); (try clear hk); (try clear hi)))
        go_ret
        exact ⟨by first | rfl | (simp [errW_none, errW_some] <;> rfl) | (simp [*, errW_none, errW_some] <;> rfl), by repeat (first | (with_reducible first | exact HB.out | apply below_alloc | apply pw_below_drewN | apply below_drew1 | refine below_set ?_ GE455.out | refine below_set ?_ GE462.out) | exact HB.out)⟩
    · replace c10 := Bool.eq_false_iff.mpr c10
      subst c10
      have H1 : (some false) = some r := by rw [if_neg (show ¬ (false = true) by decide)] at H; exact H
      clear H
      have H := H1
      clear H1
      obtain rfl := Option.some.inj H
      go_enter Try.func11, Try.ntmps11
      go_wp2_with (first | ((with_reducible refine gate_callee (f := 37) rfl ?_); refine goesL_ (some 9) rfl rfl Try.func37 (by kernel_rfl) rfl #[.slice A0 l0.length c0, .int .i64 1048576] rfl (by (try simp only [List.map_toArray, List.map_cons, List.map_nil]); first | done | rfl | (simp only [List.length_drop, List.length_take]; rfl)) ?_; (with_reducible refine (laws_szRecPhaseS.calls k _ _ l0 1048576 t448 _ ?side1 ?side2 A2.out).mono ?_); (case side1 => repeat (first | exact HR0.out | (with_reducible refine Kd.C_alloc ?_ _) | (with_reducible refine Kd.C_drewN ?_ _) | (with_reducible refine Kd.C_drew ?_))); (case side2 => exact HC0.out); rintro e w48 ⟨rfl, hb⟩; refine ⟨_, rfl, ?_⟩; have n0_ := Aside0.mk (below_step (by repeat (first | (with_reducible first | exact HB.out | apply below_alloc | apply pw_below_drewN | apply below_drew1) | exact HB.out)) hb); clear HB; have HB := n0_; clear n0_; (try clear hb); (try clear hb2); (try clear hk); (try clear hi)) | ((with_reducible refine gate_callee (f := 38) rfl ?_); refine goesL_ (some 13) rfl rfl Try.func38 (by kernel_rfl) rfl #[.slice A0 l0.length c0] rfl (by (try simp only [List.map_toArray, List.map_cons, List.map_nil]); first | done | rfl | (simp only [List.length_drop, List.length_take]; rfl)) ?_; (with_reducible refine (laws_toRecPhaseS.calls k _ _ l0 t449 _ ?side1 ?side2 A5.out).mono ?_); (case side1 => repeat (first | exact (Kd.C_below HR0.out HB.out) | (with_reducible refine Kd.C_alloc ?_ _) | (with_reducible refine Kd.C_drewN ?_ _) | (with_reducible refine Kd.C_drew ?_))); (case side2 => exact HC0.out); rintro e w49 ⟨v450, rfl, ho0, hb⟩; refine ⟨_, rfl, ?_⟩; have n0_ := Aside0.mk (Kd.R_lower ho0 (below_size (by repeat (first | (with_reducible first | exact HB.out | apply below_alloc | apply pw_below_drewN | apply below_drew1) | exact HB.out)))); have n1_ := Aside0.mk (below_step (by repeat (first | (with_reducible first | exact HB.out | apply below_alloc | apply pw_below_drewN | apply below_drew1) | exact HB.out)) hb); clear HB; have HO451 := n0_; have HB := n1_; clear n0_ n1_; (try clear hb); (try clear hb2); (try clear hk); (try clear hi); (try clear ho0); obtain ⟨Ao50, co50, eo50⟩ := Kd.R_slice HO451.out; subst eo50) | ((with_reducible refine gate_callee (f := 42) rfl ?_); refine goesL_ (some 14) rfl rfl Try.func42 (by kernel_rfl) rfl #[.slice Ao50 t449.length co50] rfl (by (try simp only [List.map_toArray, List.map_cons, List.map_nil]); first | done | rfl | (simp only [List.length_drop, List.length_take]; rfl)) ?_; (with_reducible refine (spec_RecBegin.calls k _ _ t449 t452 t453 t454 _ ?side1 ?side2 A6.out).mono ?_); (case side1 => repeat (first | exact (Kd.R_reads' HO451.out).2.2 | (with_reducible refine Kd.C_alloc ?_ _) | (with_reducible refine Kd.C_drewN ?_ _) | (with_reducible refine Kd.C_drew ?_))); (case side2 => exact (Kd.R_reads' HO451.out).2.1); rintro e w51 ⟨rfl, hb⟩; refine ⟨_, rfl, ?_⟩; have n0_ := Aside0.mk (Kd.R_below (by (with_reducible repeat (first | apply Kd.R_alloc | apply Kd.R_drewN | apply Kd.R_drew)); exact HO451.out) hb); have n1_ := Aside0.mk (below_step (by repeat (first | (with_reducible first | exact HB.out | apply below_alloc | apply pw_below_drewN | apply below_drew1) | exact HB.out)) hb); clear HO451; clear HB; have HO451 := n0_; have HB := n1_; clear n0_ n1_; (try clear hb); (try clear hb2); (try clear hk); (try clear hi)) | ((with_reducible refine gate_dst (N := 4) rfl ?_); refine box_event ?hg (N := 4) ?hd (cs := #[.string (⟨#[]⟩ : ByteArray), .int .i64 0, .int .i64 0]) (t := 31) ?hr ?_; (case hd => rfl); (case hg => rfl); (case hr => first | (go_simp; done) | (go_simp; rfl)); intro gb455 hg w52 hbox hb; have n0_ := Aside0.mk (Kd.R_below (by (with_reducible repeat (first | apply Kd.R_alloc | apply Kd.R_drewN | apply Kd.R_drew)); exact HO451.out) hb); have n1_ := Aside0.mk (below_step (by repeat (first | (with_reducible first | exact HB.out | apply below_alloc | apply pw_below_drewN | apply below_drew1) | exact HB.out)) hb); have n2_ := Aside0.mk (hbox); have n3_ := Aside0.mk ((by rw [hg]; exact (below_size (by repeat (first | (with_reducible first | exact HB.out | apply below_alloc | apply pw_below_drewN | apply below_drew1) | exact HB.out))) : w.heap.size ≤ gb455)); have n4_ := Aside0.mk ((by rw [hg]; exact (below_size (by repeat (first | (with_reducible first | exact HB.out | apply below_alloc | apply pw_below_drewN | apply below_drew1) | exact HB.out))) : w.heap.size ≤ gb455)); clear HO451; clear HB; have HO451 := n0_; have HB := n1_; have BK455 := n2_; have GW455 := n3_; have GE455 := n4_; clear n0_ n1_ n2_ n3_ n4_; clear hb hbox hg; have hcz53_0 : w52.cell? ⟨gb455, 0, none⟩ = some (.string (⟨#[]⟩ : ByteArray)) := (blk_cell BK455.out 0).trans rfl; have hcz53_1 : w52.cell? ⟨gb455, 1, none⟩ = some (.int .i64 0) := (blk_cell BK455.out 1).trans rfl; have hcz53_2 : w52.cell? ⟨gb455, 2, none⟩ = some (.int .i64 0) := (blk_cell BK455.out 2).trans rfl; have hfz53_0 := blk_frozen BK455.out 0; have hfz53_1 := blk_frozen BK455.out 1; have hfz53_2 := blk_frozen BK455.out 2) | ((with_reducible refine gate_callee (f := 38) rfl ?_); refine goesL_ (some 16) rfl rfl Try.func38 (by kernel_rfl) rfl #[.slice A0 l0.length c0] rfl (by (try simp only [List.map_toArray, List.map_cons, List.map_nil]); first | done | rfl | (simp only [List.length_drop, List.length_take]; rfl)) ?_; (with_reducible refine (laws_toRecPhaseS.calls k _ _ l0 t456 _ ?side1 ?side2 A7.out).mono ?_); (case side1 => exact Kd.C_below HR0.out (by repeat (first | (with_reducible first | exact HB.out | apply below_alloc | apply pw_below_drewN | apply below_drew1 | refine below_set ?_ GE455.out) | exact HB.out))); (case side2 => exact HC0.out); rintro e w54 ⟨v457, rfl, ho0, hb⟩; refine ⟨_, rfl, ?_⟩; have n0_ := Aside0.mk (Kd.R_elder' (by (with_reducible repeat (first | apply Kd.R_alloc | apply Kd.R_drewN | apply Kd.R_drew)); exact (Kd.R_mono (Kd.R_far (p := ⟨gb455, 2, none⟩) (Kd.R_far (p := ⟨gb455, 1, none⟩) (Kd.R_far (p := ⟨gb455, 0, none⟩) (Kd.R_types HO451.out BK455.out (by decide)) (fun _ hk => hk.2) (.string t452)) (fun _ hk => hk.2) (.int .i64 t453)) (fun _ hk => hk.2) (.int .i64 t454)) (fun _ h_ => h_.1))) (Kd.R_base ho0) hb); have n1_ := Aside0.mk (Kd.R_lower (Kd.R_new' ho0 (Kd.R_lt (by (with_reducible repeat (first | apply Kd.R_alloc | apply Kd.R_drewN | apply Kd.R_drew)); exact (Kd.R_mono (Kd.R_far (p := ⟨gb455, 2, none⟩) (Kd.R_far (p := ⟨gb455, 1, none⟩) (Kd.R_far (p := ⟨gb455, 0, none⟩) (Kd.R_types HO451.out BK455.out (by decide)) (fun _ hk => hk.2) (.string t452)) (fun _ hk => hk.2) (.int .i64 t453)) (fun _ hk => hk.2) (.int .i64 t454)) (fun _ h_ => h_.1))))) (below_size (by repeat (first | (with_reducible first | exact HB.out | apply below_alloc | apply pw_below_drewN | apply below_drew1 | refine below_set ?_ GE455.out) | exact HB.out)))); have n2_ := Aside0.mk (blk_below (g := gb455) (o := .cells #[.string t452, .int .i64 t453, .int .i64 t454] 31 (0, 0)) (by (with_reducible repeat (first | refine blk_drewN ?_ _ | refine blk_drew ?_ | refine blk_alloc ?_ _)); refine blk_put (cs := #[.string t452, .int .i64 t453, .int .i64 0]) ?_ 2 _ rfl; (with_reducible repeat (first | refine blk_drewN ?_ _ | refine blk_drew ?_ | refine blk_alloc ?_ _)); refine blk_put (cs := #[.string t452, .int .i64 0, .int .i64 0]) ?_ 1 _ rfl; (with_reducible repeat (first | refine blk_drewN ?_ _ | refine blk_drew ?_ | refine blk_alloc ?_ _)); refine blk_put (cs := #[.string (⟨#[]⟩ : ByteArray), .int .i64 0, .int .i64 0]) ?_ 0 _ rfl; (with_reducible repeat (first | refine blk_drewN ?_ _ | refine blk_drew ?_ | refine blk_alloc ?_ _)); exact BK455.out) hb); have n3_ := Aside0.mk (below_step (by repeat (first | (with_reducible first | exact HB.out | apply below_alloc | apply pw_below_drewN | apply below_drew1 | refine below_set ?_ GE455.out) | exact HB.out)) hb); clear HO451; clear BK455; clear HB; have HO451 := n0_; have HO458 := n1_; have BK455 := n2_; have HB := n3_; clear n0_ n1_ n2_ n3_; (try clear hb); (try clear hb2); (try clear hk); (try clear hi); (try clear ho0); obtain ⟨Ao55, co55, eo55⟩ := Kd.R_slice HO458.out; subst eo55) | ((with_reducible refine gate_callee (f := 27) rfl ?_); refine goesL_ (some 18) rfl rfl Try.func27 (by kernel_rfl) rfl #[.slice Ao55 t456.length co55] rfl (by (try simp only [List.map_toArray, List.map_cons, List.map_nil]); first | done | rfl | (simp only [List.length_drop, List.length_take]; rfl)) ?_; (with_reducible refine (impl_RecBegin.calls k _ _ t456 t459 t460 t461 _ ?side1 ?side2 A8.out).mono ?_); (case side1 => repeat (first | exact (Kd.R_reads' HO458.out).2.2 | (with_reducible refine Kd.C_alloc ?_ _) | (with_reducible refine Kd.C_drewN ?_ _) | (with_reducible refine Kd.C_drew ?_))); (case side2 => exact (Kd.R_reads' HO458.out).2.1); rintro e w56 ⟨rfl, hb⟩; refine ⟨_, rfl, ?_⟩; have n0_ := Aside0.mk (Kd.R_below (by (with_reducible repeat (first | apply Kd.R_alloc | apply Kd.R_drewN | apply Kd.R_drew)); exact HO451.out) hb); have n1_ := Aside0.mk (Kd.R_below (by (with_reducible repeat (first | apply Kd.R_alloc | apply Kd.R_drewN | apply Kd.R_drew)); exact HO458.out) hb); have n2_ := Aside0.mk (blk_below (g := gb455) (o := .cells #[.string t452, .int .i64 t453, .int .i64 t454] 31 (0, 0)) (by (with_reducible repeat (first | refine blk_drewN ?_ _ | refine blk_drew ?_ | refine blk_alloc ?_ _)); exact BK455.out) hb); have n3_ := Aside0.mk (below_step (by repeat (first | (with_reducible first | exact HB.out | apply below_alloc | apply pw_below_drewN | apply below_drew1 | refine below_set ?_ GE455.out) | exact HB.out)) hb); clear HO451; clear HO458; clear BK455; clear HB; have HO451 := n0_; have HO458 := n1_; have BK455 := n2_; have HB := n3_; clear n0_ n1_ n2_ n3_; (try clear hb); (try clear hb2); (try clear hk); (try clear hi)) | ((with_reducible refine gate_dst (N := 6) rfl ?_); refine box_event ?hg (N := 6) ?hd (cs := #[.string (⟨#[]⟩ : ByteArray), .int .i64 0, .int .i64 0]) (t := 31) ?hr ?_; (case hd => rfl); (case hg => rfl); (case hr => first | (go_simp; done) | (go_simp; rfl)); intro gb462 hg w57 hbox hb; have n0_ := Aside0.mk (Kd.R_below (by (with_reducible repeat (first | apply Kd.R_alloc | apply Kd.R_drewN | apply Kd.R_drew)); exact HO451.out) hb); have n1_ := Aside0.mk (Kd.R_below (by (with_reducible repeat (first | apply Kd.R_alloc | apply Kd.R_drewN | apply Kd.R_drew)); exact HO458.out) hb); have n2_ := Aside0.mk (blk_below (g := gb455) (o := .cells #[.string t452, .int .i64 t453, .int .i64 t454] 31 (0, 0)) (by (with_reducible repeat (first | refine blk_drewN ?_ _ | refine blk_drew ?_ | refine blk_alloc ?_ _)); exact BK455.out) hb); have n3_ := Aside0.mk (below_step (by repeat (first | (with_reducible first | exact HB.out | apply below_alloc | apply pw_below_drewN | apply below_drew1 | refine below_set ?_ GE455.out) | exact HB.out)) hb); have n4_ := Aside0.mk (hbox); have n5_ := Aside0.mk ((by rw [hg]; exact (below_size (by repeat (first | (with_reducible first | exact HB.out | apply below_alloc | apply pw_below_drewN | apply below_drew1 | refine below_set ?_ GE455.out) | exact HB.out))) : w.heap.size ≤ gb462)); have n6_ := Aside0.mk ((by rw [hg]; exact (below_size (by repeat (first | (with_reducible first | exact HB.out | apply below_alloc | apply pw_below_drewN | apply below_drew1 | refine below_set ?_ GE455.out) | exact HB.out))) : w.heap.size ≤ gb462)); have n7_ := Aside0.mk ((by rw [hg]; exact Nat.ne_of_lt (blk_lt (g := gb455) (o := .cells #[.string t452, .int .i64 t453, .int .i64 t454] 31 (0, 0)) (by (with_reducible repeat (first | refine blk_drewN ?_ _ | refine blk_drew ?_ | refine blk_alloc ?_ _)); exact BK455.out)) : gb455 ≠ gb462)); have n8_ := Aside0.mk ((by rw [hg]; exact Nat.ne_of_gt (blk_lt (g := gb455) (o := .cells #[.string t452, .int .i64 t453, .int .i64 t454] 31 (0, 0)) (by (with_reducible repeat (first | refine blk_drewN ?_ _ | refine blk_drew ?_ | refine blk_alloc ?_ _)); exact BK455.out)) : gb462 ≠ gb455)); clear HO451; clear HO458; clear BK455; clear HB; have HO451 := n0_; have HO458 := n1_; have BK455 := n2_; have HB := n3_; have BK462 := n4_; have GW462 := n5_; have GE462 := n6_; have NB455_462 := n7_; have NB462_455 := n8_; clear n0_ n1_ n2_ n3_ n4_ n5_ n6_ n7_ n8_; clear hb hbox hg; have hnb58 := NB462_455.out; have hnc58 := NB455_462.out; have hcz59_0 : w57.cell? ⟨gb462, 0, none⟩ = some (.string (⟨#[]⟩ : ByteArray)) := (blk_cell BK462.out 0).trans rfl; have hcz59_1 : w57.cell? ⟨gb462, 1, none⟩ = some (.int .i64 0) := (blk_cell BK462.out 1).trans rfl; have hcz59_2 : w57.cell? ⟨gb462, 2, none⟩ = some (.int .i64 0) := (blk_cell BK462.out 2).trans rfl; have hfz59_0 := blk_frozen BK462.out 0; have hfz59_1 := blk_frozen BK462.out 1; have hfz59_2 := blk_frozen BK462.out 2; have hcz60_0 : w57.cell? ⟨gb455, 0, none⟩ = some (.string t452) := (blk_cell BK455.out 0).trans rfl; have hcz60_1 : w57.cell? ⟨gb455, 1, none⟩ = some (.int .i64 t453) := (blk_cell BK455.out 1).trans rfl; have hcz60_2 : w57.cell? ⟨gb455, 2, none⟩ = some (.int .i64 t454) := (blk_cell BK455.out 2).trans rfl; have hfz60_0 := blk_frozen BK455.out 0; have hfz60_1 := blk_frozen BK455.out 1; have hfz60_2 := blk_frozen BK455.out 2) | ((with_reducible refine gate_callee (f := 43) rfl ?_); refine goesL_ (some 21) rfl rfl Try.func43 (by kernel_rfl) rfl #[.agg #[.string t459, .int .i64 t460, .int .i64 t461], .agg #[.string t452, .int .i64 t453, .int .i64 t454]] rfl (by (try simp only [List.map_toArray, List.map_cons, List.map_nil]); first | done | rfl | (simp only [List.length_drop, List.length_take]; rfl)) ?_; (with_reducible refine (laws_eqRecState.calls t459 t460 t461 t452 t453 t454 false _ A9.out).mono ?_); rintro e w61 ⟨rfl, hb⟩; refine ⟨_, rfl, ?_⟩; have n0_ := Aside0.mk (Kd.R_below (by (with_reducible repeat (first | apply Kd.R_alloc | apply Kd.R_drewN | apply Kd.R_drew)); exact (Kd.R_mono (Kd.R_far (p := ⟨gb462, 2, none⟩) (Kd.R_far (p := ⟨gb462, 1, none⟩) (Kd.R_far (p := ⟨gb462, 0, none⟩) (Kd.R_types HO451.out BK462.out (by decide)) (fun _ hk => hk.2) (.string t459)) (fun _ hk => hk.2) (.int .i64 t460)) (fun _ hk => hk.2) (.int .i64 t461)) (fun _ h_ => h_.1))) hb); have n1_ := Aside0.mk (Kd.R_below (by (with_reducible repeat (first | apply Kd.R_alloc | apply Kd.R_drewN | apply Kd.R_drew)); exact (Kd.R_mono (Kd.R_far (p := ⟨gb462, 2, none⟩) (Kd.R_far (p := ⟨gb462, 1, none⟩) (Kd.R_far (p := ⟨gb462, 0, none⟩) (Kd.R_types HO458.out BK462.out (by decide)) (fun _ hk => hk.2) (.string t459)) (fun _ hk => hk.2) (.int .i64 t460)) (fun _ hk => hk.2) (.int .i64 t461)) (fun _ h_ => h_.1))) hb); have n2_ := Aside0.mk (blk_below (g := gb455) (o := .cells #[.string t452, .int .i64 t453, .int .i64 t454] 31 (0, 0)) (by (with_reducible repeat (first | refine blk_drewN ?_ _ | refine blk_drew ?_ | refine blk_alloc ?_ _)); refine blk_far ?_ NB455_462.out _; (with_reducible repeat (first | refine blk_drewN ?_ _ | refine blk_drew ?_ | refine blk_alloc ?_ _)); refine blk_far ?_ NB455_462.out _; (with_reducible repeat (first | refine blk_drewN ?_ _ | refine blk_drew ?_ | refine blk_alloc ?_ _)); refine blk_far ?_ NB455_462.out _; (with_reducible repeat (first | refine blk_drewN ?_ _ | refine blk_drew ?_ | refine blk_alloc ?_ _)); exact BK455.out) hb); have n3_ := Aside0.mk (blk_below (g := gb462) (o := .cells #[.string t459, .int .i64 t460, .int .i64 t461] 31 (0, 0)) (by (with_reducible repeat (first | refine blk_drewN ?_ _ | refine blk_drew ?_ | refine blk_alloc ?_ _)); refine blk_put (cs := #[.string t459, .int .i64 t460, .int .i64 0]) ?_ 2 _ rfl; (with_reducible repeat (first | refine blk_drewN ?_ _ | refine blk_drew ?_ | refine blk_alloc ?_ _)); refine blk_put (cs := #[.string t459, .int .i64 0, .int .i64 0]) ?_ 1 _ rfl; (with_reducible repeat (first | refine blk_drewN ?_ _ | refine blk_drew ?_ | refine blk_alloc ?_ _)); refine blk_put (cs := #[.string (⟨#[]⟩ : ByteArray), .int .i64 0, .int .i64 0]) ?_ 0 _ rfl; (with_reducible repeat (first | refine blk_drewN ?_ _ | refine blk_drew ?_ | refine blk_alloc ?_ _)); exact BK462.out) hb); have n4_ := Aside0.mk (below_step (by repeat (first | (with_reducible first | exact HB.out | apply below_alloc | apply pw_below_drewN | apply below_drew1 | refine below_set ?_ GE455.out | refine below_set ?_ GE462.out) | exact HB.out)) hb); clear HO451; clear HO458; clear BK455; clear BK462; clear HB; have HO451 := n0_; have HO458 := n1_; have BK455 := n2_; have BK462 := n3_; have HB := n4_; clear n0_ n1_ n2_ n3_ n4_; (try clear hb); (try clear hb2); (try clear hk); (try clear hi)))
      go_ret
      exact ⟨by first | rfl | (simp [errW_none, errW_some] <;> rfl) | (simp [*, errW_none, errW_some] <;> rfl), by repeat (first | (with_reducible first | exact HB.out | apply below_alloc | apply pw_below_drewN | apply below_drew1 | refine below_set ?_ GE455.out | refine below_set ?_ GE462.out) | exact HB.out)⟩

end Go.Proofs.Ytdkologncoofdaa.P
-- Q1
namespace Go.Proofs.Ytdkologncoofdaa.P
open Go.RowKit Go.Proofs.YtdkologncoofdaaW.PrintWords Go.Proofs.YtdkologncoofdaaW.PrintLast
set_option linter.unusedVariables false
set_option linter.unusedSimpArgs false

/-- With enough rounds, and from there on, the answer is r. -/
def Evn {α : Type} (g : Nat → Option α) (r : α) : Prop := ∃ K, ∀ k, K ≤ k → g k = some r
theorem Evn.pure {α : Type} (r : α) : Evn (fun _ => some r) r := ⟨0, fun _ _ => rfl⟩
theorem Evn.bind {α β : Type} {g : Nat → Option α} {r : α} {h : Nat → α → Option β} {s : β} (h1 : Evn g r) (h2 : Evn (fun k => h k r) s) : Evn (fun k => (g k).bind (h k)) s := by
  obtain ⟨K1, h1⟩ := h1
  obtain ⟨K2, h2⟩ := h2
  exact ⟨max K1 K2, fun k hk => by show (g k).bind (h k) = some s; rw [h1 k (by omega)]; exact h2 k (by omega)⟩
theorem Evn.bind' {α β : Type} {r : α} {h : Nat → α → Option β} {s : β} (h2 : Evn (fun k => h k r) s) : Evn (fun k => (some r).bind (h k)) s := h2
theorem Evn.succ {α : Type} {g f : Nat → Option α} {r : α} (h : Evn f r) (e : ∀ k, g (k + 1) = f k) : Evn g r := by
  obtain ⟨K, h⟩ := h
  refine ⟨K + 1, fun k hk => ?_⟩
  obtain ⟨k, rfl⟩ : ∃ m, k = m + 1 := ⟨k - 1, by omega⟩
  rw [e]
  exact h k (by omega)
theorem Evn.congr {α : Type} {g f : Nat → Option α} {r : α} (h : Evn f r) (e : ∀ k, g k = f k) : Evn g r := by
  obtain ⟨K, h⟩ := h
  exact ⟨K, fun k hk => by rw [e]; exact h k hk⟩
theorem Evn.of {α : Type} {g : Nat → Option α} {r s : α} (h : Evn g r) (e : r = s) : Evn g s := e ▸ h
theorem Evn.yes {α : Type} {c : Prop} [Decidable c] {f g : Nat → Option α} {r : α} (hc : c) (h : Evn f r) : Evn (fun k => if c then f k else g k) r := h.congr fun k => if_pos hc
theorem Evn.no {α : Type} {c : Prop} [Decidable c] {f g : Nat → Option α} {r : α} (hc : ¬ c) (h : Evn g r) : Evn (fun k => if c then f k else g k) r := h.congr fun k => if_neg hc
theorem Evn.ite {α : Type} {c : Prop} [Decidable c] {f g : Nat → Option α} {r s : α} (h1 : c → Evn f r) (h2 : ¬ c → Evn g s) : Evn (fun k => if c then f k else g k) (if c then r else s) := by
  by_cases hc : c
  · rw [if_pos hc]; exact Evn.yes hc (h1 hc)
  · rw [if_neg hc]; exact Evn.no hc (h2 hc)
theorem Evn.ends {α : Type} {g : Nat → Option α} {r : α} (h : Evn g r) : ∃ k, g k = some r := by
  obtain ⟨K, h⟩ := h
  exact ⟨K, h K (Nat.le_refl _)⟩
/-- Of two answers there is one. -/
theorem Evn.one {α : Type} {g : Nat → Option α} {r s : α} (h : Evn g r) (h' : Evn g s) : r = s := by
  obtain ⟨K, h⟩ := h
  obtain ⟨K', h'⟩ := h'
  have := (h (max K K') (by omega)).symm.trans (h' (max K K') (by omega))
  exact Option.some.inj this

theorem wrap_id {x : Int} (h1 : -9223372036854775808 ≤ x) (h2 : x ≤ 9223372036854775807) : wrap64 x = x := by unfold wrap64; omega

/-! ### Ends -/
def endOf (a : ByteArray) : Int := if a.toList = ([103, 111, 111, 100] : List UInt8) then 1 else if a.toList = ([115, 97, 118, 101, 100] : List UInt8) then 2 else if a.toList = ([115, 99, 114, 97, 112, 112, 101, 100] : List UInt8) then 3 else 0
theorem endOf_range (a : ByteArray) : 0 ≤ endOf a ∧ endOf a ≤ 3 := by unfold endOf; split <;> (try split) <;> (try split) <;> omega
theorem spec_end (a : ByteArray) : spec_RecEnd.f a = some (endOf a) := by
  unfold spec_RecEnd.f endOf
  split <;> (try split) <;> (try split) <;> rfl
theorem impl_end (a : ByteArray) (k : Nat) : impl_RecEnd.f (k + 4) a = some (endOf a) := by
  have w0 : wrap64 1 = 1 := wrap_id (by omega) (by omega)
  have w1 : wrap64 2 = 2 := wrap_id (by omega) (by omega)
  have w2 : wrap64 3 = 3 := wrap_id (by omega) (by omega)
  have w3 : wrap64 0 = 0 := wrap_id (by omega) (by omega)
  unfold endOf impl_RecEnd.f slices_Index_string_string.f
  simp only [slices_Index_string_string.l0, rdOf, Option.bind_some, List.drop, List.length_cons, List.length_nil]
  by_cases c1 : a.toList = ([103, 111, 111, 100] : List UInt8)
  · simp [c1, w0]
  · by_cases c2 : a.toList = ([115, 97, 118, 101, 100] : List UInt8)
    · simp [c2, w0, w1]
    · by_cases c3 : a.toList = ([115, 99, 114, 97, 112, 112, 101, 100] : List UInt8)
      · simp [c3, w0, w1, w2]
      · simp [c1, c2, c3, w0, w1, w2, w3]
theorem impl_endE (a : ByteArray) : Evn (fun k => impl_RecEnd.f k a) (endOf a) := ⟨4, fun k hk => by
  obtain ⟨k, rfl⟩ : ∃ m, k = m + 4 := ⟨k - 4, by omega⟩
  exact impl_end a k⟩

/-! ### Between two bounds -/
def inB (a b c : Int) : Bool := decide (b ≤ a) && decide (a ≤ c)
theorem spec_in (a b c : Int) : spec_l1In.f a b c = some (inB a b c) := by
  unfold spec_l1In.f inB
  by_cases h : a ≥ b
  · rw [if_pos h]; simp [h]
  · rw [if_neg h]; simp [show ¬ b ≤ a from h]
theorem impl_in' (a b c : Int) : impl_in.f a b c = some (inB a b c) := by
  unfold impl_in.f inB
  by_cases h : a ≥ b
  · rw [if_pos h]; simp [h]
  · rw [if_neg h]; simp [show ¬ b ≤ a from h]
theorem inB_iff {a b c : Int} : inB a b c = true ↔ b ≤ a ∧ a ≤ c := by simp [inB]

/-! ### Names -/
def byteOk (x : Int) : Bool := (decide (97 ≤ x) && decide (x ≤ 122)) || (decide (48 ≤ x) && decide (x ≤ 57)) || decide (x = 45)
/-- All bytes from place i on are those of a name. -/
def tailOk (s : ByteArray) (i : Nat) : Bool := (List.range (s.size - i)).all fun j => byteOk (bt s ((i + j : Nat) : Int))
def nmOk (s : ByteArray) : Bool := inB (s.size : Int) 1 8 && tailOk s 0
theorem tailOk_end (s : ByteArray) (i : Nat) (h : s.size ≤ i) : tailOk s i = true := by
  unfold tailOk; rw [show s.size - i = 0 from by omega]; rfl
theorem tailOk_step (s : ByteArray) (i : Nat) (h : i < s.size) : tailOk s i = (byteOk (bt s (i : Int)) && tailOk s (i + 1)) := by
  unfold tailOk
  rw [show s.size - i = (s.size - (i + 1)) + 1 from by omega, List.range_succ_eq_map, List.all_cons, List.all_map]
  congr 1
  apply congrArg
  funext j
  simp only [Function.comp_apply, Nat.succ_eq_add_one]
  rw [show i + (j + 1) = i + 1 + j from by omega]

theorem nm_loop (s : ByteArray) (hs : s.size ≤ 8) (d : Nat) : ∀ (i : Nat) (k : Nat), i ≤ s.size → s.size - i = d → d < k →
    spec_l1NameOk.l0 k s (i : Int) = some (tailOk s i) ∧ impl_name.l0 k s (i : Int) = some (tailOk s i) := by
  induction d with
  | zero =>
    intro i k hi hd hk
    obtain ⟨k, rfl⟩ : ∃ m, k = m + 1 := ⟨k - 1, by omega⟩
    rw [tailOk_end s i (by omega)]
    simp only [spec_l1NameOk.l0, impl_name.l0]
    exact ⟨by rw [if_neg (by omega)], by rw [if_neg (by omega)]⟩
  | succ d ih =>
    intro i k hi hd hk
    obtain ⟨k, rfl⟩ : ∃ m, k = m + 1 := ⟨k - 1, by omega⟩
    obtain ⟨h1, h2⟩ := ih (i + 1) k (by omega) (by omega) (by omega)
    rw [tailOk_step s i (by omega)]
    simp only [spec_l1NameOk.l0, impl_name.l0]
    rw [show wrap64 ((i : Int) + 1) = ((i + 1 : Nat) : Int) from by rw [wrap_id (by omega) (by omega)]; omega, h1, h2]
    have key : ∀ (x : Int) (b : Bool), (if x ≥ 97 then (if x ≤ 122 then (some b) else (if x ≥ 48 then (if x ≤ 57 then (some b) else (if (x = 45) then (some b) else (some false))) else (if (x = 45) then (some b) else (some false)))) else (if x ≥ 48 then (if x ≤ 57 then (some b) else (if (x = 45) then (some b) else (some false))) else (if (x = 45) then (some b) else (some false)))) = some (byteOk x && b) := by
      intro x b
      unfold byteOk
      by_cases a1 : 97 ≤ x <;> by_cases a2 : x ≤ 122 <;> by_cases a3 : 48 ≤ x <;> by_cases a4 : x ≤ 57 <;> by_cases a5 : x = 45 <;> simp [a1, a2, a3, a4, a5] <;> omega
    exact ⟨by rw [if_pos (by omega), if_pos (by omega)]; exact key _ _, by rw [if_pos (by omega), if_pos (by omega)]; exact key _ _⟩
theorem spec_nm (s : ByteArray) (k : Nat) : spec_l1NameOk.f (k + 9) s = some (nmOk s) := by
  unfold spec_l1NameOk.f nmOk
  rw [spec_in, Option.bind_some]
  by_cases h : inB (s.size : Int) 1 8 = true
  · rw [if_pos h, h]
    have := inB_iff.1 h
    exact (nm_loop s (by omega) s.size 0 (k + 9) (by omega) (by omega) (by omega)).1
  · rw [if_neg h, Bool.eq_false_iff.2 h]; rfl
theorem impl_nm (s : ByteArray) (k : Nat) : impl_name.f (k + 9) s = some (nmOk s) := by
  unfold impl_name.f nmOk
  rw [impl_in', Option.bind_some]
  by_cases h : inB (s.size : Int) 1 8 = true
  · rw [if_pos h, h]
    have := inB_iff.1 h
    exact (nm_loop s (by omega) s.size 0 (k + 9) (by omega) (by omega) (by omega)).2
  · rw [if_neg h, Bool.eq_false_iff.2 h]; rfl

/-! ### Phases -/
def argsOk (x : S39) : Bool :=
  if x.f1 = 1 then nmOk x.f2 && nmOk x.f3 && inB x.f4 1 1000 else
  if x.f1 = 2 then nmOk x.f2 && nmOk x.f3 && (x.f2.toList != x.f3.toList) && inB x.f4 1 1000 else
  if x.f1 = 3 then nmOk x.f2 && decide (x.f3.toList = []) && inB x.f4 1 x.f5 else
  if x.f1 = 4 ∨ x.f1 = 5 then nmOk x.f2 && decide (x.f3.toList = []) && (x.f4 == 0) else false
def phOk (x : S39) : Bool := nmOk x.f0 && (endOf x.f0 == 0) && inB x.f5 1 1000 && argsOk x && nmOk x.f6 && nmOk x.f7

theorem spec_args (x : S39) (k : Nat) : spec_l1ArgsOk.f (k + 9) x.f0 x.f1 x.f2 x.f3 x.f4 x.f5 x.f6 x.f7 = some (argsOk x) := by
  unfold spec_l1ArgsOk.f argsOk
  simp only [spec_nm, spec_in, Option.bind_some]
  by_cases c1 : x.f1 = 1
  · rw [if_pos c1, if_pos c1]
    cases nmOk x.f2 <;> cases nmOk x.f3 <;> simp
  · rw [if_neg c1, if_neg c1]
    by_cases c2 : x.f1 = 2
    · rw [if_pos c2, if_pos c2]
      cases nmOk x.f2 <;> cases nmOk x.f3 <;> simp
      by_cases e : x.f2.toList = x.f3.toList <;> simp [e]
    · rw [if_neg c2, if_neg c2]
      by_cases c3 : x.f1 = 3
      · rw [if_pos c3, if_pos c3]
        cases nmOk x.f2 <;> simp
        by_cases e : x.f3.toList = [] <;> simp [e]
      · rw [if_neg c3, if_neg c3]
        by_cases c4 : x.f1 = 4
        · rw [if_pos c4, if_pos (Or.inl c4)]
          cases nmOk x.f2 <;> simp
          by_cases e : x.f3.toList = [] <;> simp [e]
        · rw [if_neg c4]
          by_cases c5 : x.f1 = 5
          · rw [if_pos c5, if_pos (Or.inr c5)]
            cases nmOk x.f2 <;> simp
            by_cases e : x.f3.toList = [] <;> simp [e]
          · rw [if_neg c5, if_neg (by omega)]
theorem spec_ph (x : S39) (k : Nat) : spec_RecPhaseOk.f (k + 9) x.f0 x.f1 x.f2 x.f3 x.f4 x.f5 x.f6 x.f7 = some (phOk x) := by
  unfold spec_RecPhaseOk.f phOk spec_l1PlainOk.f
  simp only [spec_nm, spec_in, spec_args, spec_end, Option.bind_some]
  generalize (endOf x.f0 == 0) = b
  cases nmOk x.f0 <;> cases b <;> cases inB x.f5 1 1000 <;> cases argsOk x <;> cases nmOk x.f6 <;> simp
theorem impl_j1 (x : S39) (c : Int) (b : Bool) (k : Nat) (hc : c = x.f1) (hb : b = (decide (x.f1 = 1) || decide (x.f1 = 2))) (hA : nmOk x.f2 = true) :
    impl_RecPhaseOk.j1 (k + 10) c b x.f0 x.f1 x.f2 x.f3 x.f4 x.f5 x.f6 x.f7 = some (argsOk x) := by
  subst hc
  simp only [impl_RecPhaseOk.j1]
  unfold argsOk
  simp only [impl_nm, impl_in', Option.bind_some, hA, Bool.true_and]
  by_cases c1 : x.f1 = 1
  · have : b = true := by rw [hb]; simp [c1]
    subst this
    cases nmOk x.f3 <;> cases inB x.f4 1 1000 <;> simp [c1]
  · by_cases c2 : x.f1 = 2
    · have : b = true := by rw [hb]; simp [c2]
      subst this
      cases nmOk x.f3 <;> cases inB x.f4 1 1000 <;> simp [c2]
    · have : b = false := by rw [hb]; simp [c1, c2]
      subst this
      by_cases c3 : x.f1 = 3
      · by_cases e : x.f3.toList = [] <;> simp [e, c3]
      · by_cases c4 : x.f1 = 4
        · by_cases e : x.f3.toList = [] <;> simp [e, c4]
        · by_cases c5 : x.f1 = 5
          · by_cases e : x.f3.toList = [] <;> simp [e, c5]
          · simp [c1, c2, c3, c4, c5]
theorem impl_j0F (x : S39) (k : Nat) : impl_RecPhaseOk.j0 (k + 1) true x.f0 x.f1 x.f2 x.f3 x.f4 x.f5 x.f6 x.f7 = some false := by
  simp [impl_RecPhaseOk.j0]
theorem impl_j0T (x : S39) (k : Nat) (hA : nmOk x.f2 = true) : impl_RecPhaseOk.j0 (k + 11) false x.f0 x.f1 x.f2 x.f3 x.f4 x.f5 x.f6 x.f7 = some (argsOk x) := by
  simp only [impl_RecPhaseOk.j0]
  rw [if_neg (by decide)]
  by_cases c1 : x.f1 = 1
  · rw [if_pos c1]
    exact impl_j1 x _ _ k rfl (by simp [c1]) hA
  · rw [if_neg c1]
    exact impl_j1 x _ _ k rfl (by rw [show decide (x.f1 = 1) = false from decide_eq_false c1]; rfl) hA
theorem argsOk_A (x : S39) (h : nmOk x.f2 = false) : argsOk x = false := by
  unfold argsOk; simp [h]
theorem impl_ph (x : S39) (k : Nat) : impl_RecPhaseOk.f (k + 11) x.f0 x.f1 x.f2 x.f3 x.f4 x.f5 x.f6 x.f7 = some (phOk x) := by
  unfold impl_RecPhaseOk.f phOk
  have e0 : ∀ s, impl_name.f (k + 11) s = some (nmOk s) := fun s => impl_nm s (k + 2)
  have e1 : impl_RecEnd.f (k + 11) x.f0 = some (endOf x.f0) := impl_end _ (k + 7)
  simp only [e0, e1, impl_in', Option.bind_some, impl_j0F x (k + 10)]
  cases h0 : nmOk x.f0
  · simp
  · rw [if_pos rfl]
    have hr := endOf_range x.f0
    by_cases he : endOf x.f0 > 0
    · rw [if_pos he, show (endOf x.f0 == 0) = false from beq_eq_false_iff_ne.2 (by omega)]; simp
    · rw [if_neg he, show (endOf x.f0 == 0) = true from beq_iff_eq.2 (by omega)]
      cases inB x.f5 1 1000
      · simp
      · rw [if_pos rfl]
        cases h2 : nmOk x.f2
        · rw [argsOk_A x h2]; simp
        · rw [if_pos rfl]
          cases h6 : nmOk x.f6
          · simp
          · rw [if_pos rfl]
            cases h7 : nmOk x.f7
            · simp [impl_j0F x (k + 10)]
            · simp [impl_j0T x k h2]

end Go.Proofs.Ytdkologncoofdaa.P
-- Q3
namespace Go.Proofs.Ytdkologncoofdaa.P
open Go.RowKit Go.Proofs.YtdkologncoofdaaW.PrintWords Go.Proofs.YtdkologncoofdaaW.PrintLast
set_option linter.unusedVariables false
set_option linter.unusedSimpArgs false

/-! ### Places -/
/-- The first place from i on of a phase of this name. -/
theorem atOf_range (l : List S39) (a : ByteArray) : -1 ≤ atOf l a ∧ atOf l a < (l.length : Int) := by
  unfold atOf
  cases h : l.findIdx? (fun p => p.f0.toList == a.toList) with
  | none => simp only; omega
  | some i =>
    obtain ⟨hlt, _⟩ := List.findIdx?_eq_some_iff_getElem.1 h
    simp only
    omega
theorem atOf_name (l : List S39) (a : ByteArray) (h : 0 ≤ atOf l a) : (rd_T39 l (atOf l a)).f0.toList = a.toList := by
  unfold atOf at h ⊢
  cases e : l.findIdx? (fun p => p.f0.toList == a.toList) with
  | none => rw [e] at h; simp at h
  | some i =>
    obtain ⟨hlt, h1, _⟩ := List.findIdx?_eq_some_iff_getElem.1 e
    simp only [rd_T39, Int.toNat_natCast]
    rw [List.getD_eq_getElem?_getD, List.getElem?_eq_getElem hlt]
    simpa using h1
theorem atOf_not (l : List S39) (a : ByteArray) (h : atOf l a < 0) (j : Nat) (hj : j < l.length) : (l.getD j z39).f0.toList ≠ a.toList := by
  unfold atOf at h
  cases e : l.findIdx? (fun p => p.f0.toList == a.toList) with
  | some i => rw [e] at h; simp only at h; omega
  | none =>
    have h2 := List.findIdx?_eq_none_iff.1 e (l.getD j z39) (by rw [List.getD_eq_getElem?_getD, List.getElem?_eq_getElem hj]; exact List.getElem_mem hj)
    simpa using h2
theorem at_loop (l : List S39) (a : ByteArray) (hl : l.length ≤ 9223372036854775807) (d : Nat) : ∀ (i k : Nat), i ≤ l.length → l.length - i = d → d < k →
    (∀ j, j < i → ((l.getD j z39).f0.toList == a.toList) = false) → spec_l2At.l0 k l a (i : Int) = some (atOf l a) := by
  induction d with
  | zero =>
    intro i k hi hd hk hb
    obtain ⟨k, rfl⟩ : ∃ m, k = m + 1 := ⟨k - 1, by omega⟩
    simp only [spec_l2At.l0]
    rw [if_neg (by omega), atOf_miss l a (fun j hj => hb j (by omega))]
  | succ d ih =>
    intro i k hi hd hk hb
    obtain ⟨k, rfl⟩ : ∃ m, k = m + 1 := ⟨k - 1, by omega⟩
    simp only [spec_l2At.l0]
    have e : rd_T39 l (i : Int) = l.getD i z39 := by simp [rd_T39]
    rw [if_pos (by omega), if_pos (by omega), e]
    by_cases h : (l.getD i z39).f0.toList = a.toList
    · rw [if_pos h, atOf_hit l a i (by omega) (by simpa using h) hb]
    · rw [if_neg h, show wrap64 ((i : Int) + 1) = ((i + 1 : Nat) : Int) from by rw [wrap_id (by omega) (by omega)]; omega]
      refine ih (i + 1) k (by omega) (by omega) (by omega) (fun j hj => ?_)
      by_cases e2 : j = i
      · subst e2; simpa using h
      · exact hb j (by omega)
theorem spec_at (l : List S39) (a : ByteArray) (hl : l.length ≤ 9223372036854775807) (k : Nat) (hk : l.length < k) : spec_l2At.f k l a = some (atOf l a) :=
  at_loop l a hl l.length 0 k (by omega) (by omega) hk (fun j hj => absurd hj (Nat.not_lt_zero _))

/-! ### Recipes -/
def refOk (l : List S39) (i : Int) (n : ByteArray) : Bool := !(endOf n == 0) || decide (i < atOf l n)
def okAt (l : List S39) (i : Nat) : Bool := phOk (rd_T39 l i) && (atOf l (rd_T39 l i).f0 == (i : Int)) && refOk l i (rd_T39 l i).f6 && refOk l i (rd_T39 l i).f7
def restOk (l : List S39) (i : Nat) : Bool := (List.range (l.length - i)).all fun j => okAt l (i + j)
def recOk (l : List S39) : Bool := inB (l.length : Int) 1 12 && restOk l 0
theorem restOk_end (l : List S39) (i : Nat) (h : l.length ≤ i) : restOk l i = true := by
  unfold restOk; rw [show l.length - i = 0 from by omega]; rfl
theorem restOk_step (l : List S39) (i : Nat) (h : i < l.length) : restOk l i = (okAt l i && restOk l (i + 1)) := by
  unfold restOk
  rw [show l.length - i = (l.length - (i + 1)) + 1 from by omega, List.range_succ_eq_map, List.all_cons, List.all_map]
  congr 1
  apply congrArg
  funext j
  simp only [Function.comp_apply, Nat.succ_eq_add_one]
  rw [show i + (j + 1) = i + 1 + j from by omega]
theorem recOk_at (l : List S39) (h : recOk l = true) (i : Nat) (hi : i < l.length) : okAt l i = true := by
  unfold recOk restOk at h
  simp only [Bool.and_eq_true, List.all_eq_true] at h
  have := h.2 i (List.mem_range.2 (by omega))
  simpa using this
theorem recOk_len (l : List S39) (h : recOk l = true) : 1 ≤ l.length ∧ l.length ≤ 12 := by
  unfold recOk at h
  simp only [Bool.and_eq_true, inB_iff] at h
  omega

theorem spec_ok_loop (l : List S39) (hl : l.length ≤ 12) (d : Nat) : ∀ (i k : Nat), i ≤ l.length → l.length - i = d → 2 * d + 20 ≤ k → spec_RecOk.l0 k l (i : Int) = some (restOk l i) := by
  induction d with
  | zero =>
    intro i k hi hd hk
    obtain ⟨k, rfl⟩ : ∃ m, k = m + 1 := ⟨k - 1, by omega⟩
    simp only [spec_RecOk.l0]
    rw [if_neg (by omega), restOk_end l i (by omega)]
  | succ d ih =>
    intro i k hi hd hk
    obtain ⟨k, rfl⟩ : ∃ m, k = m + 2 := ⟨k - 2, by omega⟩
    have hi' := ih (i + 1) k (by omega) (by omega) (by omega)
    have hw : wrap64 ((i : Int) + 1) = ((i + 1 : Nat) : Int) := by rw [wrap_id (by omega) (by omega)]; omega
    have hph : spec_RecPhaseOk.f (k + 1) (rd_T39 l i).f0 (rd_T39 l i).f1 (rd_T39 l i).f2 (rd_T39 l i).f3 (rd_T39 l i).f4 (rd_T39 l i).f5 (rd_T39 l i).f6 (rd_T39 l i).f7 = some (phOk (rd_T39 l i)) := by
      obtain ⟨m, hm⟩ : ∃ m, k + 1 = m + 9 := ⟨k - 8, by omega⟩
      rw [hm]; exact spec_ph _ m
    have hat : ∀ n, spec_l2At.f (k + 1) l n = some (atOf l n) := fun n => spec_at l n (by omega) _ (by omega)
    have hat' : ∀ n, spec_l2At.f k l n = some (atOf l n) := fun n => spec_at l n (by omega) _ (by omega)
    simp only [spec_RecOk.l0]
    rw [if_pos (by omega), if_pos (by omega), hph, Option.bind_some, hat, Option.bind_some, restOk_step l i (by omega)]
    unfold okAt
    cases h1 : phOk (rd_T39 l i)
    · rw [if_neg (by decide)]
      simp [spec_RecOk.j1]
    · rw [if_pos rfl]
      simp only [spec_RecOk.j1]
      by_cases h2 : atOf l (rd_T39 l i).f0 = (i : Int)
      · rw [if_neg (by simp [h2]), if_pos (by omega), if_pos (by omega), spec_end, Option.bind_some, spec_end, Option.bind_some, hat', hat', Option.bind_some, Option.bind_some, hw, hi']
        unfold refOk
        rw [show (atOf l (rd_T39 l i).f0 == (i : Int)) = true from beq_iff_eq.2 h2]
        by_cases e6 : endOf (rd_T39 l i).f6 = 0 <;> by_cases e7 : endOf (rd_T39 l i).f7 = 0 <;> by_cases a6 : atOf l (rd_T39 l i).f6 ≤ (i : Int) <;> by_cases a7 : atOf l (rd_T39 l i).f7 ≤ (i : Int) <;>
          simp [e6, e7, a6, a7, show (decide ((i : Int) < atOf l (rd_T39 l i).f6)) = !(decide (atOf l (rd_T39 l i).f6 ≤ (i : Int))) from by simp [← decide_not, Int.not_le], show (decide ((i : Int) < atOf l (rd_T39 l i).f7)) = !(decide (atOf l (rd_T39 l i).f7 ≤ (i : Int))) from by simp [← decide_not, Int.not_le]]
      · rw [if_pos (by simpa using h2), show (atOf l (rd_T39 l i).f0 == (i : Int)) = false from beq_eq_false_iff_ne.2 h2]
        simp
theorem spec_ok (l : List S39) (k : Nat) (hk : 44 ≤ k) : spec_RecOk.f k l = some (recOk l) := by
  unfold spec_RecOk.f recOk
  rw [spec_in, Option.bind_some]
  by_cases h : inB (l.length : Int) 1 12 = true
  · rw [if_pos h, h]
    have := inB_iff.1 h
    exact spec_ok_loop l (by omega) l.length 0 k (by omega) (by omega) (by omega)
  · rw [if_neg h, Bool.eq_false_iff.2 h]; rfl

/-- What stands behind a pair of names. -/
theorem impl_pair (l : List S39) (i : Nat) (x12 : Int) (k : Nat) (hk : 10 ≤ k) (n6 n7 : ByteArray) (r : Bool) (h0 : impl_RecOk.l0 k l l x12 (wrap64 ((i : Int) + 1)) = some r) :
    impl_RecOk.l1 (k + 3) l i l x12 i [n6, n7] 2 0 = some (refOk l i n6 && (refOk l i n7 && r)) := by
  have he : ∀ n m, 4 ≤ m → impl_RecEnd.f m n = some (endOf n) := fun n m hm => by
    obtain ⟨q, rfl⟩ : ∃ q, m = q + 4 := ⟨m - 4, by omega⟩
    exact impl_end n q
  have w1 : wrap64 (0 + 1) = 1 := wrap_id (by omega) (by omega)
  have w2 : wrap64 (1 + 1) = 2 := wrap_id (by omega) (by omega)
  have e0 : rdOf ByteArray.empty [n6, n7] 0 = n6 := rfl
  have e1 : rdOf ByteArray.empty [n6, n7] 1 = n7 := rfl
  simp only [impl_RecOk.l1, impl_at.f, w1, w2, e0, e1, List.length_cons, List.length_nil, he n6 (k + 2) (by omega), he n7 (k + 1) (by omega), Option.bind_some, h0]
  unfold refOk
  by_cases e6 : endOf n6 = 0 <;> by_cases e7 : endOf n7 = 0 <;> by_cases a6 : atOf l n6 ≤ (i : Int) <;> by_cases a7 : atOf l n7 ≤ (i : Int) <;>
    simp [show (endOf n6 == 0) = decide (endOf n6 = 0) from rfl, show (endOf n7 == 0) = decide (endOf n7 = 0) from rfl, e6, e7, a6, a7, show (decide ((i : Int) < atOf l n6)) = !(decide (atOf l n6 ≤ (i : Int))) from by simp [← decide_not, Int.not_le], show (decide ((i : Int) < atOf l n7)) = !(decide (atOf l n7 ≤ (i : Int))) from by simp [← decide_not, Int.not_le]]
theorem impl_ok_loop (l : List S39) (hl : l.length ≤ 12) (d : Nat) : ∀ (i k : Nat), i ≤ l.length → l.length - i = d → 5 * d + 20 ≤ k → impl_RecOk.l0 k l l (l.length : Int) (i : Int) = some (restOk l i) := by
  induction d with
  | zero =>
    intro i k hi hd hk
    obtain ⟨k, rfl⟩ : ∃ m, k = m + 1 := ⟨k - 1, by omega⟩
    simp only [impl_RecOk.l0]
    rw [if_neg (by omega), restOk_end l i (by omega)]
  | succ d ih =>
    intro i k hi hd hk
    obtain ⟨k, rfl⟩ : ∃ m, k = m + 5 := ⟨k - 5, by omega⟩
    have hi' := ih (i + 1) k (by omega) (by omega) (by omega)
    have hw : wrap64 ((i : Int) + 1) = ((i + 1 : Nat) : Int) := by rw [wrap_id (by omega) (by omega)]; omega
    have hph : impl_RecPhaseOk.f (k + 4) (rd_T39 l i).f0 (rd_T39 l i).f1 (rd_T39 l i).f2 (rd_T39 l i).f3 (rd_T39 l i).f4 (rd_T39 l i).f5 (rd_T39 l i).f6 (rd_T39 l i).f7 = some (phOk (rd_T39 l i)) := by
      obtain ⟨m, hm⟩ : ∃ m, k + 4 = m + 11 := ⟨k - 7, by omega⟩
      rw [hm]; exact impl_ph _ m
    have hp := impl_pair l i (l.length : Int) k (by omega) (rd_T39 l i).f6 (rd_T39 l i).f7 (restOk l (i + 1)) (by rw [hw]; exact hi')
    simp only [impl_RecOk.l0]
    rw [if_pos (by omega), if_pos (by omega), if_pos (by omega), hph, Option.bind_some, restOk_step l i (by omega)]
    unfold okAt
    cases h1 : phOk (rd_T39 l i)
    · rw [if_neg (by decide)]
      simp [impl_RecOk.j1]
    · rw [if_pos rfl]
      simp only [impl_RecOk.j1, impl_at.f, Option.bind_some]
      by_cases h2 : atOf l (rd_T39 l i).f0 = (i : Int)
      · rw [if_neg (by simp [h2])]
        simp only [List.length_cons, List.length_nil]
        rw [show (((0 + 1 + 1 : Nat) : Int)) = 2 from rfl, hp, show (atOf l (rd_T39 l i).f0 == (i : Int)) = true from beq_iff_eq.2 h2]
        simp only [Bool.true_and, Bool.and_assoc]
      · rw [if_pos (by simpa using h2), show (atOf l (rd_T39 l i).f0 == (i : Int)) = false from beq_eq_false_iff_ne.2 h2]
        simp
theorem impl_ok (l : List S39) (k : Nat) (hk : 80 ≤ k) : impl_RecOk.f k l = some (recOk l) := by
  unfold impl_RecOk.f recOk
  rw [impl_in', Option.bind_some]
  by_cases h : inB (l.length : Int) 1 12 = true
  · rw [if_pos h, h]
    have := inB_iff.1 h
    exact impl_ok_loop l (by omega) l.length 0 k (by omega) (by omega) (by omega)
  · rw [if_neg h, Bool.eq_false_iff.2 h]; rfl

end Go.Proofs.Ytdkologncoofdaa.P
-- Q4
namespace Go.Proofs.Ytdkologncoofdaa.P
open Go.RowKit Go.Proofs.YtdkologncoofdaaW.PrintWords Go.Proofs.YtdkologncoofdaaW.PrintLast
set_option linter.unusedVariables false
set_option linter.unusedSimpArgs false

/-! ### Arguments measured, copied, compared -/
theorem sz_some (x : S48) (n : Int) : ∃ r, laws_szRecPhase.f x.f0 x.f1 x.f2 x.f3 x.f4 x.f5 x.f6 x.f7 n = some r := by
  unfold laws_szRecPhase.f
  repeat' split
  all_goals exact ⟨_, rfl⟩

theorem szS_loop (l : List S48) (hl : l.length ≤ 1048576) (d : Nat) : ∀ (i k : Nat) (n : Int), i ≤ l.length → l.length - i = d → d < k → ∃ r, laws_szRecPhaseS.l0 k l n (i : Int) = some r := by
  induction d with
  | zero =>
    intro i k n hi hd hk
    obtain ⟨k, rfl⟩ : ∃ m, k = m + 1 := ⟨k - 1, by omega⟩
    simp only [laws_szRecPhaseS.l0]
    rw [if_neg (by omega)]
    exact ⟨_, rfl⟩
  | succ d ih =>
    intro i k n hi hd hk
    obtain ⟨k, rfl⟩ : ∃ m, k = m + 1 := ⟨k - 1, by omega⟩
    simp only [laws_szRecPhaseS.l0]
    rw [if_pos (by omega), if_pos (by omega)]
    obtain ⟨r, hr⟩ := sz_some (rd_T48 l i) n
    rw [hr, Option.bind_some, show wrap64 ((i : Int) + 1) = ((i + 1 : Nat) : Int) from by rw [wrap_id (by omega) (by omega)]; omega]
    by_cases h : r < 0
    · rw [if_pos h]; exact ⟨_, rfl⟩
    · rw [if_neg h]; exact ih (i + 1) k r (by omega) (by omega) (by omega)
/-- The arguments' size: an answer; and if it is none of a refusal, the slice is short. -/
theorem szS (l : List S48) (hl : l.length ≤ 9223372036854775807) (k : Nat) (hk : 1048577 < k) : ∃ r, laws_szRecPhaseS.f k l 1048576 = some r ∧ (¬ r < 0 → l.length ≤ 1048576) := by
  unfold laws_szRecPhaseS.f
  rw [wrap_id (by omega) (by omega)]
  by_cases h : 1048576 - (l.length : Int) < 0
  · rw [if_pos h]; exact ⟨-1, rfl, fun h2 => absurd (show (-1 : Int) < 0 by omega) h2⟩
  · rw [if_neg h]
    obtain ⟨r, hr⟩ := szS_loop l (by omega) l.length 0 k (1048576 - (l.length : Int)) (by omega) (by omega) (by omega)
    exact ⟨r, hr, fun _ => by omega⟩
def to39 (x : S48) : S39 := ⟨x.f0, x.f1, x.f2, x.f3, x.f4, x.f5, x.f6, x.f7⟩
theorem toS_loop (l : List S48) (hl : l.length ≤ 1048576) (d : Nat) : ∀ (i k : Nat) (acc : List S39), i ≤ l.length → l.length - i = d → d < k → acc.length = l.length → acc.take i = (l.map to39).take i →
    laws_toRecPhaseS.l0 k l acc (i : Int) = some (l.map to39) := by
  induction d with
  | zero =>
    intro i k acc hi hd hk ha ht
    obtain ⟨k, rfl⟩ : ∃ m, k = m + 1 := ⟨k - 1, by omega⟩
    simp only [laws_toRecPhaseS.l0]
    rw [if_neg (by omega)]
    rw [List.take_of_length_le (by omega), List.take_of_length_le (by rw [List.length_map]; omega)] at ht
    rw [ht]
  | succ d ih =>
    intro i k acc hi hd hk ha ht
    obtain ⟨k, rfl⟩ : ∃ m, k = m + 1 := ⟨k - 1, by omega⟩
    simp only [laws_toRecPhaseS.l0, laws_toRecPhase.f, Option.bind_some]
    rw [if_pos (by omega), if_pos (by omega), if_pos (by omega), show wrap64 ((i : Int) + 1) = ((i + 1 : Nat) : Int) from by rw [wrap_id (by omega) (by omega)]; omega, Int.toNat_natCast]
    refine ih (i + 1) k _ (by omega) (by omega) (by omega) (by rw [List.length_set]; exact ha) ?_
    have hil : i < l.length := by omega
    have e : rd_T48 l (i : Int) = l[i] := by simp [rd_T48, List.getD_eq_getElem?_getD, List.getElem?_eq_getElem hil]
    rw [e, List.take_succ_eq_append_getElem (by rw [List.length_set]; omega), List.take_succ_eq_append_getElem (by rw [List.length_map]; omega), List.take_set_of_le (by omega), ht]
    simp [to39]
theorem toS (l : List S48) (hl : l.length ≤ 1048576) (k : Nat) (hk : 1048577 < k) : laws_toRecPhaseS.f k l = some (l.map to39) := by
  unfold laws_toRecPhaseS.f
  rw [if_pos (by omega), Int.toNat_natCast, if_pos (by omega)]
  exact toS_loop l hl l.length 0 k _ (by omega) (by omega) (by omega) (by simp) (by simp)
theorem eqP_self (x : S39) : laws_eqRecPhase.f x.f0 x.f1 x.f2 x.f3 x.f4 x.f5 x.f6 x.f7 x.f0 x.f1 x.f2 x.f3 x.f4 x.f5 x.f6 x.f7 = some true := by
  unfold laws_eqRecPhase.f
  simp
theorem eqS_loop (l : List S39) (hl : l.length ≤ 1048576) (d : Nat) : ∀ (i k : Nat), i ≤ l.length → l.length - i = d → d < k → laws_eqRecPhaseS.l0 k l l (i : Int) = some true := by
  induction d with
  | zero =>
    intro i k hi hd hk
    obtain ⟨k, rfl⟩ : ∃ m, k = m + 1 := ⟨k - 1, by omega⟩
    simp only [laws_eqRecPhaseS.l0]
    rw [if_neg (by omega)]
  | succ d ih =>
    intro i k hi hd hk
    obtain ⟨k, rfl⟩ : ∃ m, k = m + 1 := ⟨k - 1, by omega⟩
    simp only [laws_eqRecPhaseS.l0]
    rw [if_pos (by omega), if_pos (by omega), if_pos (by omega), eqP_self, Option.bind_some, if_pos rfl, show wrap64 ((i : Int) + 1) = ((i + 1 : Nat) : Int) from by rw [wrap_id (by omega) (by omega)]; omega]
    exact ih (i + 1) k (by omega) (by omega) (by omega)
theorem eqS (l : List S39) (hl : l.length ≤ 1048576) (k : Nat) (hk : 1048577 < k) : laws_eqRecPhaseS.f k l l = some true := by
  unfold laws_eqRecPhaseS.f
  rw [if_pos rfl]
  exact eqS_loop l hl l.length 0 k (by omega) (by omega) (by omega)

/-! ### The bound -/
/-- How many steps there may be from here. -/
def rk (l : List S39) (a : ByteArray) : Nat := (if atOf l a < 0 then 0 else (l.length : Int) - atOf l a).toNat
def bnd (l : List S39) : Nat → ByteArray → Int
  | 0, _ => 0
  | n + 1, a => if atOf l a < 0 then 0 else (rd_T39 l (atOf l a)).f5 + max (bnd l n (rd_T39 l (atOf l a)).f6) (bnd l n (rd_T39 l (atOf l a)).f7)
/-- RecBound of a recipe that is ok. -/
def boundOf (l : List S39) (a : ByteArray) : Int := bnd l 13 a
theorem end_no (l : List S39) (h : recOk l = true) (a : ByteArray) (ha : ¬ endOf a = 0) : atOf l a < 0 := by
  rcases Int.lt_or_le (atOf l a) 0 with h0 | h0
  · exact h0
  · have hr := atOf_range l a
    obtain ⟨i, hi⟩ := Int.eq_ofNat_of_zero_le h0
    have hn := atOf_name l a h0
    have hok := recOk_at l h i (by omega)
    unfold okAt phOk at hok
    simp only [Bool.and_eq_true, beq_iff_eq] at hok
    have e : endOf (rd_T39 l (atOf l a)).f0 = endOf a := by unfold endOf; rw [hn]
    rw [hi] at e
    omega
theorem ok_ref (l : List S39) (h : recOk l = true) (a : ByteArray) (h0 : ¬ atOf l a < 0) :
    rk l (rd_T39 l (atOf l a)).f6 < rk l a ∧ rk l (rd_T39 l (atOf l a)).f7 < rk l a ∧ 1 ≤ (rd_T39 l (atOf l a)).f5 ∧ (rd_T39 l (atOf l a)).f5 ≤ 1000 := by
  have hr := atOf_range l a
  obtain ⟨i, hi⟩ := Int.eq_ofNat_of_zero_le (show 0 ≤ atOf l a by omega)
  have hok := recOk_at l h i (by omega)
  unfold okAt at hok
  simp only [Bool.and_eq_true] at hok
  obtain ⟨⟨⟨h1, _⟩, h6⟩, h7⟩ := hok
  have key : ∀ n, refOk l (i : Int) n = true → rk l n < rk l a := by
    intro n hn
    have hrn := atOf_range l n
    unfold rk
    rw [if_neg h0]
    unfold refOk at hn
    simp only [Bool.or_eq_true, Bool.not_eq_true', beq_eq_false_iff_ne, decide_eq_true_eq] at hn
    rcases hn with hn | hn
    · rw [if_pos (end_no l h n hn)]; omega
    · rw [if_neg (by omega)]; omega
  rw [hi]
  refine ⟨key _ h6, key _ h7, ?_⟩
  unfold phOk at h1
  simp only [Bool.and_eq_true, inB_iff] at h1
  exact h1.1.1.1.2
theorem bnd_bound (l : List S39) (h : recOk l = true) (n : Nat) : ∀ a, 0 ≤ bnd l n a ∧ bnd l n a ≤ 1000 * (n : Int) := by
  induction n with
  | zero => intro a; simp [bnd]
  | succ n ih =>
    intro a
    simp only [bnd]
    by_cases h0 : atOf l a < 0
    · rw [if_pos h0]; omega
    · rw [if_neg h0]
      have hx := ok_ref l h a h0
      have h6 := ih (rd_T39 l (atOf l a)).f6
      have h7 := ih (rd_T39 l (atOf l a)).f7
      omega
theorem bnd_more (l : List S39) (h : recOk l = true) (n : Nat) : ∀ a m, rk l a < n → rk l a < m → bnd l n a = bnd l m a := by
  induction n with
  | zero => intro a m hn; omega
  | succ n ih =>
    intro a m hn hm
    obtain ⟨m, rfl⟩ : ∃ q, m = q + 1 := ⟨m - 1, by omega⟩
    simp only [bnd]
    by_cases h0 : atOf l a < 0
    · rw [if_pos h0, if_pos h0]
    · rw [if_neg h0, if_neg h0]
      have hx := ok_ref l h a h0
      rw [ih _ m (by omega) (by omega), ih (rd_T39 l (atOf l a)).f7 m (by omega) (by omega)]
theorem rk_le (l : List S39) (h : recOk l = true) (a : ByteArray) : rk l a ≤ 12 := by
  have := recOk_len l h
  unfold rk
  split <;> omega
theorem boundOf_step (l : List S39) (h : recOk l = true) (a : ByteArray) : boundOf l a = if atOf l a < 0 then 0 else (rd_T39 l (atOf l a)).f5 + max (boundOf l (rd_T39 l (atOf l a)).f6) (boundOf l (rd_T39 l (atOf l a)).f7) := by
  unfold boundOf
  rw [bnd_more l h 13 a 14 (by have := rk_le l h a; omega) (by have := rk_le l h a; omega)]
  rfl
theorem boundOf_range (l : List S39) (h : recOk l = true) (a : ByteArray) : 0 ≤ boundOf l a ∧ boundOf l a ≤ 13000 := by
  have := bnd_bound l h 13 a
  unfold boundOf
  omega
theorem mx_eq (a b : Int) : mx a b = max a b := by unfold mx; omega
theorem bound_both (l : List S39) (h : recOk l = true) (n : Nat) : ∀ a k, n ≤ 100 → rk l a < n → n + 14 ≤ k → impl_bound.f k l a = some (bnd l n a) ∧ spec_l2Bound.f k l a = some (bnd l n a) := by
  induction n with
  | zero => intro a k _ hn; omega
  | succ n ih =>
    intro a k hn1 hn hk
    obtain ⟨k, rfl⟩ : ∃ m, k = m + 1 := ⟨k - 1, by omega⟩
    have hlen := recOk_len l h
    have hr := atOf_range l a
    simp only [impl_bound.f, spec_l2Bound.f, impl_at.f, spec_at l a (by omega) k (by omega), Option.bind_some, bnd]
    by_cases h0 : atOf l a < 0
    · rw [if_pos h0, if_pos h0, if_pos h0]; exact ⟨rfl, rfl⟩
    · have hx := ok_ref l h a h0
      obtain ⟨a6, b6⟩ := ih (rd_T39 l (atOf l a)).f6 k (by omega) (by omega) (by omega)
      obtain ⟨a7, b7⟩ := ih (rd_T39 l (atOf l a)).f7 k (by omega) (by omega) (by omega)
      have r6 := bnd_bound l h n (rd_T39 l (atOf l a)).f6
      have r7 := bnd_bound l h n (rd_T39 l (atOf l a)).f7
      rw [if_neg h0, if_neg h0, if_neg h0, if_pos (by omega), if_pos (by omega), if_pos (by omega), if_pos (by omega), a6, a7, b6, b7]
      simp only [Option.bind_some]
      rw [mx_eq]
      refine ⟨by rw [wrap_id (by omega) (by omega)], ?_⟩
      by_cases hlt : bnd l n (rd_T39 l (atOf l a)).f6 < bnd l n (rd_T39 l (atOf l a)).f7
      · rw [if_pos hlt, wrap_id (by omega) (by omega), Int.max_eq_right (by omega), Int.add_comm]
      · rw [if_neg hlt, wrap_id (by omega) (by omega), Int.max_eq_left (by omega), Int.add_comm]
theorem impl_bd (l : List S39) (h : recOk l = true) (a : ByteArray) (k : Nat) (hk : 27 ≤ k) : impl_bound.f k l a = some (boundOf l a) := (bound_both l h 13 a k (by omega) (by have := rk_le l h a; omega) (by omega)).1
theorem spec_bd (l : List S39) (h : recOk l = true) (a : ByteArray) (k : Nat) (hk : 27 ≤ k) : spec_l2Bound.f k l a = some (boundOf l a) := (bound_both l h 13 a k (by omega) (by have := rk_le l h a; omega) (by omega)).2

end Go.Proofs.Ytdkologncoofdaa.P
-- Q5
namespace Go.Proofs.Ytdkologncoofdaa.P
open Go.RowKit Go.Proofs.YtdkologncoofdaaW.PrintWords Go.Proofs.YtdkologncoofdaaW.PrintLast
set_option linter.unusedVariables false
set_option linter.unusedSimpArgs false

theorem map_le2 (l : List S48) (h : l.length ≤ 1048576) : (l.map to39).length ≤ 1048576 := by rw [List.length_map]; exact h

/-! ### The begin -/
def beginOf (l : List S39) : ByteArray × Int × Int := if recOk l = true then ((rd_T39 l 0).f0, 0, boundOf l (rd_T39 l 0).f0) else (⟨#[]⟩, 0, 0)
theorem spec_bg (l : List S39) (k : Nat) (hk : 80 ≤ k) : spec_RecBegin.f k l = some (beginOf l) := by
  unfold spec_RecBegin.f beginOf spec_l4At.f
  rw [spec_ok l k (by omega), Option.bind_some]
  by_cases h : recOk l = true
  · have := recOk_len l h
    rw [if_pos h, if_pos h, if_pos (by omega), spec_bd l h _ k (by omega)]; rfl
  · rw [if_neg h, if_neg h]
theorem impl_bg (l : List S39) (k : Nat) (hk : 80 ≤ k) : impl_RecBegin.f k l = some (beginOf l) := by
  unfold impl_RecBegin.f beginOf
  rw [impl_ok l k (by omega), Option.bind_some]
  by_cases h : recOk l = true
  · have := recOk_len l h
    rw [if_pos h, if_pos h, if_pos (by omega), impl_bd l h _ k (by omega)]; rfl
  · rw [if_neg h, if_neg h]
theorem eqState_self (a : ByteArray) (b c : Int) : laws_eqRecState.f a b c a b c = some true := by
  unfold laws_eqRecState.f
  simp

end Go.Proofs.Ytdkologncoofdaa.P
-- PlainFnExactRecBegin
namespace Go.Proofs.Ytdkologncoofdaa.P
open Go.RowKit Go.Proofs.YtdkologncoofdaaW.PrintWords Go.Proofs.YtdkologncoofdaaW.PrintLast
set_option linter.unusedVariables false
set_option linter.unusedSimpArgs false

theorem pure_FnExactRecBegin (l : List S48) (hl : l.length ≤ 9223372036854775807) : ∃ k, laws_FnExactRecBegin.f k l = some true := by
  refine ⟨1048700, ?_⟩
  unfold laws_FnExactRecBegin.f
  obtain ⟨r, hr, hs⟩ := szS l hl 1048700 (by omega)
  rw [hr, Option.bind_some]
  by_cases h : r < 0
  · rw [if_pos h]
  · have hs := hs h
    rw [if_neg h, toS l hs 1048700 (by omega)]
    simp only [Option.bind_some, spec_bg _ 1048700 (by omega), impl_bg _ 1048700 (by omega), eqS _ (map_le2 l hs) 1048700 (by omega), eqState_self]
    simp

end Go.Proofs.Ytdkologncoofdaa.P
