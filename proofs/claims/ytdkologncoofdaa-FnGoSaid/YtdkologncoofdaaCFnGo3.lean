/- Part 3 of the texts that the law FnGo reaches: contracts of the functions and plain lemmas. -/
import Derived.Test.YtdkologncoofdaaCFnGo2
-- K12
namespace Go.Proofs.Ytdkologncoofdaa.P
open Go.RowKit Go.Proofs.YtdkologncoofdaaW.PrintWords Go.Proofs.YtdkologncoofdaaW.PrintLast Go.Proofs.YtdkologncoofdaaW.PrintMore
attribute [local go_sem] max2_int min2_int max_two min_two max_three min_three max_four min_four   -- for this text's walks alone
set_option linter.unusedVariables false
set_option linter.unusedSimpArgs false

set_option maxHeartbeats 8000000 in
set_option maxRecDepth 100000 in
theorem spec_RecPhaseOk.calls (k : Nat) (a0_0 : ByteArray) (a0_1 : Int) (a0_2 : ByteArray) (a0_3 : ByteArray) (a0_4 : Int) (a0_5 : Int) (a0_6 : ByteArray) (a0_7 : ByteArray) (r : Bool) (w : World) (h : spec_RecPhaseOk.f k a0_0 a0_1 a0_2 a0_3 a0_4 a0_5 a0_6 a0_7 = some r) :
  Calls Try.prog 32 #[.agg #[.string a0_0, .int .i64 a0_1, .string a0_2, .string a0_3, .int .i64 a0_4, .int .i64 a0_5, .string a0_6, .string a0_7]] w fun e w' => e = .returned (.bool r) ∧ Below w.heap.size w w' := by
 have hu39 := Try.underlying39
 have HB := Aside0.mk (Below.refl w.heap.size w)
 have H : ((spec_l1PlainOk.f k a0_0).bind fun t128 => (if t128 = true then ((spec_l1In.f a0_5 1 1000).bind fun t129 => (if t129 = true then ((spec_l1ArgsOk.f k a0_0 a0_1 a0_2 a0_3 a0_4 a0_5 a0_6 a0_7).bind fun t130 => (if t130 = true then ((spec_l1NameOk.f k a0_6).bind fun t131 => (if t131 = true then ((spec_l1NameOk.f k a0_7).bind fun t132 => (some t132)) else (some false))) else (some false))) else (some false))) else (some false))) = some r := h
 clear h
 replace H := Option.bind_eq_some_iff.mp H
 obtain ⟨t128, A20, H⟩ := H
 replace H : (if t128 = true then ((spec_l1In.f a0_5 1 1000).bind fun t129 => (if t129 = true then ((spec_l1ArgsOk.f k a0_0 a0_1 a0_2 a0_3 a0_4 a0_5 a0_6 a0_7).bind fun t130 => (if t130 = true then ((spec_l1NameOk.f k a0_6).bind fun t131 => (if t131 = true then ((spec_l1NameOk.f k a0_7).bind fun t132 => (some t132)) else (some false))) else (some false))) else (some false))) else (some false)) = some r := H
 have A2 := Aside0.mk A20
 clear A20
 by_cases c3 : t128 = true
 ·subst c3
  have H1 : ((spec_l1In.f a0_5 1 1000).bind fun t129 => (if t129 = true then ((spec_l1ArgsOk.f k a0_0 a0_1 a0_2 a0_3 a0_4 a0_5 a0_6 a0_7).bind fun t130 => (if t130 = true then ((spec_l1NameOk.f k a0_6).bind fun t131 => (if t131 = true then ((spec_l1NameOk.f k a0_7).bind fun t132 => (some t132)) else (some false))) else (some false))) else (some false))) = some r := by rw [if_pos rfl] at H; exact H
  clear H
  have H := H1
  clear H1
  replace H := Option.bind_eq_some_iff.mp H
  obtain ⟨t129, A40, H⟩ := H
  replace H : (if t129 = true then ((spec_l1ArgsOk.f k a0_0 a0_1 a0_2 a0_3 a0_4 a0_5 a0_6 a0_7).bind fun t130 => (if t130 = true then ((spec_l1NameOk.f k a0_6).bind fun t131 => (if t131 = true then ((spec_l1NameOk.f k a0_7).bind fun t132 => (some t132)) else (some false))) else (some false))) else (some false)) = some r := H
  have A4 := Aside0.mk A40
  clear A40
  by_cases c5 : t129 = true
  ·subst c5
   have H1 : ((spec_l1ArgsOk.f k a0_0 a0_1 a0_2 a0_3 a0_4 a0_5 a0_6 a0_7).bind fun t130 => (if t130 = true then ((spec_l1NameOk.f k a0_6).bind fun t131 => (if t131 = true then ((spec_l1NameOk.f k a0_7).bind fun t132 => (some t132)) else (some false))) else (some false))) = some r := by rw [if_pos rfl] at H; exact H
   clear H
   have H := H1
   clear H1
   replace H := Option.bind_eq_some_iff.mp H
   obtain ⟨t130, A60, H⟩ := H
   replace H : (if t130 = true then ((spec_l1NameOk.f k a0_6).bind fun t131 => (if t131 = true then ((spec_l1NameOk.f k a0_7).bind fun t132 => (some t132)) else (some false))) else (some false)) = some r := H
   have A6 := Aside0.mk A60
   clear A60
   by_cases c7 : t130 = true
   ·subst c7
    have H1 : ((spec_l1NameOk.f k a0_6).bind fun t131 => (if t131 = true then ((spec_l1NameOk.f k a0_7).bind fun t132 => (some t132)) else (some false))) = some r := by rw [if_pos rfl] at H; exact H
    clear H
    have H := H1
    clear H1
    replace H := Option.bind_eq_some_iff.mp H
    obtain ⟨t131, A80, H⟩ := H
    replace H : (if t131 = true then ((spec_l1NameOk.f k a0_7).bind fun t132 => (some t132)) else (some false)) = some r := H
    have A8 := Aside0.mk A80
    clear A80
    by_cases c9 : t131 = true
    ·subst c9
     have H1 : ((spec_l1NameOk.f k a0_7).bind fun t132 => (some t132)) = some r := by rw [if_pos rfl] at H; exact H
     clear H
     have H := H1
     clear H1
     replace H := Option.bind_eq_some_iff.mp H
     obtain ⟨t132, A100, H⟩ := H
     replace H : (some t132) = some r := H
     have A10 := Aside0.mk A100
     clear A100
     obtain rfl := Option.some.inj H
     go_enter Try.func32, Try.ntmps32
     go_wp2_with (first | ((with_reducible refine gate_dst (N := 1) rfl ?_); refine box_event ?hg (N := 1) ?hd (cs := #[.string a0_0, .int .i64 a0_1, .string a0_2, .string a0_3, .int .i64 a0_4, .int .i64 a0_5, .string a0_6, .string a0_7]) (t := 39) ?hr ?_; (case hd => rfl); (case hg => rfl); (case hr => first | (go_simp; done) | (go_simp; rfl)); intro gb127 hg w11 hbox hb; have n0_ := bs HB hb; have n1_ := Aside0.mk (hbox); have n2_ := gh hg HB; have n3_ := gh hg HB; clear HB; have HB := n0_; have BK127 := n1_; have GW127 := n2_; have GE127 := n3_; clear n0_ n1_ n2_ n3_; clear hb hbox hg; have hcz12_0 := b0 BK127; have hcz12_1 := b1 BK127; have hcz12_2 := b2 BK127; have hcz12_3 := b3 BK127; have hcz12_4 := b4 BK127; have hcz12_5 := b5 BK127; have hcz12_6 := b6 BK127; have hcz12_7 := b7 BK127; have hfz12_0 := fz BK127 0; have hfz12_1 := fz BK127 1; have hfz12_2 := fz BK127 2; have hfz12_3 := fz BK127 3; have hfz12_4 := fz BK127 4; have hfz12_5 := fz BK127 5; have hfz12_6 := fz BK127 6; have hfz12_7 := fz BK127 7) | ((with_reducible refine gate_callee (f := 75) rfl ?_); refine goesL_ (some 5) rfl rfl Try.func75 (by kernel_rfl) rfl #[.string a0_0] rfl mxp ?_; (with_reducible refine (spec_l1PlainOk.calls k a0_0 true _ A2.out).mono ?_); rintro e w' ⟨rfl, ⟨nd, rfl⟩⟩; refine ⟨_, rfl, ?_⟩) | (go_at_call 67; (with_reducible refine (spec_l1In.calls a0_5 1 1000 true _ A4.out).mono ?_); rintro e w' ⟨rfl, ⟨nd, rfl⟩⟩) | (go_at_call 76; (with_reducible refine (spec_l1ArgsOk.calls k a0_0 a0_1 a0_2 a0_3 a0_4 a0_5 a0_6 a0_7 true _ A6.out).mono ?_); rintro e w13 ⟨rfl, hb⟩; replace BK127 := up BK127 hb; replace HB := bs HB hb; (try clear hb); (try clear hb2); (try clear hk); (try clear hi); have hcz14_0 := b0 BK127; have hcz14_1 := b1 BK127; have hcz14_2 := b2 BK127; have hcz14_3 := b3 BK127; have hcz14_4 := b4 BK127; have hcz14_5 := b5 BK127; have hcz14_6 := b6 BK127; have hcz14_7 := b7 BK127; have hfz14_0 := fz BK127 0; have hfz14_1 := fz BK127 1; have hfz14_2 := fz BK127 2; have hfz14_3 := fz BK127 3; have hfz14_4 := fz BK127 4; have hfz14_5 := fz BK127 5; have hfz14_6 := fz BK127 6; have hfz14_7 := fz BK127 7) | (go_at_call 77; (with_reducible refine (spec_l1NameOk.calls k a0_6 true _ A8.out).mono ?_); rintro e w' ⟨rfl, ⟨nd, rfl⟩⟩) | (go_at_call 77; (with_reducible refine (spec_l1NameOk.calls k a0_7 t132 _ A10.out).mono ?_); rintro e w' ⟨rfl, ⟨nd, rfl⟩⟩))
     go_ret
     exact ⟨exq, bw HB.out⟩
    ·replace c9 := Bool.eq_false_iff.mpr c9
     subst c9
     have H1 : (some false) = some r := by rw [if_neg (show ¬ (false = true) by decide)] at H; exact H
     clear H
     have H := H1
     clear H1
     obtain rfl := Option.some.inj H
     go_enter Try.func32, Try.ntmps32
     go_wp2_with (first | ((with_reducible refine gate_dst (N := 1) rfl ?_); refine box_event ?hg (N := 1) ?hd (cs := #[.string a0_0, .int .i64 a0_1, .string a0_2, .string a0_3, .int .i64 a0_4, .int .i64 a0_5, .string a0_6, .string a0_7]) (t := 39) ?hr ?_; (case hd => rfl); (case hg => rfl); (case hr => first | (go_simp; done) | (go_simp; rfl)); intro gb127 hg w15 hbox hb; have n0_ := bs HB hb; have n1_ := Aside0.mk (hbox); have n2_ := gh hg HB; have n3_ := gh hg HB; clear HB; have HB := n0_; have BK127 := n1_; have GW127 := n2_; have GE127 := n3_; clear n0_ n1_ n2_ n3_; clear hb hbox hg; have hcz16_0 := b0 BK127; have hcz16_1 := b1 BK127; have hcz16_2 := b2 BK127; have hcz16_3 := b3 BK127; have hcz16_4 := b4 BK127; have hcz16_5 := b5 BK127; have hcz16_6 := b6 BK127; have hcz16_7 := b7 BK127; have hfz16_0 := fz BK127 0; have hfz16_1 := fz BK127 1; have hfz16_2 := fz BK127 2; have hfz16_3 := fz BK127 3; have hfz16_4 := fz BK127 4; have hfz16_5 := fz BK127 5; have hfz16_6 := fz BK127 6; have hfz16_7 := fz BK127 7) | ((with_reducible refine gate_callee (f := 75) rfl ?_); refine goesL_ (some 5) rfl rfl Try.func75 (by kernel_rfl) rfl #[.string a0_0] rfl mxp ?_; (with_reducible refine (spec_l1PlainOk.calls k a0_0 true _ A2.out).mono ?_); rintro e w' ⟨rfl, ⟨nd, rfl⟩⟩; refine ⟨_, rfl, ?_⟩) | (go_at_call 67; (with_reducible refine (spec_l1In.calls a0_5 1 1000 true _ A4.out).mono ?_); rintro e w' ⟨rfl, ⟨nd, rfl⟩⟩) | (go_at_call 76; (with_reducible refine (spec_l1ArgsOk.calls k a0_0 a0_1 a0_2 a0_3 a0_4 a0_5 a0_6 a0_7 true _ A6.out).mono ?_); rintro e w17 ⟨rfl, hb⟩; replace BK127 := up BK127 hb; replace HB := bs HB hb; (try clear hb); (try clear hb2); (try clear hk); (try clear hi); have hcz18_0 := b0 BK127; have hcz18_1 := b1 BK127; have hcz18_2 := b2 BK127; have hcz18_3 := b3 BK127; have hcz18_4 := b4 BK127; have hcz18_5 := b5 BK127; have hcz18_6 := b6 BK127; have hcz18_7 := b7 BK127; have hfz18_0 := fz BK127 0; have hfz18_1 := fz BK127 1; have hfz18_2 := fz BK127 2; have hfz18_3 := fz BK127 3; have hfz18_4 := fz BK127 4; have hfz18_5 := fz BK127 5; have hfz18_6 := fz BK127 6; have hfz18_7 := fz BK127 7) | (go_at_call 77; (with_reducible refine (spec_l1NameOk.calls k a0_6 false _ A8.out).mono ?_); rintro e w' ⟨rfl, ⟨nd, rfl⟩⟩))
     go_ret
     exact ⟨exq, bw HB.out⟩
   ·replace c7 := Bool.eq_false_iff.mpr c7
    subst c7
    have H1 : (some false) = some r := by rw [if_neg (show ¬ (false = true) by decide)] at H; exact H
    clear H
    have H := H1
    clear H1
    obtain rfl := Option.some.inj H
    go_enter Try.func32, Try.ntmps32
    go_wp2_with (first | ((with_reducible refine gate_dst (N := 1) rfl ?_); refine box_event ?hg (N := 1) ?hd (cs := #[.string a0_0, .int .i64 a0_1, .string a0_2, .string a0_3, .int .i64 a0_4, .int .i64 a0_5, .string a0_6, .string a0_7]) (t := 39) ?hr ?_; (case hd => rfl); (case hg => rfl); (case hr => first | (go_simp; done) | (go_simp; rfl)); intro gb127 hg w19 hbox hb; have n0_ := bs HB hb; have n1_ := Aside0.mk (hbox); have n2_ := gh hg HB; have n3_ := gh hg HB; clear HB; have HB := n0_; have BK127 := n1_; have GW127 := n2_; have GE127 := n3_; clear n0_ n1_ n2_ n3_; clear hb hbox hg; have hcz20_0 := b0 BK127; have hcz20_1 := b1 BK127; have hcz20_2 := b2 BK127; have hcz20_3 := b3 BK127; have hcz20_4 := b4 BK127; have hcz20_5 := b5 BK127; have hcz20_6 := b6 BK127; have hcz20_7 := b7 BK127; have hfz20_0 := fz BK127 0; have hfz20_1 := fz BK127 1; have hfz20_2 := fz BK127 2; have hfz20_3 := fz BK127 3; have hfz20_4 := fz BK127 4; have hfz20_5 := fz BK127 5; have hfz20_6 := fz BK127 6; have hfz20_7 := fz BK127 7) | ((with_reducible refine gate_callee (f := 75) rfl ?_); refine goesL_ (some 5) rfl rfl Try.func75 (by kernel_rfl) rfl #[.string a0_0] rfl mxp ?_; (with_reducible refine (spec_l1PlainOk.calls k a0_0 true _ A2.out).mono ?_); rintro e w' ⟨rfl, ⟨nd, rfl⟩⟩; refine ⟨_, rfl, ?_⟩) | (go_at_call 67; (with_reducible refine (spec_l1In.calls a0_5 1 1000 true _ A4.out).mono ?_); rintro e w' ⟨rfl, ⟨nd, rfl⟩⟩) | (go_at_call 76; (with_reducible refine (spec_l1ArgsOk.calls k a0_0 a0_1 a0_2 a0_3 a0_4 a0_5 a0_6 a0_7 false _ A6.out).mono ?_); rintro e w21 ⟨rfl, hb⟩; replace BK127 := up BK127 hb; replace HB := bs HB hb; (try clear hb); (try clear hb2); (try clear hk); (try clear hi)))
    go_ret
    exact ⟨exq, bw HB.out⟩
  ·replace c5 := Bool.eq_false_iff.mpr c5
   subst c5
   have H1 : (some false) = some r := by rw [if_neg (show ¬ (false = true) by decide)] at H; exact H
   clear H
   have H := H1
   clear H1
   obtain rfl := Option.some.inj H
   go_enter Try.func32, Try.ntmps32
   go_wp2_with (first | ((with_reducible refine gate_dst (N := 1) rfl ?_); refine box_event ?hg (N := 1) ?hd (cs := #[.string a0_0, .int .i64 a0_1, .string a0_2, .string a0_3, .int .i64 a0_4, .int .i64 a0_5, .string a0_6, .string a0_7]) (t := 39) ?hr ?_; (case hd => rfl); (case hg => rfl); (case hr => first | (go_simp; done) | (go_simp; rfl)); intro gb127 hg w22 hbox hb; have n0_ := bs HB hb; have n1_ := Aside0.mk (hbox); have n2_ := gh hg HB; have n3_ := gh hg HB; clear HB; have HB := n0_; have BK127 := n1_; have GW127 := n2_; have GE127 := n3_; clear n0_ n1_ n2_ n3_; clear hb hbox hg; have hcz23_0 := b0 BK127; have hcz23_1 := b1 BK127; have hcz23_2 := b2 BK127; have hcz23_3 := b3 BK127; have hcz23_4 := b4 BK127; have hcz23_5 := b5 BK127; have hcz23_6 := b6 BK127; have hcz23_7 := b7 BK127; have hfz23_0 := fz BK127 0; have hfz23_1 := fz BK127 1; have hfz23_2 := fz BK127 2; have hfz23_3 := fz BK127 3; have hfz23_4 := fz BK127 4; have hfz23_5 := fz BK127 5; have hfz23_6 := fz BK127 6; have hfz23_7 := fz BK127 7) | ((with_reducible refine gate_callee (f := 75) rfl ?_); refine goesL_ (some 5) rfl rfl Try.func75 (by kernel_rfl) rfl #[.string a0_0] rfl mxp ?_; (with_reducible refine (spec_l1PlainOk.calls k a0_0 true _ A2.out).mono ?_); rintro e w' ⟨rfl, ⟨nd, rfl⟩⟩; refine ⟨_, rfl, ?_⟩) | (go_at_call 67; (with_reducible refine (spec_l1In.calls a0_5 1 1000 false _ A4.out).mono ?_); rintro e w' ⟨rfl, ⟨nd, rfl⟩⟩))
   go_ret
   exact ⟨exq, bw HB.out⟩
 ·replace c3 := Bool.eq_false_iff.mpr c3
  subst c3
  have H1 : (some false) = some r := by rw [if_neg (show ¬ (false = true) by decide)] at H; exact H
  clear H
  have H := H1
  clear H1
  obtain rfl := Option.some.inj H
  go_enter Try.func32, Try.ntmps32
  go_wp2_with (first | ((with_reducible refine gate_dst (N := 1) rfl ?_); refine box_event ?hg (N := 1) ?hd (cs := #[.string a0_0, .int .i64 a0_1, .string a0_2, .string a0_3, .int .i64 a0_4, .int .i64 a0_5, .string a0_6, .string a0_7]) (t := 39) ?hr ?_; (case hd => rfl); (case hg => rfl); (case hr => first | (go_simp; done) | (go_simp; rfl)); intro gb127 hg w24 hbox hb; have n0_ := bs HB hb; have n1_ := Aside0.mk (hbox); have n2_ := gh hg HB; have n3_ := gh hg HB; clear HB; have HB := n0_; have BK127 := n1_; have GW127 := n2_; have GE127 := n3_; clear n0_ n1_ n2_ n3_; clear hb hbox hg; have hcz25_0 := b0 BK127; have hcz25_1 := b1 BK127; have hcz25_2 := b2 BK127; have hcz25_3 := b3 BK127; have hcz25_4 := b4 BK127; have hcz25_5 := b5 BK127; have hcz25_6 := b6 BK127; have hcz25_7 := b7 BK127; have hfz25_0 := fz BK127 0; have hfz25_1 := fz BK127 1; have hfz25_2 := fz BK127 2; have hfz25_3 := fz BK127 3; have hfz25_4 := fz BK127 4; have hfz25_5 := fz BK127 5; have hfz25_6 := fz BK127 6; have hfz25_7 := fz BK127 7) | ((with_reducible refine gate_callee (f := 75) rfl ?_); refine goesL_ (some 5) rfl rfl Try.func75 (by kernel_rfl) rfl #[.string a0_0] rfl mxp ?_; (with_reducible refine (spec_l1PlainOk.calls k a0_0 false _ A2.out).mono ?_); rintro e w' ⟨rfl, ⟨nd, rfl⟩⟩; refine ⟨_, rfl, ?_⟩))
  go_ret
  exact ⟨exq, bw HB.out⟩

end Go.Proofs.Ytdkologncoofdaa.P
-- K19
namespace Go.Proofs.Ytdkologncoofdaa.P
open Go.RowKit Go.Proofs.YtdkologncoofdaaW.PrintWords Go.Proofs.YtdkologncoofdaaW.PrintLast Go.Proofs.YtdkologncoofdaaW.PrintMore
attribute [local go_sem] max2_int min2_int max_two min_two max_three min_three max_four min_four   -- for this text's walks alone
set_option linter.unusedVariables false
set_option linter.unusedSimpArgs false

set_option maxHeartbeats 8000000 in
set_option maxRecDepth 100000 in
theorem spec_RecOk.calls (k : Nat) (A0 : Option Addr) (c0 : Nat) (l0 : List (S39)) (r : Bool) (w : World) (hr0 : Kd.C k39 w A0 l0.length l0) (hc0 : l0.length ≤ c0) (h : spec_RecOk.f k l0 = some r) :
  Calls Try.prog 24 #[.slice A0 l0.length c0] w fun e w' => e = .returned (.bool r) ∧ Below w.heap.size w w' := by
 have hu39 := Try.underlying39
 have HR0 := Aside0.mk hr0
 have HC0 := Aside0.mk hc0
 clear hr0 hc0
 have HB := Aside0.mk (Below.refl w.heap.size w)
 have H : ((spec_l1In.f (l0.length : Int) 1 12).bind fun t168 => (if t168 = true then (spec_RecOk.l0 k l0 0) else (some false))) = some r := h
 clear h
 replace H := Option.bind_eq_some_iff.mp H
 obtain ⟨t168, A20, H⟩ := H
 replace H : (if t168 = true then (spec_RecOk.l0 k l0 0) else (some false)) = some r := H
 have A2 := Aside0.mk A20
 clear A20
 by_cases c3 : t168 = true
 ·subst c3
  have H1 : (spec_RecOk.l0 k l0 0) = some r := by rw [if_pos rfl] at H; exact H
  clear H
  have H := H1
  clear H1
  have H' := Aside0.mk H
  clear H
  go_enter Try.func24, Try.ntmps24
  go_wp2_with (first | ((with_reducible refine gate_callee (f := 67) rfl ?_); refine goesL_ (some 6) rfl rfl Try.func67 (by kernel_rfl) rfl #[.int .i64 (l0.length : Int), .int .i64 1, .int .i64 12] rfl mxp ?_; (with_reducible refine (spec_l1In.calls (l0.length : Int) 1 12 true _ A2.out).mono ?_); rintro e w' ⟨rfl, ⟨nd, rfl⟩⟩; refine ⟨_, rfl, ?_⟩))
  go_loopg [3] k (fun kq v3 w' => ∃ (x3_1 : Int), v3 = .int .i64 x3_1 ∧ Aside0 (spec_RecOk.l0 kq l0 x3_1 = some r) ∧ Aside0 (kq ≤ k) ∧ Aside0 (Below w.heap.size w w'))
  case atStart => exact ⟨(0), (by first | rfl | (simp; done) | (simp [*]; done)), H', ⟨Nat.le_refl _⟩, (hbw HB)⟩
  case round =>
   clear H'
   try clear c2
   try clear p2
   try clear c3
   obtain ⟨x3_1, rfl, HA, HK1, HB⟩ := hrel
   cases gk with
   | zero => exact absurd HA.out (by simp [spec_RecOk.l0])
   | succ k1 =>
    have H := HA.out
    clear HA
    simp only [spec_RecOk.l0] at H
    by_cases c4 : x3_1 < (l0.length : Int)
    ·rw [if_pos c4] at H
     have c4b0 : decide (x3_1 < (l0.length : Int)) = true := decide_eq_true c4
     clear c4
     have HC5 := Aside0.mk H
     clear H
     go_upto_region 6 with (fail)
     go_cut [30] (fun v30 wc => ∃ (kq : Nat) (x30_4 : Bool), v30 = .bool x30_4 ∧ Aside0 (spec_RecOk.j1 kq l0 x3_1 x30_4 = some r) ∧ Aside0 (kq ≤ k1) ∧ Aside0 (Below w.heap.size w wc))
     case first =>
      have H := HC5.out
      clear HC5
      by_cases c6 : 0 ≤ x3_1
      ·rw [if_pos c6] at H
       have c6b0 : decide (0 ≤ x3_1) = true := decide_eq_true c6
       clear c6
       (first | rw [c6b0] | (simp only [i64_w, i32_w]; rw [c6b0]) | skip)
       replace H := Option.bind_eq_some_iff.mp H
       obtain ⟨t170, A70, H⟩ := H
       replace H : (if t170 = true then ((spec_l2At.f k1 l0 ((rd_T39 l0 x3_1).f0)).bind fun t172 => (spec_RecOk.j1 k1 l0 x3_1 (t172 != x3_1))) else (spec_RecOk.j1 k1 l0 x3_1 true)) = some r := H
       have A7 := Aside0.mk A70
       clear A70
       by_cases c8 : t170 = true
       ·subst c8
        have H1 : ((spec_l2At.f k1 l0 ((rd_T39 l0 x3_1).f0)).bind fun t172 => (spec_RecOk.j1 k1 l0 x3_1 (t172 != x3_1))) = some r := by rw [if_pos rfl] at H; exact H
        clear H
        have H := H1
        clear H1
        replace H := Option.bind_eq_some_iff.mp H
        obtain ⟨t172, A90, H⟩ := H
        replace H : (spec_RecOk.j1 k1 l0 x3_1 (t172 != x3_1)) = some r := H
        have A9 := Aside0.mk A90
        clear A90
        have H' := Aside0.mk H
        clear H
        have p169 : 0 ≤ (x3_1 : Int) := oda
        have q169 : x3_1 < (l0.length : Int) := oda
        obtain ⟨ad169, e169, hx169_0, hx169_1, hx169_2, hx169_3, hx169_4, hx169_5, hx169_6, hx169_7⟩ := at_T39 HR0.out x3_1 p169 q169
        cases e169
        replace hx169_0 := bcl HB hx169_0
        replace hx169_1 := bcl HB hx169_1
        replace hx169_2 := bcl HB hx169_2
        replace hx169_3 := bcl HB hx169_3
        replace hx169_4 := bcl HB hx169_4
        replace hx169_5 := bcl HB hx169_5
        replace hx169_6 := bcl HB hx169_6
        replace hx169_7 := bcl HB hx169_7
        replace p169 := eq_true p169
        replace q169 := eq_true q169
        go_wp2_with (first | ((with_reducible refine gate_callee (f := 32) rfl ?_); refine goesL_ (some 18) rfl rfl Try.func32 (by kernel_rfl) rfl #[.agg #[.string ((rd_T39 l0 x3_1).f0), .int .i64 ((rd_T39 l0 x3_1).f1), .string ((rd_T39 l0 x3_1).f2), .string ((rd_T39 l0 x3_1).f3), .int .i64 ((rd_T39 l0 x3_1).f4), .int .i64 ((rd_T39 l0 x3_1).f5), .string ((rd_T39 l0 x3_1).f6), .string ((rd_T39 l0 x3_1).f7)]] rfl mxp ?_; (with_reducible refine (spec_RecPhaseOk.calls k1 ((rd_T39 l0 x3_1).f0) ((rd_T39 l0 x3_1).f1) ((rd_T39 l0 x3_1).f2) ((rd_T39 l0 x3_1).f3) ((rd_T39 l0 x3_1).f4) ((rd_T39 l0 x3_1).f5) ((rd_T39 l0 x3_1).f6) ((rd_T39 l0 x3_1).f7) true _ A7.out).mono ?_); rintro e w10 ⟨rfl, hb⟩; refine ⟨_, rfl, ?_⟩; replace HB := bs HB hb; (try clear hb); (try clear hb2); (try clear hk); (try clear hi); have p171 : 0 ≤ (x3_1 : Int) := oda; have q171 : x3_1 < (l0.length : Int) := oda; obtain ⟨ad171, e171, hx171_0, hx171_1, hx171_2, hx171_3, hx171_4, hx171_5, hx171_6, hx171_7⟩ := at_T39 HR0.out x3_1 p171 q171; obtain rfl : ad169 = ad171 := (by injection e171); replace hx171_0 := bcl HB hx171_0; replace hx171_1 := bcl HB hx171_1; replace hx171_2 := bcl HB hx171_2; replace hx171_3 := bcl HB hx171_3; replace hx171_4 := bcl HB hx171_4; replace hx171_5 := bcl HB hx171_5; replace hx171_6 := bcl HB hx171_6; replace hx171_7 := bcl HB hx171_7; replace p171 := eq_true p171; replace q171 := eq_true q171) | (go_at_call 66; (with_reducible refine (spec_l2At.calls k1 _ _ l0 ((rd_T39 l0 x3_1).f0) t172 _ ?side1 ?side2 A9.out).mono ?_); (case side1 => exact cx (Kd.C_below HR0.out HB.out)); (case side2 => exact HC0.out); rintro e w' ⟨rfl, ⟨nd, rfl⟩⟩))
        go_meet
        case rel => exact ⟨_, ((t172 != x3_1)), (by first | rfl | (simp; done) | (simp [*]; done)), H', ⟨by have := HK1.out; first | omega | exact Nat.le_refl _⟩, (hbw HB)⟩
       ·replace c8 := Bool.eq_false_iff.mpr c8
        subst c8
        have H1 : (spec_RecOk.j1 k1 l0 x3_1 true) = some r := by rw [if_neg (show ¬ (false = true) by decide)] at H; exact H
        clear H
        have H := H1
        clear H1
        have H' := Aside0.mk H
        clear H
        have p169 : 0 ≤ (x3_1 : Int) := oda
        have q169 : x3_1 < (l0.length : Int) := oda
        obtain ⟨ad169, e169, hx169_0, hx169_1, hx169_2, hx169_3, hx169_4, hx169_5, hx169_6, hx169_7⟩ := at_T39 HR0.out x3_1 p169 q169
        cases e169
        replace hx169_0 := bcl HB hx169_0
        replace hx169_1 := bcl HB hx169_1
        replace hx169_2 := bcl HB hx169_2
        replace hx169_3 := bcl HB hx169_3
        replace hx169_4 := bcl HB hx169_4
        replace hx169_5 := bcl HB hx169_5
        replace hx169_6 := bcl HB hx169_6
        replace hx169_7 := bcl HB hx169_7
        replace p169 := eq_true p169
        replace q169 := eq_true q169
        go_wp2_with (first | ((with_reducible refine gate_callee (f := 32) rfl ?_); refine goesL_ (some 18) rfl rfl Try.func32 (by kernel_rfl) rfl #[.agg #[.string ((rd_T39 l0 x3_1).f0), .int .i64 ((rd_T39 l0 x3_1).f1), .string ((rd_T39 l0 x3_1).f2), .string ((rd_T39 l0 x3_1).f3), .int .i64 ((rd_T39 l0 x3_1).f4), .int .i64 ((rd_T39 l0 x3_1).f5), .string ((rd_T39 l0 x3_1).f6), .string ((rd_T39 l0 x3_1).f7)]] rfl mxp ?_; (with_reducible refine (spec_RecPhaseOk.calls k1 ((rd_T39 l0 x3_1).f0) ((rd_T39 l0 x3_1).f1) ((rd_T39 l0 x3_1).f2) ((rd_T39 l0 x3_1).f3) ((rd_T39 l0 x3_1).f4) ((rd_T39 l0 x3_1).f5) ((rd_T39 l0 x3_1).f6) ((rd_T39 l0 x3_1).f7) false _ A7.out).mono ?_); rintro e w11 ⟨rfl, hb⟩; refine ⟨_, rfl, ?_⟩; replace HB := bs HB hb; (try clear hb); (try clear hb2); (try clear hk); (try clear hi)))
        go_meet
        case rel => exact ⟨_, (true), (by first | rfl | (simp; done) | (simp [*]; done)), H', ⟨by have := HK1.out; first | omega | exact Nat.le_refl _⟩, (hbw HB)⟩
      ·rw [if_neg c6] at H
       exact absurd H (by simp)
     case rest =>
      clear HC5
      try clear p1
      try clear q1
      try clear hx1
      try clear c2
      try clear p2
      try clear c3
      try clear c4
      try clear c4b0
      try clear c6
      try clear c6b0
      try clear c8
      try clear hx169_0
      try clear hx169_1
      try clear hx169_2
      try clear hx169_3
      try clear hx169_4
      try clear hx169_5
      try clear hx169_6
      try clear hx169_7
      try clear hx171_0
      try clear hx171_1
      try clear hx171_2
      try clear hx171_3
      try clear hx171_4
      try clear hx171_5
      try clear hx171_6
      try clear hx171_7
      try clear p169
      try clear p171
      try clear p2
      try clear q169
      try clear q171
      obtain ⟨kq, x30_4, rfl, HA, HJ4, HB⟩ := hcut
      cases kq with
      | zero => exact absurd HA.out (by simp [spec_RecOk.j1])
      | succ kj4 =>
       have H := HA.out
       clear HA
       simp only [spec_RecOk.j1] at H
       by_cases c12 : x30_4 = true
       ·subst c12
        have H1 : (some false) = some r := by rw [if_pos rfl] at H; exact H
        clear H
        have H := H1
        clear H1
        obtain rfl := Option.some.inj H
        go_wp2
        go_ret
        exact ⟨exq, bw HB.out⟩
       ·replace c12 := Bool.eq_false_iff.mpr c12
        subst c12
        have H1 : (if 0 ≤ x3_1 then (if x3_1 < (l0.length : Int) then ((spec_RecEnd.f ((rd_T39 l0 x3_1).f6)).bind fun t174 => (if t174 = 0 then ((spec_l2At.f kj4 l0 ((rd_T39 l0 x3_1).f6)).bind fun t176 => (if t176 ≤ x3_1 then (some false) else ((spec_RecEnd.f ((rd_T39 l0 x3_1).f7)).bind fun t178 => (if t178 = 0 then ((spec_l2At.f kj4 l0 ((rd_T39 l0 x3_1).f7)).bind fun t180 => (if t180 ≤ x3_1 then (some false) else (spec_RecOk.l0 kj4 l0 (wrap64 (x3_1 + 1))))) else (spec_RecOk.l0 kj4 l0 (wrap64 (x3_1 + 1))))))) else ((spec_RecEnd.f ((rd_T39 l0 x3_1).f7)).bind fun t182 => (if t182 = 0 then ((spec_l2At.f kj4 l0 ((rd_T39 l0 x3_1).f7)).bind fun t184 => (if t184 ≤ x3_1 then (some false) else (spec_RecOk.l0 kj4 l0 (wrap64 (x3_1 + 1))))) else (spec_RecOk.l0 kj4 l0 (wrap64 (x3_1 + 1))))))) else (none)) else (none)) = some r := by rw [if_neg (show ¬ (false = true) by decide)] at H; exact H
        clear H
        have H := H1
        clear H1
        by_cases c13 : 0 ≤ x3_1
        ·rw [if_pos c13] at H
         have c13b0 : decide (0 ≤ x3_1) = true := decide_eq_true c13
         clear c13
         by_cases c14 : x3_1 < (l0.length : Int)
         ·rw [if_pos c14] at H
          have c14b0 : decide (x3_1 < (l0.length : Int)) = true := decide_eq_true c14
          clear c14
          replace H := Option.bind_eq_some_iff.mp H
          obtain ⟨t174, A150, H⟩ := H
          replace H : (if t174 = 0 then ((spec_l2At.f kj4 l0 ((rd_T39 l0 x3_1).f6)).bind fun t176 => (if t176 ≤ x3_1 then (some false) else ((spec_RecEnd.f ((rd_T39 l0 x3_1).f7)).bind fun t178 => (if t178 = 0 then ((spec_l2At.f kj4 l0 ((rd_T39 l0 x3_1).f7)).bind fun t180 => (if t180 ≤ x3_1 then (some false) else (spec_RecOk.l0 kj4 l0 (wrap64 (x3_1 + 1))))) else (spec_RecOk.l0 kj4 l0 (wrap64 (x3_1 + 1))))))) else ((spec_RecEnd.f ((rd_T39 l0 x3_1).f7)).bind fun t182 => (if t182 = 0 then ((spec_l2At.f kj4 l0 ((rd_T39 l0 x3_1).f7)).bind fun t184 => (if t184 ≤ x3_1 then (some false) else (spec_RecOk.l0 kj4 l0 (wrap64 (x3_1 + 1))))) else (spec_RecOk.l0 kj4 l0 (wrap64 (x3_1 + 1)))))) = some r := H
          have A15 := Aside0.mk A150
          clear A150
          by_cases c16 : t174 = 0
          ·rw [if_pos c16] at H
           have c16b0 : (t174 == 0) = true := beq_iff_eq.mpr c16
           have c16b1 : (t174 != 0) = false := bne_eq_false_iff_eq.mpr c16
           clear c16
           replace H := Option.bind_eq_some_iff.mp H
           obtain ⟨t176, A170, H⟩ := H
           replace H : (if t176 ≤ x3_1 then (some false) else ((spec_RecEnd.f ((rd_T39 l0 x3_1).f7)).bind fun t178 => (if t178 = 0 then ((spec_l2At.f kj4 l0 ((rd_T39 l0 x3_1).f7)).bind fun t180 => (if t180 ≤ x3_1 then (some false) else (spec_RecOk.l0 kj4 l0 (wrap64 (x3_1 + 1))))) else (spec_RecOk.l0 kj4 l0 (wrap64 (x3_1 + 1)))))) = some r := H
           have A17 := Aside0.mk A170
           clear A170
           by_cases c18 : t176 ≤ x3_1
           ·rw [if_pos c18] at H
            have c18b0 : decide (t176 ≤ x3_1) = true := decide_eq_true c18
            clear c18
            obtain rfl := Option.some.inj H
            have p173 : 0 ≤ (x3_1 : Int) := oda
            have q173 : x3_1 < (l0.length : Int) := oda
            obtain ⟨ad173, e173, hx173_0, hx173_1, hx173_2, hx173_3, hx173_4, hx173_5, hx173_6, hx173_7⟩ := at_T39 HR0.out x3_1 p173 q173
            cases e173
            replace hx173_0 := bcl HB hx173_0
            replace hx173_1 := bcl HB hx173_1
            replace hx173_2 := bcl HB hx173_2
            replace hx173_3 := bcl HB hx173_3
            replace hx173_4 := bcl HB hx173_4
            replace hx173_5 := bcl HB hx173_5
            replace hx173_6 := bcl HB hx173_6
            replace hx173_7 := bcl HB hx173_7
            replace p173 := eq_true p173
            replace q173 := eq_true q173
            go_wp2_with (first | ((with_reducible refine gate_callee (f := 18) rfl ?_); refine goesL_ (some 36) rfl rfl Try.func18 (by kernel_rfl) rfl #[.string ((rd_T39 l0 x3_1).f6)] rfl mxp ?_; (with_reducible refine (spec_RecEnd.calls ((rd_T39 l0 x3_1).f6) t174 _ A15.out).mono ?_); rintro e w' ⟨rfl, ⟨nd, rfl⟩⟩; refine ⟨_, rfl, ?_⟩; have p175 : 0 ≤ (x3_1 : Int) := oda; have q175 : x3_1 < (l0.length : Int) := oda; obtain ⟨ad175, e175, hx175_0, hx175_1, hx175_2, hx175_3, hx175_4, hx175_5, hx175_6, hx175_7⟩ := at_T39 HR0.out x3_1 p175 q175; obtain rfl : ad173 = ad175 := (by injection e175); replace hx175_0 := bcl HB hx175_0; replace hx175_1 := bcl HB hx175_1; replace hx175_2 := bcl HB hx175_2; replace hx175_3 := bcl HB hx175_3; replace hx175_4 := bcl HB hx175_4; replace hx175_5 := bcl HB hx175_5; replace hx175_6 := bcl HB hx175_6; replace hx175_7 := bcl HB hx175_7; replace p175 := eq_true p175; replace q175 := eq_true q175) | (go_at_call 66; (with_reducible refine (spec_l2At.calls kj4 _ _ l0 ((rd_T39 l0 x3_1).f6) t176 _ ?side1 ?side2 A17.out).mono ?_); (case side1 => repeat (first | exact (Kd.C_below HR0.out (bw HB.out)) | (with_reducible refine Kd.C_alloc ?_ _) | (with_reducible refine Kd.C_drewN ?_ _) | (with_reducible refine Kd.C_drew ?_))); (case side2 => exact HC0.out); rintro e w' ⟨rfl, ⟨nd, rfl⟩⟩))
            go_ret
            exact ⟨exq, bw HB.out⟩
           ·rw [if_neg c18] at H
            have c18b0 : decide (t176 ≤ x3_1) = false := decide_eq_false c18
            clear c18
            replace H := Option.bind_eq_some_iff.mp H
            obtain ⟨t178, A190, H⟩ := H
            replace H : (if t178 = 0 then ((spec_l2At.f kj4 l0 ((rd_T39 l0 x3_1).f7)).bind fun t180 => (if t180 ≤ x3_1 then (some false) else (spec_RecOk.l0 kj4 l0 (wrap64 (x3_1 + 1))))) else (spec_RecOk.l0 kj4 l0 (wrap64 (x3_1 + 1)))) = some r := H
            have A19 := Aside0.mk A190
            clear A190
            by_cases c20 : t178 = 0
            ·rw [if_pos c20] at H
             have c20b0 : (t178 == 0) = true := beq_iff_eq.mpr c20
             have c20b1 : (t178 != 0) = false := bne_eq_false_iff_eq.mpr c20
             clear c20
             replace H := Option.bind_eq_some_iff.mp H
             obtain ⟨t180, A210, H⟩ := H
             replace H : (if t180 ≤ x3_1 then (some false) else (spec_RecOk.l0 kj4 l0 (wrap64 (x3_1 + 1)))) = some r := H
             have A21 := Aside0.mk A210
             clear A210
             by_cases c22 : t180 ≤ x3_1
             ·rw [if_pos c22] at H
              have c22b0 : decide (t180 ≤ x3_1) = true := decide_eq_true c22
              clear c22
              obtain rfl := Option.some.inj H
              have p173 : 0 ≤ (x3_1 : Int) := oda
              have q173 : x3_1 < (l0.length : Int) := oda
              obtain ⟨ad173, e173, hx173_0, hx173_1, hx173_2, hx173_3, hx173_4, hx173_5, hx173_6, hx173_7⟩ := at_T39 HR0.out x3_1 p173 q173
              cases e173
              replace hx173_0 := bcl HB hx173_0
              replace hx173_1 := bcl HB hx173_1
              replace hx173_2 := bcl HB hx173_2
              replace hx173_3 := bcl HB hx173_3
              replace hx173_4 := bcl HB hx173_4
              replace hx173_5 := bcl HB hx173_5
              replace hx173_6 := bcl HB hx173_6
              replace hx173_7 := bcl HB hx173_7
              replace p173 := eq_true p173
              replace q173 := eq_true q173
              go_wp2_with (first | ((with_reducible refine gate_callee (f := 18) rfl ?_); refine goesL_ (some 36) rfl rfl Try.func18 (by kernel_rfl) rfl #[.string ((rd_T39 l0 x3_1).f6)] rfl mxp ?_; (with_reducible refine (spec_RecEnd.calls ((rd_T39 l0 x3_1).f6) t174 _ A15.out).mono ?_); rintro e w' ⟨rfl, ⟨nd, rfl⟩⟩; refine ⟨_, rfl, ?_⟩; have p175 : 0 ≤ (x3_1 : Int) := oda; have q175 : x3_1 < (l0.length : Int) := oda; obtain ⟨ad175, e175, hx175_0, hx175_1, hx175_2, hx175_3, hx175_4, hx175_5, hx175_6, hx175_7⟩ := at_T39 HR0.out x3_1 p175 q175; obtain rfl : ad173 = ad175 := (by injection e175); replace hx175_0 := bcl HB hx175_0; replace hx175_1 := bcl HB hx175_1; replace hx175_2 := bcl HB hx175_2; replace hx175_3 := bcl HB hx175_3; replace hx175_4 := bcl HB hx175_4; replace hx175_5 := bcl HB hx175_5; replace hx175_6 := bcl HB hx175_6; replace hx175_7 := bcl HB hx175_7; replace p175 := eq_true p175; replace q175 := eq_true q175) | (go_at_call 66; (with_reducible refine (spec_l2At.calls kj4 _ _ l0 ((rd_T39 l0 x3_1).f6) t176 _ ?side1 ?side2 A17.out).mono ?_); (case side1 => repeat (first | exact (Kd.C_below HR0.out (bw HB.out)) | (with_reducible refine Kd.C_alloc ?_ _) | (with_reducible refine Kd.C_drewN ?_ _) | (with_reducible refine Kd.C_drew ?_))); (case side2 => exact HC0.out); rintro e w' ⟨rfl, ⟨nd, rfl⟩⟩; have p177 : 0 ≤ (x3_1 : Int) := oda; have q177 : x3_1 < (l0.length : Int) := oda; obtain ⟨ad177, e177, hx177_0, hx177_1, hx177_2, hx177_3, hx177_4, hx177_5, hx177_6, hx177_7⟩ := at_T39 HR0.out x3_1 p177 q177; obtain rfl : ad173 = ad177 := (by injection e177); replace hx177_0 := bcl HB hx177_0; replace hx177_1 := bcl HB hx177_1; replace hx177_2 := bcl HB hx177_2; replace hx177_3 := bcl HB hx177_3; replace hx177_4 := bcl HB hx177_4; replace hx177_5 := bcl HB hx177_5; replace hx177_6 := bcl HB hx177_6; replace hx177_7 := bcl HB hx177_7; replace p177 := eq_true p177; replace q177 := eq_true q177) | (go_at_call 18; (with_reducible refine (spec_RecEnd.calls ((rd_T39 l0 x3_1).f7) t178 _ A19.out).mono ?_); rintro e w' ⟨rfl, ⟨nd, rfl⟩⟩; have p179 : 0 ≤ (x3_1 : Int) := oda; have q179 : x3_1 < (l0.length : Int) := oda; obtain ⟨ad179, e179, hx179_0, hx179_1, hx179_2, hx179_3, hx179_4, hx179_5, hx179_6, hx179_7⟩ := at_T39 HR0.out x3_1 p179 q179; obtain rfl : ad173 = ad179 := (by injection e179); replace hx179_0 := bcl HB hx179_0; replace hx179_1 := bcl HB hx179_1; replace hx179_2 := bcl HB hx179_2; replace hx179_3 := bcl HB hx179_3; replace hx179_4 := bcl HB hx179_4; replace hx179_5 := bcl HB hx179_5; replace hx179_6 := bcl HB hx179_6; replace hx179_7 := bcl HB hx179_7; replace p179 := eq_true p179; replace q179 := eq_true q179) | (go_at_call 66; (with_reducible refine (spec_l2At.calls kj4 _ _ l0 ((rd_T39 l0 x3_1).f7) t180 _ ?side1 ?side2 A21.out).mono ?_); (case side1 => repeat (first | exact (Kd.C_below HR0.out (bw HB.out)) | (with_reducible refine Kd.C_alloc ?_ _) | (with_reducible refine Kd.C_drewN ?_ _) | (with_reducible refine Kd.C_drew ?_))); (case side2 => exact HC0.out); rintro e w' ⟨rfl, ⟨nd, rfl⟩⟩))
              go_ret
              exact ⟨exq, bw HB.out⟩
             ·rw [if_neg c22] at H
              have c22b0 : decide (t180 ≤ x3_1) = false := decide_eq_false c22
              clear c22
              have H' := Aside0.mk H
              clear H
              have p173 : 0 ≤ (x3_1 : Int) := oda
              have q173 : x3_1 < (l0.length : Int) := oda
              obtain ⟨ad173, e173, hx173_0, hx173_1, hx173_2, hx173_3, hx173_4, hx173_5, hx173_6, hx173_7⟩ := at_T39 HR0.out x3_1 p173 q173
              cases e173
              replace hx173_0 := bcl HB hx173_0
              replace hx173_1 := bcl HB hx173_1
              replace hx173_2 := bcl HB hx173_2
              replace hx173_3 := bcl HB hx173_3
              replace hx173_4 := bcl HB hx173_4
              replace hx173_5 := bcl HB hx173_5
              replace hx173_6 := bcl HB hx173_6
              replace hx173_7 := bcl HB hx173_7
              replace p173 := eq_true p173
              replace q173 := eq_true q173
              go_wp2_with (first | ((with_reducible refine gate_callee (f := 18) rfl ?_); refine goesL_ (some 36) rfl rfl Try.func18 (by kernel_rfl) rfl #[.string ((rd_T39 l0 x3_1).f6)] rfl mxp ?_; (with_reducible refine (spec_RecEnd.calls ((rd_T39 l0 x3_1).f6) t174 _ A15.out).mono ?_); rintro e w' ⟨rfl, ⟨nd, rfl⟩⟩; refine ⟨_, rfl, ?_⟩; have p175 : 0 ≤ (x3_1 : Int) := oda; have q175 : x3_1 < (l0.length : Int) := oda; obtain ⟨ad175, e175, hx175_0, hx175_1, hx175_2, hx175_3, hx175_4, hx175_5, hx175_6, hx175_7⟩ := at_T39 HR0.out x3_1 p175 q175; obtain rfl : ad173 = ad175 := (by injection e175); replace hx175_0 := bcl HB hx175_0; replace hx175_1 := bcl HB hx175_1; replace hx175_2 := bcl HB hx175_2; replace hx175_3 := bcl HB hx175_3; replace hx175_4 := bcl HB hx175_4; replace hx175_5 := bcl HB hx175_5; replace hx175_6 := bcl HB hx175_6; replace hx175_7 := bcl HB hx175_7; replace p175 := eq_true p175; replace q175 := eq_true q175) | (go_at_call 66; (with_reducible refine (spec_l2At.calls kj4 _ _ l0 ((rd_T39 l0 x3_1).f6) t176 _ ?side1 ?side2 A17.out).mono ?_); (case side1 => repeat (first | exact (Kd.C_below HR0.out (bw HB.out)) | (with_reducible refine Kd.C_alloc ?_ _) | (with_reducible refine Kd.C_drewN ?_ _) | (with_reducible refine Kd.C_drew ?_))); (case side2 => exact HC0.out); rintro e w' ⟨rfl, ⟨nd, rfl⟩⟩; have p177 : 0 ≤ (x3_1 : Int) := oda; have q177 : x3_1 < (l0.length : Int) := oda; obtain ⟨ad177, e177, hx177_0, hx177_1, hx177_2, hx177_3, hx177_4, hx177_5, hx177_6, hx177_7⟩ := at_T39 HR0.out x3_1 p177 q177; obtain rfl : ad173 = ad177 := (by injection e177); replace hx177_0 := bcl HB hx177_0; replace hx177_1 := bcl HB hx177_1; replace hx177_2 := bcl HB hx177_2; replace hx177_3 := bcl HB hx177_3; replace hx177_4 := bcl HB hx177_4; replace hx177_5 := bcl HB hx177_5; replace hx177_6 := bcl HB hx177_6; replace hx177_7 := bcl HB hx177_7; replace p177 := eq_true p177; replace q177 := eq_true q177) | (go_at_call 18; (with_reducible refine (spec_RecEnd.calls ((rd_T39 l0 x3_1).f7) t178 _ A19.out).mono ?_); rintro e w' ⟨rfl, ⟨nd, rfl⟩⟩; have p179 : 0 ≤ (x3_1 : Int) := oda; have q179 : x3_1 < (l0.length : Int) := oda; obtain ⟨ad179, e179, hx179_0, hx179_1, hx179_2, hx179_3, hx179_4, hx179_5, hx179_6, hx179_7⟩ := at_T39 HR0.out x3_1 p179 q179; obtain rfl : ad173 = ad179 := (by injection e179); replace hx179_0 := bcl HB hx179_0; replace hx179_1 := bcl HB hx179_1; replace hx179_2 := bcl HB hx179_2; replace hx179_3 := bcl HB hx179_3; replace hx179_4 := bcl HB hx179_4; replace hx179_5 := bcl HB hx179_5; replace hx179_6 := bcl HB hx179_6; replace hx179_7 := bcl HB hx179_7; replace p179 := eq_true p179; replace q179 := eq_true q179) | (go_at_call 66; (with_reducible refine (spec_l2At.calls kj4 _ _ l0 ((rd_T39 l0 x3_1).f7) t180 _ ?side1 ?side2 A21.out).mono ?_); (case side1 => repeat (first | exact (Kd.C_below HR0.out (bw HB.out)) | (with_reducible refine Kd.C_alloc ?_ _) | (with_reducible refine Kd.C_drewN ?_ _) | (with_reducible refine Kd.C_drew ?_))); (case side2 => exact HC0.out); rintro e w' ⟨rfl, ⟨nd, rfl⟩⟩))
              go_roundg kj4
              case measure => have := HK1.out; have := HJ4.out; omega
              case rel => exact ⟨(wrap64 (x3_1 + 1)), (by first | rfl | (simp; done) | (simp [*]; done)), H', ⟨by have := HK1.out; have := HJ4.out; omega⟩, (hbw HB)⟩
            ·rw [if_neg c20] at H
             have c20b0 : (t178 == 0) = false := beq_eq_false_iff_ne.mpr c20
             have c20b1 : (t178 != 0) = true := bne_iff_ne.mpr c20
             have H' := Aside0.mk H
             clear H
             have p173 : 0 ≤ (x3_1 : Int) := oda
             have q173 : x3_1 < (l0.length : Int) := oda
             obtain ⟨ad173, e173, hx173_0, hx173_1, hx173_2, hx173_3, hx173_4, hx173_5, hx173_6, hx173_7⟩ := at_T39 HR0.out x3_1 p173 q173
             cases e173
             replace hx173_0 := bcl HB hx173_0
             replace hx173_1 := bcl HB hx173_1
             replace hx173_2 := bcl HB hx173_2
             replace hx173_3 := bcl HB hx173_3
             replace hx173_4 := bcl HB hx173_4
             replace hx173_5 := bcl HB hx173_5
             replace hx173_6 := bcl HB hx173_6
             replace hx173_7 := bcl HB hx173_7
             replace p173 := eq_true p173
             replace q173 := eq_true q173
             go_wp2_with (first | ((with_reducible refine gate_callee (f := 18) rfl ?_); refine goesL_ (some 36) rfl rfl Try.func18 (by kernel_rfl) rfl #[.string ((rd_T39 l0 x3_1).f6)] rfl mxp ?_; (with_reducible refine (spec_RecEnd.calls ((rd_T39 l0 x3_1).f6) t174 _ A15.out).mono ?_); rintro e w' ⟨rfl, ⟨nd, rfl⟩⟩; refine ⟨_, rfl, ?_⟩; have p175 : 0 ≤ (x3_1 : Int) := oda; have q175 : x3_1 < (l0.length : Int) := oda; obtain ⟨ad175, e175, hx175_0, hx175_1, hx175_2, hx175_3, hx175_4, hx175_5, hx175_6, hx175_7⟩ := at_T39 HR0.out x3_1 p175 q175; obtain rfl : ad173 = ad175 := (by injection e175); replace hx175_0 := bcl HB hx175_0; replace hx175_1 := bcl HB hx175_1; replace hx175_2 := bcl HB hx175_2; replace hx175_3 := bcl HB hx175_3; replace hx175_4 := bcl HB hx175_4; replace hx175_5 := bcl HB hx175_5; replace hx175_6 := bcl HB hx175_6; replace hx175_7 := bcl HB hx175_7; replace p175 := eq_true p175; replace q175 := eq_true q175) | (go_at_call 66; (with_reducible refine (spec_l2At.calls kj4 _ _ l0 ((rd_T39 l0 x3_1).f6) t176 _ ?side1 ?side2 A17.out).mono ?_); (case side1 => repeat (first | exact (Kd.C_below HR0.out (bw HB.out)) | (with_reducible refine Kd.C_alloc ?_ _) | (with_reducible refine Kd.C_drewN ?_ _) | (with_reducible refine Kd.C_drew ?_))); (case side2 => exact HC0.out); rintro e w' ⟨rfl, ⟨nd, rfl⟩⟩; have p177 : 0 ≤ (x3_1 : Int) := oda; have q177 : x3_1 < (l0.length : Int) := oda; obtain ⟨ad177, e177, hx177_0, hx177_1, hx177_2, hx177_3, hx177_4, hx177_5, hx177_6, hx177_7⟩ := at_T39 HR0.out x3_1 p177 q177; obtain rfl : ad173 = ad177 := (by injection e177); replace hx177_0 := bcl HB hx177_0; replace hx177_1 := bcl HB hx177_1; replace hx177_2 := bcl HB hx177_2; replace hx177_3 := bcl HB hx177_3; replace hx177_4 := bcl HB hx177_4; replace hx177_5 := bcl HB hx177_5; replace hx177_6 := bcl HB hx177_6; replace hx177_7 := bcl HB hx177_7; replace p177 := eq_true p177; replace q177 := eq_true q177) | (go_at_call 18; (with_reducible refine (spec_RecEnd.calls ((rd_T39 l0 x3_1).f7) t178 _ A19.out).mono ?_); rintro e w' ⟨rfl, ⟨nd, rfl⟩⟩))
             go_roundg kj4
             case measure => have := HK1.out; have := HJ4.out; omega
             case rel => exact ⟨(wrap64 (x3_1 + 1)), (by first | rfl | (simp; done) | (simp [*]; done)), H', ⟨by have := HK1.out; have := HJ4.out; omega⟩, (hbw HB)⟩
          ·rw [if_neg c16] at H
           have c16b0 : (t174 == 0) = false := beq_eq_false_iff_ne.mpr c16
           have c16b1 : (t174 != 0) = true := bne_iff_ne.mpr c16
           replace H := Option.bind_eq_some_iff.mp H
           obtain ⟨t182, A230, H⟩ := H
           replace H : (if t182 = 0 then ((spec_l2At.f kj4 l0 ((rd_T39 l0 x3_1).f7)).bind fun t184 => (if t184 ≤ x3_1 then (some false) else (spec_RecOk.l0 kj4 l0 (wrap64 (x3_1 + 1))))) else (spec_RecOk.l0 kj4 l0 (wrap64 (x3_1 + 1)))) = some r := H
           have A23 := Aside0.mk A230
           clear A230
           by_cases c24 : t182 = 0
           ·rw [if_pos c24] at H
            have c24b0 : (t182 == 0) = true := beq_iff_eq.mpr c24
            have c24b1 : (t182 != 0) = false := bne_eq_false_iff_eq.mpr c24
            clear c24
            replace H := Option.bind_eq_some_iff.mp H
            obtain ⟨t184, A250, H⟩ := H
            replace H : (if t184 ≤ x3_1 then (some false) else (spec_RecOk.l0 kj4 l0 (wrap64 (x3_1 + 1)))) = some r := H
            have A25 := Aside0.mk A250
            clear A250
            by_cases c26 : t184 ≤ x3_1
            ·rw [if_pos c26] at H
             have c26b0 : decide (t184 ≤ x3_1) = true := decide_eq_true c26
             clear c26
             obtain rfl := Option.some.inj H
             have p173 : 0 ≤ (x3_1 : Int) := oda
             have q173 : x3_1 < (l0.length : Int) := oda
             obtain ⟨ad173, e173, hx173_0, hx173_1, hx173_2, hx173_3, hx173_4, hx173_5, hx173_6, hx173_7⟩ := at_T39 HR0.out x3_1 p173 q173
             cases e173
             replace hx173_0 := bcl HB hx173_0
             replace hx173_1 := bcl HB hx173_1
             replace hx173_2 := bcl HB hx173_2
             replace hx173_3 := bcl HB hx173_3
             replace hx173_4 := bcl HB hx173_4
             replace hx173_5 := bcl HB hx173_5
             replace hx173_6 := bcl HB hx173_6
             replace hx173_7 := bcl HB hx173_7
             replace p173 := eq_true p173
             replace q173 := eq_true q173
             go_wp2_with (first | ((with_reducible refine gate_callee (f := 18) rfl ?_); refine goesL_ (some 36) rfl rfl Try.func18 (by kernel_rfl) rfl #[.string ((rd_T39 l0 x3_1).f6)] rfl mxp ?_; (with_reducible refine (spec_RecEnd.calls ((rd_T39 l0 x3_1).f6) t174 _ A15.out).mono ?_); rintro e w' ⟨rfl, ⟨nd, rfl⟩⟩; refine ⟨_, rfl, ?_⟩; have p181 : 0 ≤ (x3_1 : Int) := oda; have q181 : x3_1 < (l0.length : Int) := oda; obtain ⟨ad181, e181, hx181_0, hx181_1, hx181_2, hx181_3, hx181_4, hx181_5, hx181_6, hx181_7⟩ := at_T39 HR0.out x3_1 p181 q181; obtain rfl : ad173 = ad181 := (by injection e181); replace hx181_0 := bcl HB hx181_0; replace hx181_1 := bcl HB hx181_1; replace hx181_2 := bcl HB hx181_2; replace hx181_3 := bcl HB hx181_3; replace hx181_4 := bcl HB hx181_4; replace hx181_5 := bcl HB hx181_5; replace hx181_6 := bcl HB hx181_6; replace hx181_7 := bcl HB hx181_7; replace p181 := eq_true p181; replace q181 := eq_true q181) | (go_at_call 18; (with_reducible refine (spec_RecEnd.calls ((rd_T39 l0 x3_1).f7) t182 _ A23.out).mono ?_); rintro e w' ⟨rfl, ⟨nd, rfl⟩⟩; have p183 : 0 ≤ (x3_1 : Int) := oda; have q183 : x3_1 < (l0.length : Int) := oda; obtain ⟨ad183, e183, hx183_0, hx183_1, hx183_2, hx183_3, hx183_4, hx183_5, hx183_6, hx183_7⟩ := at_T39 HR0.out x3_1 p183 q183; obtain rfl : ad173 = ad183 := (by injection e183); replace hx183_0 := bcl HB hx183_0; replace hx183_1 := bcl HB hx183_1; replace hx183_2 := bcl HB hx183_2; replace hx183_3 := bcl HB hx183_3; replace hx183_4 := bcl HB hx183_4; replace hx183_5 := bcl HB hx183_5; replace hx183_6 := bcl HB hx183_6; replace hx183_7 := bcl HB hx183_7; replace p183 := eq_true p183; replace q183 := eq_true q183) | (go_at_call 66; (with_reducible refine (spec_l2At.calls kj4 _ _ l0 ((rd_T39 l0 x3_1).f7) t184 _ ?side1 ?side2 A25.out).mono ?_); (case side1 => repeat (first | exact (Kd.C_below HR0.out (bw HB.out)) | (with_reducible refine Kd.C_alloc ?_ _) | (with_reducible refine Kd.C_drewN ?_ _) | (with_reducible refine Kd.C_drew ?_))); (case side2 => exact HC0.out); rintro e w' ⟨rfl, ⟨nd, rfl⟩⟩))
             go_ret
             exact ⟨exq, bw HB.out⟩
            ·rw [if_neg c26] at H
             have c26b0 : decide (t184 ≤ x3_1) = false := decide_eq_false c26
             clear c26
             have H' := Aside0.mk H
             clear H
             have p173 : 0 ≤ (x3_1 : Int) := oda
             have q173 : x3_1 < (l0.length : Int) := oda
             obtain ⟨ad173, e173, hx173_0, hx173_1, hx173_2, hx173_3, hx173_4, hx173_5, hx173_6, hx173_7⟩ := at_T39 HR0.out x3_1 p173 q173
             cases e173
             replace hx173_0 := bcl HB hx173_0
             replace hx173_1 := bcl HB hx173_1
             replace hx173_2 := bcl HB hx173_2
             replace hx173_3 := bcl HB hx173_3
             replace hx173_4 := bcl HB hx173_4
             replace hx173_5 := bcl HB hx173_5
             replace hx173_6 := bcl HB hx173_6
             replace hx173_7 := bcl HB hx173_7
             replace p173 := eq_true p173
             replace q173 := eq_true q173
             go_wp2_with (first | ((with_reducible refine gate_callee (f := 18) rfl ?_); refine goesL_ (some 36) rfl rfl Try.func18 (by kernel_rfl) rfl #[.string ((rd_T39 l0 x3_1).f6)] rfl mxp ?_; (with_reducible refine (spec_RecEnd.calls ((rd_T39 l0 x3_1).f6) t174 _ A15.out).mono ?_); rintro e w' ⟨rfl, ⟨nd, rfl⟩⟩; refine ⟨_, rfl, ?_⟩; have p181 : 0 ≤ (x3_1 : Int) := oda; have q181 : x3_1 < (l0.length : Int) := oda; obtain ⟨ad181, e181, hx181_0, hx181_1, hx181_2, hx181_3, hx181_4, hx181_5, hx181_6, hx181_7⟩ := at_T39 HR0.out x3_1 p181 q181; obtain rfl : ad173 = ad181 := (by injection e181); replace hx181_0 := bcl HB hx181_0; replace hx181_1 := bcl HB hx181_1; replace hx181_2 := bcl HB hx181_2; replace hx181_3 := bcl HB hx181_3; replace hx181_4 := bcl HB hx181_4; replace hx181_5 := bcl HB hx181_5; replace hx181_6 := bcl HB hx181_6; replace hx181_7 := bcl HB hx181_7; replace p181 := eq_true p181; replace q181 := eq_true q181) | (go_at_call 18; (with_reducible refine (spec_RecEnd.calls ((rd_T39 l0 x3_1).f7) t182 _ A23.out).mono ?_); rintro e w' ⟨rfl, ⟨nd, rfl⟩⟩; have p183 : 0 ≤ (x3_1 : Int) := oda; have q183 : x3_1 < (l0.length : Int) := oda; obtain ⟨ad183, e183, hx183_0, hx183_1, hx183_2, hx183_3, hx183_4, hx183_5, hx183_6, hx183_7⟩ := at_T39 HR0.out x3_1 p183 q183; obtain rfl : ad173 = ad183 := (by injection e183); replace hx183_0 := bcl HB hx183_0; replace hx183_1 := bcl HB hx183_1; replace hx183_2 := bcl HB hx183_2; replace hx183_3 := bcl HB hx183_3; replace hx183_4 := bcl HB hx183_4; replace hx183_5 := bcl HB hx183_5; replace hx183_6 := bcl HB hx183_6; replace hx183_7 := bcl HB hx183_7; replace p183 := eq_true p183; replace q183 := eq_true q183) | (go_at_call 66; (with_reducible refine (spec_l2At.calls kj4 _ _ l0 ((rd_T39 l0 x3_1).f7) t184 _ ?side1 ?side2 A25.out).mono ?_); (case side1 => repeat (first | exact (Kd.C_below HR0.out (bw HB.out)) | (with_reducible refine Kd.C_alloc ?_ _) | (with_reducible refine Kd.C_drewN ?_ _) | (with_reducible refine Kd.C_drew ?_))); (case side2 => exact HC0.out); rintro e w' ⟨rfl, ⟨nd, rfl⟩⟩))
             go_roundg kj4
             case measure => have := HK1.out; have := HJ4.out; omega
             case rel => exact ⟨(wrap64 (x3_1 + 1)), (by first | rfl | (simp; done) | (simp [*]; done)), H', ⟨by have := HK1.out; have := HJ4.out; omega⟩, (hbw HB)⟩
           ·rw [if_neg c24] at H
            have c24b0 : (t182 == 0) = false := beq_eq_false_iff_ne.mpr c24
            have c24b1 : (t182 != 0) = true := bne_iff_ne.mpr c24
            have H' := Aside0.mk H
            clear H
            have p173 : 0 ≤ (x3_1 : Int) := oda
            have q173 : x3_1 < (l0.length : Int) := oda
            obtain ⟨ad173, e173, hx173_0, hx173_1, hx173_2, hx173_3, hx173_4, hx173_5, hx173_6, hx173_7⟩ := at_T39 HR0.out x3_1 p173 q173
            cases e173
            replace hx173_0 := bcl HB hx173_0
            replace hx173_1 := bcl HB hx173_1
            replace hx173_2 := bcl HB hx173_2
            replace hx173_3 := bcl HB hx173_3
            replace hx173_4 := bcl HB hx173_4
            replace hx173_5 := bcl HB hx173_5
            replace hx173_6 := bcl HB hx173_6
            replace hx173_7 := bcl HB hx173_7
            replace p173 := eq_true p173
            replace q173 := eq_true q173
            go_wp2_with (first | ((with_reducible refine gate_callee (f := 18) rfl ?_); refine goesL_ (some 36) rfl rfl Try.func18 (by kernel_rfl) rfl #[.string ((rd_T39 l0 x3_1).f6)] rfl mxp ?_; (with_reducible refine (spec_RecEnd.calls ((rd_T39 l0 x3_1).f6) t174 _ A15.out).mono ?_); rintro e w' ⟨rfl, ⟨nd, rfl⟩⟩; refine ⟨_, rfl, ?_⟩; have p181 : 0 ≤ (x3_1 : Int) := oda; have q181 : x3_1 < (l0.length : Int) := oda; obtain ⟨ad181, e181, hx181_0, hx181_1, hx181_2, hx181_3, hx181_4, hx181_5, hx181_6, hx181_7⟩ := at_T39 HR0.out x3_1 p181 q181; obtain rfl : ad173 = ad181 := (by injection e181); replace hx181_0 := bcl HB hx181_0; replace hx181_1 := bcl HB hx181_1; replace hx181_2 := bcl HB hx181_2; replace hx181_3 := bcl HB hx181_3; replace hx181_4 := bcl HB hx181_4; replace hx181_5 := bcl HB hx181_5; replace hx181_6 := bcl HB hx181_6; replace hx181_7 := bcl HB hx181_7; replace p181 := eq_true p181; replace q181 := eq_true q181) | (go_at_call 18; (with_reducible refine (spec_RecEnd.calls ((rd_T39 l0 x3_1).f7) t182 _ A23.out).mono ?_); rintro e w' ⟨rfl, ⟨nd, rfl⟩⟩))
            go_roundg kj4
            case measure => have := HK1.out; have := HJ4.out; omega
            case rel => exact ⟨(wrap64 (x3_1 + 1)), (by first | rfl | (simp; done) | (simp [*]; done)), H', ⟨by have := HK1.out; have := HJ4.out; omega⟩, (hbw HB)⟩
         ·rw [if_neg c14] at H
          exact absurd H (by simp)
        ·rw [if_neg c13] at H
         exact absurd H (by simp)
    ·rw [if_neg c4] at H
     have c4b0 : decide (x3_1 < (l0.length : Int)) = false := decide_eq_false c4
     clear c4
     obtain rfl := Option.some.inj H
     go_wp2
     go_ret
     exact ⟨exq, bw HB.out⟩
 ·replace c3 := Bool.eq_false_iff.mpr c3
  subst c3
  have H1 : (some false) = some r := by rw [if_neg (show ¬ (false = true) by decide)] at H; exact H
  clear H
  have H := H1
  clear H1
  obtain rfl := Option.some.inj H
  go_enter Try.func24, Try.ntmps24
  go_wp2_with (first | ((with_reducible refine gate_callee (f := 67) rfl ?_); refine goesL_ (some 6) rfl rfl Try.func67 (by kernel_rfl) rfl #[.int .i64 (l0.length : Int), .int .i64 1, .int .i64 12] rfl mxp ?_; (with_reducible refine (spec_l1In.calls (l0.length : Int) 1 12 false _ A2.out).mono ?_); rintro e w' ⟨rfl, ⟨nd, rfl⟩⟩; refine ⟨_, rfl, ?_⟩))
  go_ret
  exact ⟨exq, bw HB.out⟩

end Go.Proofs.Ytdkologncoofdaa.P
-- Px38
namespace Go.Proofs.Ytdkologncoofdaa.P
open Go.RowKit Go.Proofs.YtdkologncoofdaaW.PrintWords Go.Proofs.YtdkologncoofdaaW.PrintLast Go.Proofs.YtdkologncoofdaaW.PrintMore
attribute [local go_sem] max2_int min2_int max_two min_two max_three min_three max_four min_four   -- for this text's walks alone
set_option linter.unusedVariables false
set_option linter.unusedSimpArgs false

/-! ### spec_l2Bound: function 84 -/
def spec_l2Bound.f : Nat → List (S39) → ByteArray → Option (Int)
 | 0, _, _ => none
 | k + 1, l0, a1 => (spec_l2At.f k l0 a1).bind fun t389 => (if t389 < 0 then (some 0) else (if 0 ≤ t389 then (if t389 < (l0.length : Int) then ((spec_l2Bound.f k l0 ((rd_T39 l0 t389).f6)).bind fun t391 => ((spec_l2Bound.f k l0 ((rd_T39 l0 t389).f7)).bind fun t393 => (if t391 < t393 then (some (wrap64 (t393 + ((rd_T39 l0 t389).f5)))) else (some (wrap64 (t391 + ((rd_T39 l0 t389).f5))))))) else (none)) else (none)))
theorem spec_l2Bound.mono_l : ∀ k, (∀ y0 y1, LeO (spec_l2Bound.f k y0 y1) (spec_l2Bound.f (k + 1) y0 y1))
 | 0 => fun _ _ r h => by simp [spec_l2Bound.f] at h
 | k + 1 => by
  have ih0 := spec_l2Bound.mono_l k
  ·intro y0 y1
   unfold spec_l2Bound.f
   repeat' first
   | (with_reducible exact ih0 _ _)
   | (with_reducible exact spec_l2At.mono _ _ _)
   | (with_reducible exact LeO.refl _)
   | (with_reducible exact LeO.none _)
   | (with_reducible refine LeO.ite ?_ ?_)
   | (with_reducible refine LeO.bind ?_ (fun _ => ?_))
   | exact ih0 _ _
   | exact spec_l2At.mono _ _ _
   | exact LeO.none _
   | refine LeO.ite ?_ ?_
   | refine LeO.bind ?_ (fun _ => ?_)
theorem spec_l2Bound.mono : ∀ a0 a1 k, LeO (spec_l2Bound.f k a0 a1) (spec_l2Bound.f (k + 1) a0 a1) := by
 intro a0 a1 k
 have ih0 := spec_l2Bound.mono_l k
 exact ih0 a0 a1
set_option maxHeartbeats 8000000 in
set_option maxRecDepth 100000 in
theorem spec_l2Bound.calls (k : Nat) : ∀ (A0 : Option Addr) (c0 : Nat) (l0 : List (S39)) (a1 : ByteArray) (r : Int) (w : World) (hr0 : Kd.C k39 w A0 l0.length l0) (hc0 : l0.length ≤ c0) (h : spec_l2Bound.f k l0 a1 = some r),
  Calls Try.prog 84 #[.slice A0 l0.length c0, .string a1] w fun e w' => e = .returned (.int .i64 r) ∧ Drawn0 w w' := by
 induction k using Nat.strongRecOn with
 | _ k ih =>
 intro A0 c0 l0 a1 r w hr0 hc0 h
 cases k with
 | zero => exact absurd h (by simp [spec_l2Bound.f])
 | succ k =>
 simp only [spec_l2Bound.f] at h
 have HR0 := Aside0.mk hr0
 have HC0 := Aside0.mk hc0
 clear hr0 hc0
 have H : ((spec_l2At.f k l0 a1).bind fun t389 => (if t389 < 0 then (some 0) else (if 0 ≤ t389 then (if t389 < (l0.length : Int) then ((spec_l2Bound.f k l0 ((rd_T39 l0 t389).f6)).bind fun t391 => ((spec_l2Bound.f k l0 ((rd_T39 l0 t389).f7)).bind fun t393 => (if t391 < t393 then (some (wrap64 (t393 + ((rd_T39 l0 t389).f5)))) else (some (wrap64 (t391 + ((rd_T39 l0 t389).f5))))))) else (none)) else (none)))) = some r := h
 clear h
 replace H := Option.bind_eq_some_iff.mp H
 obtain ⟨t389, A30, H⟩ := H
 replace H : (if t389 < 0 then (some 0) else (if 0 ≤ t389 then (if t389 < (l0.length : Int) then ((spec_l2Bound.f k l0 ((rd_T39 l0 t389).f6)).bind fun t391 => ((spec_l2Bound.f k l0 ((rd_T39 l0 t389).f7)).bind fun t393 => (if t391 < t393 then (some (wrap64 (t393 + ((rd_T39 l0 t389).f5)))) else (some (wrap64 (t391 + ((rd_T39 l0 t389).f5))))))) else (none)) else (none))) = some r := H
 have A3 := Aside0.mk A30
 clear A30
 by_cases c4 : t389 < 0
 ·rw [if_pos c4] at H
  have c4b0 : decide (t389 < 0) = true := decide_eq_true c4
  clear c4
  obtain rfl := Option.some.inj H
  go_enter Try.func84, Try.ntmps84
  go_wp2_with (first | ((with_reducible refine gate_callee (f := 66) rfl ?_); refine goesL_ (some 10) rfl rfl Try.func66 (by kernel_rfl) rfl #[.slice A0 l0.length c0, .string a1] rfl mxp ?_; (with_reducible refine (spec_l2At.calls k _ _ l0 a1 t389 _ ?side1 ?side2 A3.out).mono ?_); (case side1 => exact cx HR0.out); (case side2 => exact HC0.out); rintro e w' ⟨rfl, ⟨nd, rfl⟩⟩; refine ⟨_, rfl, ?_⟩))
  go_ret
  exact ⟨by first | rfl | (simp; done) | (simp [*]; done), by repeat (first | exact Drawn0.refl _ | apply Drawn0.step)⟩
 ·rw [if_neg c4] at H
  have c4b0 : decide (t389 < 0) = false := decide_eq_false c4
  clear c4
  by_cases c5 : 0 ≤ t389
  ·rw [if_pos c5] at H
   have c5b0 : decide (0 ≤ t389) = true := decide_eq_true c5
   clear c5
   by_cases c6 : t389 < (l0.length : Int)
   ·rw [if_pos c6] at H
    have c6b0 : decide (t389 < (l0.length : Int)) = true := decide_eq_true c6
    clear c6
    replace H := Option.bind_eq_some_iff.mp H
    obtain ⟨t391, A70, H⟩ := H
    replace H : ((spec_l2Bound.f k l0 ((rd_T39 l0 t389).f7)).bind fun t393 => (if t391 < t393 then (some (wrap64 (t393 + ((rd_T39 l0 t389).f5)))) else (some (wrap64 (t391 + ((rd_T39 l0 t389).f5)))))) = some r := H
    have A7 := Aside0.mk A70
    clear A70
    replace H := Option.bind_eq_some_iff.mp H
    obtain ⟨t393, A80, H⟩ := H
    replace H : (if t391 < t393 then (some (wrap64 (t393 + ((rd_T39 l0 t389).f5)))) else (some (wrap64 (t391 + ((rd_T39 l0 t389).f5))))) = some r := H
    have A8 := Aside0.mk A80
    clear A80
    by_cases c9 : t391 < t393
    ·rw [if_pos c9] at H
     have c9b0 : decide (t391 < t393) = true := decide_eq_true c9
     clear c9
     obtain rfl := Option.some.inj H
     go_enter Try.func84, Try.ntmps84
     go_wp2_with (first | ((with_reducible refine gate_callee (f := 66) rfl ?_); refine goesL_ (some 10) rfl rfl Try.func66 (by kernel_rfl) rfl #[.slice A0 l0.length c0, .string a1] rfl mxp ?_; (with_reducible refine (spec_l2At.calls k _ _ l0 a1 t389 _ ?side1 ?side2 A3.out).mono ?_); (case side1 => exact cx HR0.out); (case side2 => exact HC0.out); rintro e w' ⟨rfl, ⟨nd, rfl⟩⟩; refine ⟨_, rfl, ?_⟩; have p390 : 0 ≤ (t389 : Int) := oda; have q390 : t389 < (l0.length : Int) := oda; obtain ⟨ad390, e390, hx390_0, hx390_1, hx390_2, hx390_3, hx390_4, hx390_5, hx390_6, hx390_7⟩ := at_T39 HR0.out t389 p390 q390; cases e390; replace p390 := eq_true p390; replace q390 := eq_true q390) | ((with_reducible refine gate_callee (f := 84) rfl ?_); refine goesL_ (some 19) rfl rfl Try.func84 (by kernel_rfl) rfl #[.slice (some ad390) l0.length c0, .string ((rd_T39 l0 t389).f6)] rfl mxp ?_; (with_reducible refine (ih k (by omega) _ _ l0 ((rd_T39 l0 t389).f6) t391 _ ?side1 ?side2 A7.out).mono ?_); (case side1 => exact cx HR0.out); (case side2 => exact HC0.out); rintro e w' ⟨rfl, ⟨nd, rfl⟩⟩; refine ⟨_, rfl, ?_⟩; have p392 : 0 ≤ (t389 : Int) := oda; have q392 : t389 < (l0.length : Int) := oda; obtain ⟨ad392, e392, hx392_0, hx392_1, hx392_2, hx392_3, hx392_4, hx392_5, hx392_6, hx392_7⟩ := at_T39 HR0.out t389 p392 q392; obtain rfl : ad390 = ad392 := (by injection e392); replace p392 := eq_true p392; replace q392 := eq_true q392) | ((with_reducible refine gate_callee (f := 84) rfl ?_); refine goesL_ (some 26) rfl rfl Try.func84 (by kernel_rfl) rfl #[.slice (some ad390) l0.length c0, .string ((rd_T39 l0 t389).f7)] rfl mxp ?_; (with_reducible refine (ih k (by omega) _ _ l0 ((rd_T39 l0 t389).f7) t393 _ ?side1 ?side2 A8.out).mono ?_); (case side1 => exact cx HR0.out); (case side2 => exact HC0.out); rintro e w' ⟨rfl, ⟨nd, rfl⟩⟩; refine ⟨_, rfl, ?_⟩; have p394 : 0 ≤ (t389 : Int) := oda; have q394 : t389 < (l0.length : Int) := oda; obtain ⟨ad394, e394, hx394_0, hx394_1, hx394_2, hx394_3, hx394_4, hx394_5, hx394_6, hx394_7⟩ := at_T39 HR0.out t389 p394 q394; obtain rfl : ad390 = ad394 := (by injection e394); replace p394 := eq_true p394; replace q394 := eq_true q394))
     go_ret
     exact ⟨by first | rfl | (simp; done) | (simp [*]; done), by repeat (first | exact Drawn0.refl _ | apply Drawn0.step)⟩
    ·rw [if_neg c9] at H
     have c9b0 : decide (t391 < t393) = false := decide_eq_false c9
     clear c9
     obtain rfl := Option.some.inj H
     go_enter Try.func84, Try.ntmps84
     go_wp2_with (first | ((with_reducible refine gate_callee (f := 66) rfl ?_); refine goesL_ (some 10) rfl rfl Try.func66 (by kernel_rfl) rfl #[.slice A0 l0.length c0, .string a1] rfl mxp ?_; (with_reducible refine (spec_l2At.calls k _ _ l0 a1 t389 _ ?side1 ?side2 A3.out).mono ?_); (case side1 => exact cx HR0.out); (case side2 => exact HC0.out); rintro e w' ⟨rfl, ⟨nd, rfl⟩⟩; refine ⟨_, rfl, ?_⟩; have p390 : 0 ≤ (t389 : Int) := oda; have q390 : t389 < (l0.length : Int) := oda; obtain ⟨ad390, e390, hx390_0, hx390_1, hx390_2, hx390_3, hx390_4, hx390_5, hx390_6, hx390_7⟩ := at_T39 HR0.out t389 p390 q390; cases e390; replace p390 := eq_true p390; replace q390 := eq_true q390) | ((with_reducible refine gate_callee (f := 84) rfl ?_); refine goesL_ (some 19) rfl rfl Try.func84 (by kernel_rfl) rfl #[.slice (some ad390) l0.length c0, .string ((rd_T39 l0 t389).f6)] rfl mxp ?_; (with_reducible refine (ih k (by omega) _ _ l0 ((rd_T39 l0 t389).f6) t391 _ ?side1 ?side2 A7.out).mono ?_); (case side1 => exact cx HR0.out); (case side2 => exact HC0.out); rintro e w' ⟨rfl, ⟨nd, rfl⟩⟩; refine ⟨_, rfl, ?_⟩; have p392 : 0 ≤ (t389 : Int) := oda; have q392 : t389 < (l0.length : Int) := oda; obtain ⟨ad392, e392, hx392_0, hx392_1, hx392_2, hx392_3, hx392_4, hx392_5, hx392_6, hx392_7⟩ := at_T39 HR0.out t389 p392 q392; obtain rfl : ad390 = ad392 := (by injection e392); replace p392 := eq_true p392; replace q392 := eq_true q392) | ((with_reducible refine gate_callee (f := 84) rfl ?_); refine goesL_ (some 26) rfl rfl Try.func84 (by kernel_rfl) rfl #[.slice (some ad390) l0.length c0, .string ((rd_T39 l0 t389).f7)] rfl mxp ?_; (with_reducible refine (ih k (by omega) _ _ l0 ((rd_T39 l0 t389).f7) t393 _ ?side1 ?side2 A8.out).mono ?_); (case side1 => exact cx HR0.out); (case side2 => exact HC0.out); rintro e w' ⟨rfl, ⟨nd, rfl⟩⟩; refine ⟨_, rfl, ?_⟩; have p395 : 0 ≤ (t389 : Int) := oda; have q395 : t389 < (l0.length : Int) := oda; obtain ⟨ad395, e395, hx395_0, hx395_1, hx395_2, hx395_3, hx395_4, hx395_5, hx395_6, hx395_7⟩ := at_T39 HR0.out t389 p395 q395; obtain rfl : ad390 = ad395 := (by injection e395); replace p395 := eq_true p395; replace q395 := eq_true q395))
     go_ret
     exact ⟨by first | rfl | (simp; done) | (simp [*]; done), by repeat (first | exact Drawn0.refl _ | apply Drawn0.step)⟩
   ·rw [if_neg c6] at H
    exact absurd H (by simp)
  ·rw [if_neg c5] at H
   exact absurd H (by simp)


/-! ### spec_l4At: function 86 -/
def spec_l4At.f (k : Nat) (l0 : List (S39)) (a1 : ByteArray) (a2 : Int) : Option (ByteArray × Int × Int) := (spec_l2Bound.f k l0 a1).bind fun t439 => (some (a1, a2, t439))
theorem spec_l4At.mono : ∀ a0 a1 a2 k, LeO (spec_l4At.f k a0 a1 a2) (spec_l4At.f (k + 1) a0 a1 a2) := by
 intro a0 a1 a2 k
 unfold spec_l4At.f
 repeat' first
   | (with_reducible exact spec_l2Bound.mono _ _ _)
   | (with_reducible exact LeO.refl _)
   | (with_reducible exact LeO.none _)
   | (with_reducible refine LeO.ite ?_ ?_)
   | (with_reducible refine LeO.bind ?_ (fun _ => ?_))
   | exact spec_l2Bound.mono _ _ _
   | exact LeO.none _
   | refine LeO.ite ?_ ?_
   | refine LeO.bind ?_ (fun _ => ?_)
set_option maxHeartbeats 8000000 in
set_option maxRecDepth 100000 in
theorem spec_l4At.calls (k : Nat) (A0 : Option Addr) (c0 : Nat) (l0 : List (S39)) (a1 : ByteArray) (a2 : Int) (r1 : ByteArray) (r2 : Int) (r3 : Int) (w : World) (hr0 : Kd.C k39 w A0 l0.length l0) (hc0 : l0.length ≤ c0) (h : spec_l4At.f k l0 a1 a2 = some (r1, r2, r3)) :
  Calls Try.prog 86 #[.slice A0 l0.length c0, .string a1, .int .i64 a2] w fun e w' => e = .returned (.agg #[.string r1, .int .i64 r2, .int .i64 r3]) ∧ Below w.heap.size w w' := by
 have hu31 := Try.underlying31
 have HR0 := Aside0.mk hr0
 have HC0 := Aside0.mk hc0
 clear hr0 hc0
 have HB := Aside0.mk (Below.refl w.heap.size w)
 have H : ((spec_l2Bound.f k l0 a1).bind fun t439 => (some (a1, a2, t439))) = some (r1, r2, r3) := h
 clear h
 replace H := Option.bind_eq_some_iff.mp H
 obtain ⟨t439, A40, H⟩ := H
 replace H : (some (a1, a2, t439)) = some (r1, r2, r3) := H
 have A4 := Aside0.mk A40
 clear A40
 simp only [Option.some.injEq, Prod.mk.injEq] at H
 obtain ⟨rfl, rfl, rfl⟩ := H
 go_enter Try.func86, Try.ntmps86
 go_wp2_with (first | ((with_reducible refine gate_dst (N := 6) rfl ?_); refine box_event ?hg (N := 6) ?hd (cs := #[.string (⟨#[]⟩ : ByteArray), .int .i64 0, .int .i64 0]) (t := 31) ?hr ?_; (case hd => rfl); (case hg => rfl); (case hr => first | (go_simp; done) | (go_simp; rfl)); intro gb438 hg w5 hbox hb; have n0_ := bs HB hb; have n1_ := Aside0.mk (hbox); have n2_ := gh hg HB; have n3_ := gh hg HB; clear HB; have HB := n0_; have BK438 := n1_; have GW438 := n2_; have GE438 := n3_; clear n0_ n1_ n2_ n3_; clear hb hbox hg) | ((with_reducible refine gate_callee (f := 84) rfl ?_); refine goesL_ (some 11) rfl rfl Try.func84 (by kernel_rfl) rfl #[.slice A0 l0.length c0, .string a1] rfl mxp ?_; (with_reducible refine (spec_l2Bound.calls k _ _ l0 a1 t439 _ ?side1 ?side2 A4.out).mono ?_); (case side1 => exact cx (Kd.C_below HR0.out HB.out)); (case side2 => exact HC0.out); rintro e w' ⟨rfl, ⟨nd, rfl⟩⟩; refine ⟨_, rfl, ?_⟩; (try (rw [drewN_self w5]; generalize hq_ : World.drewN w5 _ = w5; have n0_ : Aside0 (w5.heap[gb438]? = some (.cells #[.string (⟨#[]⟩ : ByteArray), .int .i64 0, .int .i64 0] 31 (0, 0))) := ⟨by rw [← hq_]; exact (bx BK438.out)⟩; have n1_ : Aside0 (Below w.heap.size w w5) := ⟨by rw [← hq_]; exact (bw HB.out)⟩; clear BK438 HB hq_; have BK438 := n0_; have HB := n1_; clear n0_ n1_)); have hcz6_0 := b0 BK438; have hcz6_1 := b1 BK438; have hcz6_2 := b2 BK438; have hfz6_0 := fz BK438 0; have hfz6_1 := fz BK438 1; have hfz6_2 := fz BK438 2))
 refine bodyPost_ret (results_cell_row rfl _ _ gb438 31 #[.string a1, .int .i64 a2, .int .i64 t439] (0, 0) _ rfl (by refine bx ?_; refine blk_put (cs := #[.string a1, .int .i64 a2, .int .i64 0]) ?_ 2 _ rfl; refine bx ?_; refine blk_put (cs := #[.string a1, .int .i64 0, .int .i64 0]) ?_ 1 _ rfl; refine bx ?_; refine blk_put (cs := #[.string (⟨#[]⟩ : ByteArray), .int .i64 0, .int .i64 0]) ?_ 0 _ rfl; refine bx ?_; exact BK438.out) Try.underlying31 rfl (by kernel_rfl)) rfl ?_
 exact ⟨exq, bw HB.out⟩


/-! ### spec_l4Go: function 88 -/
mutual
def spec_l4Go.j0 : Nat → List (S39) → Int → Bool → Bool → ByteArray → Int → Int → ByteArray → Int → ByteArray → ByteArray → Int → Int → ByteArray → ByteArray → Option (ByteArray × Int × Int)
 | 0, _, _, _, _, _, _, _, _, _, _, _, _, _, _, _ => none
 | k + 1, x0, x10, x11, x31, x642000, x642001, x642002, x646000, x646001, x646002, x646003, x646004, x646005, x646006, x646007 => if x31 = true then (spec_l4Go.j1 k x0 x646004 x11 x642000 x642001 x642002 x646000 x646001 x646002 x646003 x646004 x646005 x646006 x646007) else (spec_l4Go.j1 k x0 x10 x11 x642000 x642001 x642002 x646000 x646001 x646002 x646003 x646004 x646005 x646006 x646007)
def spec_l4Go.j1 : Nat → List (S39) → Int → Bool → ByteArray → Int → Int → ByteArray → Int → ByteArray → ByteArray → Int → Int → ByteArray → ByteArray → Option (ByteArray × Int × Int)
 | 0, _, _, _, _, _, _, _, _, _, _, _, _, _, _ => none
 | k + 1, x0, x10, x11, x642000, x642001, x642002, x646000, x646001, x646002, x646003, x646004, x646005, x646006, x646007 => if x10 > x646005 then (spec_l4Go.j2 k x0 x646005 false x642000 x642001 x642002 x646000 x646001 x646002 x646003 x646004 x646005 x646006 x646007) else (spec_l4Go.j2 k x0 x10 x11 x642000 x642001 x642002 x646000 x646001 x646002 x646003 x646004 x646005 x646006 x646007)
def spec_l4Go.j2 : Nat → List (S39) → Int → Bool → ByteArray → Int → Int → ByteArray → Int → ByteArray → ByteArray → Int → Int → ByteArray → ByteArray → Option (ByteArray × Int × Int)
 | 0, _, _, _, _, _, _, _, _, _, _, _, _, _, _ => none
 | k + 1, x0, x10, x11, x642000, x642001, x642002, x646000, x646001, x646002, x646003, x646004, x646005, x646006, x646007 => if x10 < 0 then (spec_l4Go.j3 k x0 0 x11 x642000 x642001 x642002 x646000 x646001 x646002 x646003 x646004 x646005 x646006 x646007) else (spec_l4Go.j3 k x0 x10 x11 x642000 x642001 x642002 x646000 x646001 x646002 x646003 x646004 x646005 x646006 x646007)
def spec_l4Go.j3 : Nat → List (S39) → Int → Bool → ByteArray → Int → Int → ByteArray → Int → ByteArray → ByteArray → Int → Int → ByteArray → ByteArray → Option (ByteArray × Int × Int)
 | 0, _, _, _, _, _, _, _, _, _, _, _, _, _, _ => none
 | k + 1, x0, x10, x11, x642000, x642001, x642002, x646000, x646001, x646002, x646003, x646004, x646005, x646006, x646007 => if x11 = true then ((spec_l4At.f k x0 x646006 (wrap64 (x642001 + x10))).bind fun bt646 => (some (bt646.1, bt646.2.1, bt646.2.2))) else ((spec_l4At.f k x0 x646007 (wrap64 (x642001 + x10))).bind fun bt649 => (some (bt649.1, bt649.2.1, bt649.2.2)))
end
def spec_l4Go.f (k : Nat) (l0 : List (S39)) (a1_0 : ByteArray) (a1_1 : Int) (a1_2 : Int) (a2 : Int) (a3_0 : Int) (a3_1 : Bool) : Option (ByteArray × Int × Int) := if 0 ≤ a2 then (if a2 < (l0.length : Int) then (if ((rd_T39 l0 a2).f1) = 3 then (if a3_1 = true then (spec_l4Go.j0 k l0 a3_0 a3_1 (decide (a3_0 < ((rd_T39 l0 a2).f4))) a1_0 a1_1 a1_2 ((rd_T39 l0 a2).f0) ((rd_T39 l0 a2).f1) ((rd_T39 l0 a2).f2) ((rd_T39 l0 a2).f3) ((rd_T39 l0 a2).f4) ((rd_T39 l0 a2).f5) ((rd_T39 l0 a2).f6) ((rd_T39 l0 a2).f7)) else (spec_l4Go.j0 k l0 a3_0 a3_1 false a1_0 a1_1 a1_2 ((rd_T39 l0 a2).f0) ((rd_T39 l0 a2).f1) ((rd_T39 l0 a2).f2) ((rd_T39 l0 a2).f3) ((rd_T39 l0 a2).f4) ((rd_T39 l0 a2).f5) ((rd_T39 l0 a2).f6) ((rd_T39 l0 a2).f7))) else (spec_l4Go.j0 k l0 a3_0 a3_1 false a1_0 a1_1 a1_2 ((rd_T39 l0 a2).f0) ((rd_T39 l0 a2).f1) ((rd_T39 l0 a2).f2) ((rd_T39 l0 a2).f3) ((rd_T39 l0 a2).f4) ((rd_T39 l0 a2).f5) ((rd_T39 l0 a2).f6) ((rd_T39 l0 a2).f7))) else (none)) else (none)
theorem spec_l4Go.mono_l : ∀ k, (∀ y0 y1 y2 y3 y4 y5 y6 y7 y8 y9 y10 y11 y12 y13 y14, LeO (spec_l4Go.j0 k y0 y1 y2 y3 y4 y5 y6 y7 y8 y9 y10 y11 y12 y13 y14) (spec_l4Go.j0 (k + 1) y0 y1 y2 y3 y4 y5 y6 y7 y8 y9 y10 y11 y12 y13 y14)) ∧ (∀ y0 y1 y2 y3 y4 y5 y6 y7 y8 y9 y10 y11 y12 y13, LeO (spec_l4Go.j1 k y0 y1 y2 y3 y4 y5 y6 y7 y8 y9 y10 y11 y12 y13) (spec_l4Go.j1 (k + 1) y0 y1 y2 y3 y4 y5 y6 y7 y8 y9 y10 y11 y12 y13)) ∧ (∀ y0 y1 y2 y3 y4 y5 y6 y7 y8 y9 y10 y11 y12 y13, LeO (spec_l4Go.j2 k y0 y1 y2 y3 y4 y5 y6 y7 y8 y9 y10 y11 y12 y13) (spec_l4Go.j2 (k + 1) y0 y1 y2 y3 y4 y5 y6 y7 y8 y9 y10 y11 y12 y13)) ∧ (∀ y0 y1 y2 y3 y4 y5 y6 y7 y8 y9 y10 y11 y12 y13, LeO (spec_l4Go.j3 k y0 y1 y2 y3 y4 y5 y6 y7 y8 y9 y10 y11 y12 y13) (spec_l4Go.j3 (k + 1) y0 y1 y2 y3 y4 y5 y6 y7 y8 y9 y10 y11 y12 y13))
 | 0 => ⟨fun _ _ _ _ _ _ _ _ _ _ _ _ _ _ _ r h => by simp [spec_l4Go.j0] at h, fun _ _ _ _ _ _ _ _ _ _ _ _ _ _ r h => by simp [spec_l4Go.j1] at h, fun _ _ _ _ _ _ _ _ _ _ _ _ _ _ r h => by simp [spec_l4Go.j2] at h, fun _ _ _ _ _ _ _ _ _ _ _ _ _ _ r h => by simp [spec_l4Go.j3] at h⟩
 | k + 1 => by
  obtain ⟨ih0, ih1, ih2, ih3⟩ := spec_l4Go.mono_l k
  refine ⟨?_, ?_, ?_, ?_⟩
  ·intro y0 y1 y2 y3 y4 y5 y6 y7 y8 y9 y10 y11 y12 y13 y14
   unfold spec_l4Go.j0
   repeat' first
   | (with_reducible exact ih0 _ _ _ _ _ _ _ _ _ _ _ _ _ _ _)
   | (with_reducible exact ih1 _ _ _ _ _ _ _ _ _ _ _ _ _ _)
   | (with_reducible exact ih2 _ _ _ _ _ _ _ _ _ _ _ _ _ _)
   | (with_reducible exact ih3 _ _ _ _ _ _ _ _ _ _ _ _ _ _)
   | (with_reducible exact spec_l4At.mono _ _ _ _)
   | (with_reducible exact LeO.refl _)
   | (with_reducible exact LeO.none _)
   | (with_reducible refine LeO.ite ?_ ?_)
   | (with_reducible refine LeO.bind ?_ (fun _ => ?_))
   | exact ih0 _ _ _ _ _ _ _ _ _ _ _ _ _ _ _
   | exact ih1 _ _ _ _ _ _ _ _ _ _ _ _ _ _
   | exact ih2 _ _ _ _ _ _ _ _ _ _ _ _ _ _
   | exact ih3 _ _ _ _ _ _ _ _ _ _ _ _ _ _
   | exact spec_l4At.mono _ _ _ _
   | exact LeO.none _
   | refine LeO.ite ?_ ?_
   | refine LeO.bind ?_ (fun _ => ?_)
  ·intro y0 y1 y2 y3 y4 y5 y6 y7 y8 y9 y10 y11 y12 y13
   unfold spec_l4Go.j1
   repeat' first
   | (with_reducible exact ih0 _ _ _ _ _ _ _ _ _ _ _ _ _ _ _)
   | (with_reducible exact ih1 _ _ _ _ _ _ _ _ _ _ _ _ _ _)
   | (with_reducible exact ih2 _ _ _ _ _ _ _ _ _ _ _ _ _ _)
   | (with_reducible exact ih3 _ _ _ _ _ _ _ _ _ _ _ _ _ _)
   | (with_reducible exact spec_l4At.mono _ _ _ _)
   | (with_reducible exact LeO.refl _)
   | (with_reducible exact LeO.none _)
   | (with_reducible refine LeO.ite ?_ ?_)
   | (with_reducible refine LeO.bind ?_ (fun _ => ?_))
   | exact ih0 _ _ _ _ _ _ _ _ _ _ _ _ _ _ _
   | exact ih1 _ _ _ _ _ _ _ _ _ _ _ _ _ _
   | exact ih2 _ _ _ _ _ _ _ _ _ _ _ _ _ _
   | exact ih3 _ _ _ _ _ _ _ _ _ _ _ _ _ _
   | exact spec_l4At.mono _ _ _ _
   | exact LeO.none _
   | refine LeO.ite ?_ ?_
   | refine LeO.bind ?_ (fun _ => ?_)
  ·intro y0 y1 y2 y3 y4 y5 y6 y7 y8 y9 y10 y11 y12 y13
   unfold spec_l4Go.j2
   repeat' first
   | (with_reducible exact ih0 _ _ _ _ _ _ _ _ _ _ _ _ _ _ _)
   | (with_reducible exact ih1 _ _ _ _ _ _ _ _ _ _ _ _ _ _)
   | (with_reducible exact ih2 _ _ _ _ _ _ _ _ _ _ _ _ _ _)
   | (with_reducible exact ih3 _ _ _ _ _ _ _ _ _ _ _ _ _ _)
   | (with_reducible exact spec_l4At.mono _ _ _ _)
   | (with_reducible exact LeO.refl _)
   | (with_reducible exact LeO.none _)
   | (with_reducible refine LeO.ite ?_ ?_)
   | (with_reducible refine LeO.bind ?_ (fun _ => ?_))
   | exact ih0 _ _ _ _ _ _ _ _ _ _ _ _ _ _ _
   | exact ih1 _ _ _ _ _ _ _ _ _ _ _ _ _ _
   | exact ih2 _ _ _ _ _ _ _ _ _ _ _ _ _ _
   | exact ih3 _ _ _ _ _ _ _ _ _ _ _ _ _ _
   | exact spec_l4At.mono _ _ _ _
   | exact LeO.none _
   | refine LeO.ite ?_ ?_
   | refine LeO.bind ?_ (fun _ => ?_)
  ·intro y0 y1 y2 y3 y4 y5 y6 y7 y8 y9 y10 y11 y12 y13
   unfold spec_l4Go.j3
   repeat' first
   | (with_reducible exact ih0 _ _ _ _ _ _ _ _ _ _ _ _ _ _ _)
   | (with_reducible exact ih1 _ _ _ _ _ _ _ _ _ _ _ _ _ _)
   | (with_reducible exact ih2 _ _ _ _ _ _ _ _ _ _ _ _ _ _)
   | (with_reducible exact ih3 _ _ _ _ _ _ _ _ _ _ _ _ _ _)
   | (with_reducible exact spec_l4At.mono _ _ _ _)
   | (with_reducible exact LeO.refl _)
   | (with_reducible exact LeO.none _)
   | (with_reducible refine LeO.ite ?_ ?_)
   | (with_reducible refine LeO.bind ?_ (fun _ => ?_))
   | exact ih0 _ _ _ _ _ _ _ _ _ _ _ _ _ _ _
   | exact ih1 _ _ _ _ _ _ _ _ _ _ _ _ _ _
   | exact ih2 _ _ _ _ _ _ _ _ _ _ _ _ _ _
   | exact ih3 _ _ _ _ _ _ _ _ _ _ _ _ _ _
   | exact spec_l4At.mono _ _ _ _
   | exact LeO.none _
   | refine LeO.ite ?_ ?_
   | refine LeO.bind ?_ (fun _ => ?_)
theorem spec_l4Go.mono : ∀ a0 a1 a2 a3 a4 a5 a6 k, LeO (spec_l4Go.f k a0 a1 a2 a3 a4 a5 a6) (spec_l4Go.f (k + 1) a0 a1 a2 a3 a4 a5 a6) := by
 intro a0 a1 a2 a3 a4 a5 a6 k
 obtain ⟨ih0, ih1, ih2, ih3⟩ := spec_l4Go.mono_l k
 unfold spec_l4Go.f
 repeat' first
   | (with_reducible exact ih0 _ _ _ _ _ _ _ _ _ _ _ _ _ _ _)
   | (with_reducible exact ih1 _ _ _ _ _ _ _ _ _ _ _ _ _ _)
   | (with_reducible exact ih2 _ _ _ _ _ _ _ _ _ _ _ _ _ _)
   | (with_reducible exact ih3 _ _ _ _ _ _ _ _ _ _ _ _ _ _)
   | (with_reducible exact spec_l4At.mono _ _ _ _)
   | (with_reducible exact LeO.refl _)
   | (with_reducible exact LeO.none _)
   | (with_reducible refine LeO.ite ?_ ?_)
   | (with_reducible refine LeO.bind ?_ (fun _ => ?_))
   | exact ih0 _ _ _ _ _ _ _ _ _ _ _ _ _ _ _
   | exact ih1 _ _ _ _ _ _ _ _ _ _ _ _ _ _
   | exact ih2 _ _ _ _ _ _ _ _ _ _ _ _ _ _
   | exact ih3 _ _ _ _ _ _ _ _ _ _ _ _ _ _
   | exact spec_l4At.mono _ _ _ _
   | exact LeO.none _
   | refine LeO.ite ?_ ?_
   | refine LeO.bind ?_ (fun _ => ?_)
set_option maxHeartbeats 8000000 in
set_option maxRecDepth 100000 in
theorem spec_l4Go.calls (k : Nat) (A0 : Option Addr) (c0 : Nat) (l0 : List (S39)) (a1_0 : ByteArray) (a1_1 : Int) (a1_2 : Int) (a2 : Int) (a3_0 : Int) (a3_1 : Bool) (r1 : ByteArray) (r2 : Int) (r3 : Int) (w : World) (hr0 : Kd.C k39 w A0 l0.length l0) (hc0 : l0.length ≤ c0) (h : spec_l4Go.f k l0 a1_0 a1_1 a1_2 a2 a3_0 a3_1 = some (r1, r2, r3)) :
  Calls Try.prog 88 #[.slice A0 l0.length c0, .agg #[.string a1_0, .int .i64 a1_1, .int .i64 a1_2], .int .i64 a2, .agg #[.int .i64 a3_0, .bool a3_1]] w fun e w' => e = .returned (.agg #[.string r1, .int .i64 r2, .int .i64 r3]) ∧ Below w.heap.size w w' := by
 have hu31 := Try.underlying31
 have hu43 := Try.underlying43
 have hu39 := Try.underlying39
 have HR0 := Aside0.mk hr0
 have HC0 := Aside0.mk hc0
 clear hr0 hc0
 have HB := Aside0.mk (Below.refl w.heap.size w)
 have H : (if 0 ≤ a2 then (if a2 < (l0.length : Int) then (if ((rd_T39 l0 a2).f1) = 3 then (if a3_1 = true then (spec_l4Go.j0 k l0 a3_0 a3_1 (decide (a3_0 < ((rd_T39 l0 a2).f4))) a1_0 a1_1 a1_2 ((rd_T39 l0 a2).f0) ((rd_T39 l0 a2).f1) ((rd_T39 l0 a2).f2) ((rd_T39 l0 a2).f3) ((rd_T39 l0 a2).f4) ((rd_T39 l0 a2).f5) ((rd_T39 l0 a2).f6) ((rd_T39 l0 a2).f7)) else (spec_l4Go.j0 k l0 a3_0 a3_1 false a1_0 a1_1 a1_2 ((rd_T39 l0 a2).f0) ((rd_T39 l0 a2).f1) ((rd_T39 l0 a2).f2) ((rd_T39 l0 a2).f3) ((rd_T39 l0 a2).f4) ((rd_T39 l0 a2).f5) ((rd_T39 l0 a2).f6) ((rd_T39 l0 a2).f7))) else (spec_l4Go.j0 k l0 a3_0 a3_1 false a1_0 a1_1 a1_2 ((rd_T39 l0 a2).f0) ((rd_T39 l0 a2).f1) ((rd_T39 l0 a2).f2) ((rd_T39 l0 a2).f3) ((rd_T39 l0 a2).f4) ((rd_T39 l0 a2).f5) ((rd_T39 l0 a2).f6) ((rd_T39 l0 a2).f7))) else (none)) else (none)) = some (r1, r2, r3) := h
 clear h
 by_cases c5 : 0 ≤ a2
 ·rw [if_pos c5] at H
  have c5b0 : decide (0 ≤ a2) = true := decide_eq_true c5
  clear c5
  by_cases c6 : a2 < (l0.length : Int)
  ·rw [if_pos c6] at H
   have c6b0 : decide (a2 < (l0.length : Int)) = true := decide_eq_true c6
   clear c6
   have HC7 := Aside0.mk H
   clear H
   go_enter Try.func88, Try.ntmps88
   go_upto_region 4 with (first | ((with_reducible refine gate_dst (N := 5) rfl ?_); refine box_event ?hg (N := 5) ?hd (cs := #[.string a1_0, .int .i64 a1_1, .int .i64 a1_2]) (t := 31) ?hr ?_; (case hd => rfl); (case hg => rfl); (case hr => first | (go_simp; done) | (go_simp; rfl)); intro gb641 hg w8 hbox hb; have n0_ := bs HB hb; have n1_ := Aside0.mk (hbox); have n2_ := gh hg HB; have n3_ := gh hg HB; clear HB; have HB := n0_; have BK641 := n1_; have GW641 := n2_; have GE641 := n3_; clear n0_ n1_ n2_ n3_; clear hb hbox hg) | ((with_reducible refine gate_dst (N := 7) rfl ?_); refine box_event ?hg (N := 7) ?hd (cs := #[.int .i64 a3_0, .bool a3_1]) (t := 43) ?hr ?_; (case hd => rfl); (case hg => rfl); (case hr => first | (go_simp; done) | (go_simp; rfl)); intro gb642 hg w9 hbox hb; have n0_ := up BK641 hb; have n1_ := bs HB hb; have n2_ := Aside0.mk (hbox); have n3_ := gh hg HB; have n4_ := gh hg HB; have n5_ := nlt' hg BK641; have n6_ := ngt' hg BK641; clear BK641; clear HB; have BK641 := n0_; have HB := n1_; have BK642 := n2_; have GW642 := n3_; have GE642 := n4_; have NB641_642 := n5_; have NB642_641 := n6_; clear n0_ n1_ n2_ n3_ n4_ n5_ n6_; clear hb hbox hg) | ((with_reducible refine gate_dst (N := 8) rfl ?_); refine box_event ?hg (N := 8) ?hd (cs := #[.string (⟨#[]⟩ : ByteArray), .int .i64 0, .int .i64 0]) (t := 31) ?hr ?_; (case hd => rfl); (case hg => rfl); (case hr => first | (go_simp; done) | (go_simp; rfl)); intro gb643 hg w10 hbox hb; have n0_ := up BK641 hb; have n1_ := up BK642 hb; have n2_ := bs HB hb; have n3_ := Aside0.mk (hbox); have n4_ := gh hg HB; have n5_ := gh hg HB; have n6_ := nlt' hg BK641; have n7_ := ngt' hg BK641; have n8_ := nlt' hg BK642; have n9_ := ngt' hg BK642; clear BK641; clear BK642; clear HB; have BK641 := n0_; have BK642 := n1_; have HB := n2_; have BK643 := n3_; have GW643 := n4_; have GE643 := n5_; have NB641_643 := n6_; have NB643_641 := n7_; have NB642_643 := n8_; have NB643_642 := n9_; clear n0_ n1_ n2_ n3_ n4_ n5_ n6_ n7_ n8_ n9_; clear hb hbox hg; have p644 : 0 ≤ (a2 : Int) := oda; have q644 : a2 < (l0.length : Int) := oda; obtain ⟨ad644, e644, hx644_0, hx644_1, hx644_2, hx644_3, hx644_4, hx644_5, hx644_6, hx644_7⟩ := at_T39 HR0.out a2 p644 q644; cases e644; replace hx644_0 := bcl HB hx644_0; replace hx644_1 := bcl HB hx644_1; replace hx644_2 := bcl HB hx644_2; replace hx644_3 := bcl HB hx644_3; replace hx644_4 := bcl HB hx644_4; replace hx644_5 := bcl HB hx644_5; replace hx644_6 := bcl HB hx644_6; replace hx644_7 := bcl HB hx644_7; replace p644 := eq_true p644; replace q644 := eq_true q644) | ((with_reducible refine gate_dst (N := 9) rfl ?_); refine box_event ?hg (N := 9) ?hd (cs := #[.string (⟨#[]⟩ : ByteArray), .int .i64 0, .string (⟨#[]⟩ : ByteArray), .string (⟨#[]⟩ : ByteArray), .int .i64 0, .int .i64 0, .string (⟨#[]⟩ : ByteArray), .string (⟨#[]⟩ : ByteArray)]) (t := 39) ?hr ?_; (case hd => rfl); (case hg => rfl); (case hr => first | (go_simp; done) | (go_simp; rfl)); intro gb645 hg w11 hbox hb; have n0_ := up BK641 hb; have n1_ := up BK642 hb; have n2_ := up BK643 hb; have n3_ := bs HB hb; have n4_ := Aside0.mk (hbox); have n5_ := gh hg HB; have n6_ := gh hg HB; have n7_ := nlt' hg BK641; have n8_ := ngt' hg BK641; have n9_ := nlt' hg BK642; have n10_ := ngt' hg BK642; have n11_ := nlt' hg BK643; have n12_ := ngt' hg BK643; clear BK641; clear BK642; clear BK643; clear HB; have BK641 := n0_; have BK642 := n1_; have BK643 := n2_; have HB := n3_; have BK645 := n4_; have GW645 := n5_; have GE645 := n6_; have NB641_645 := n7_; have NB645_641 := n8_; have NB642_645 := n9_; have NB645_642 := n10_; have NB643_645 := n11_; have NB645_643 := n12_; clear n0_ n1_ n2_ n3_ n4_ n5_ n6_ n7_ n8_ n9_ n10_ n11_ n12_; clear hb hbox hg; have hnb12 := NB645_641.out; have hnc12 := NB641_645.out; have hnb13 := NB645_642.out; have hnc13 := NB642_645.out; have hnb14 := NB645_643.out; have hnc14 := NB643_645.out; have hcz15_0 := b0 BK645; have hcz15_1 := b1 BK645; have hcz15_2 := b2 BK645; have hcz15_3 := b3 BK645; have hcz15_4 := b4 BK645; have hcz15_5 := b5 BK645; have hcz15_6 := b6 BK645; have hcz15_7 := b7 BK645; have hfz15_0 := fz BK645 0; have hfz15_1 := fz BK645 1; have hfz15_2 := fz BK645 2; have hfz15_3 := fz BK645 3; have hfz15_4 := fz BK645 4; have hfz15_5 := fz BK645 5; have hfz15_6 := fz BK645 6; have hfz15_7 := fz BK645 7; have hnb16 := NB642_641.out; have hnc16 := NB641_642.out; have hnb17 := NB642_643.out; have hnc17 := NB643_642.out; have hcz18_0 := b0 BK642; have hcz18_1 := b1 BK642; have hfz18_0 := fz BK642 0; have hfz18_1 := fz BK642 1))
   (try simp only [Act.put, List.setIfInBounds_toArray, List.set_cons_zero, List.set_cons_succ])
   go_cut [31] (fun v31 wc => ∃ (kq : Nat) (x31_6 : Bool), v31 = .bool x31_6 ∧ Aside0 (spec_l4Go.j0 kq l0 a3_0 a3_1 x31_6 a1_0 a1_1 a1_2 ((rd_T39 l0 a2).f0) ((rd_T39 l0 a2).f1) ((rd_T39 l0 a2).f2) ((rd_T39 l0 a2).f3) ((rd_T39 l0 a2).f4) ((rd_T39 l0 a2).f5) ((rd_T39 l0 a2).f6) ((rd_T39 l0 a2).f7) = some (r1, r2, r3)) ∧ Aside0 (kq ≤ k) ∧ Aside0 (wc.heap[gb641]? = some (.cells #[.string a1_0, .int .i64 a1_1, .int .i64 a1_2] 31 (0, 0))) ∧ Aside0 (wc.heap[gb642]? = some (.cells #[.int .i64 a3_0, .bool a3_1] 43 (0, 0))) ∧ Aside0 (wc.heap[gb643]? = some (.cells #[.string (⟨#[]⟩ : ByteArray), .int .i64 0, .int .i64 0] 31 (0, 0))) ∧ Aside0 (wc.heap[gb645]? = some (.cells #[.string ((rd_T39 l0 a2).f0), .int .i64 ((rd_T39 l0 a2).f1), .string ((rd_T39 l0 a2).f2), .string ((rd_T39 l0 a2).f3), .int .i64 ((rd_T39 l0 a2).f4), .int .i64 ((rd_T39 l0 a2).f5), .string ((rd_T39 l0 a2).f6), .string ((rd_T39 l0 a2).f7)] 39 (0, 0))) ∧ Aside0 (Below w.heap.size w wc))
   case first =>
    have H := HC7.out
    clear HC7
    by_cases c19 : ((rd_T39 l0 a2).f1) = 3
    ·rw [if_pos c19] at H
     have c19b0 : (((rd_T39 l0 a2).f1) == 3) = true := beq_iff_eq.mpr c19
     have c19b1 : (((rd_T39 l0 a2).f1) != 3) = false := bne_eq_false_iff_eq.mpr c19
     clear c19
     (first | rw [c19b0] | (simp only [i64_w, i32_w]; rw [c19b0]) | skip)
     by_cases c20 : a3_1 = true
     ·subst c20
      have H1 : (spec_l4Go.j0 k l0 a3_0 true (decide (a3_0 < ((rd_T39 l0 a2).f4))) a1_0 a1_1 a1_2 ((rd_T39 l0 a2).f0) ((rd_T39 l0 a2).f1) ((rd_T39 l0 a2).f2) ((rd_T39 l0 a2).f3) ((rd_T39 l0 a2).f4) ((rd_T39 l0 a2).f5) ((rd_T39 l0 a2).f6) ((rd_T39 l0 a2).f7)) = some (r1, r2, r3) := by rw [if_pos rfl] at H; exact H
      clear H
      have H := H1
      clear H1
      have H' := Aside0.mk H
      clear H
      have hnb21 := NB645_641.out
      have hnc21 := NB641_645.out
      have hnb22 := NB645_642.out
      have hnc22 := NB642_645.out
      have hnb23 := NB645_643.out
      have hnc23 := NB643_645.out
      have hcz24_0 := b0 BK645
      have hcz24_1 := b1 BK645
      have hcz24_2 := b2 BK645
      have hcz24_3 := b3 BK645
      have hcz24_4 := b4 BK645
      have hcz24_5 := b5 BK645
      have hcz24_6 := b6 BK645
      have hcz24_7 := b7 BK645
      have hfz24_0 := fz BK645 0
      have hfz24_1 := fz BK645 1
      have hfz24_2 := fz BK645 2
      have hfz24_3 := fz BK645 3
      have hfz24_4 := fz BK645 4
      have hfz24_5 := fz BK645 5
      have hfz24_6 := fz BK645 6
      have hfz24_7 := fz BK645 7
      go_wp2
      go_meet
      case rel => exact ⟨_, (decide (a3_0 < ((rd_T39 l0 a2).f4))), (by first | rfl | (simp; done) | (simp [*]; done)), H', ⟨by first | omega | exact Nat.le_refl _⟩, ⟨by refine bx ?_; refine blk_far ?_ NB641_645.out _; refine bx ?_; refine blk_far ?_ NB641_645.out _; refine bx ?_; refine blk_far ?_ NB641_645.out _; refine bx ?_; refine blk_far ?_ NB641_645.out _; refine bx ?_; refine blk_far ?_ NB641_645.out _; refine bx ?_; refine blk_far ?_ NB641_645.out _; refine bx ?_; refine blk_far ?_ NB641_645.out _; refine bx ?_; refine blk_far ?_ NB641_645.out _; refine bx ?_; exact BK641.out⟩, ⟨by refine bx ?_; refine blk_far ?_ NB642_645.out _; refine bx ?_; refine blk_far ?_ NB642_645.out _; refine bx ?_; refine blk_far ?_ NB642_645.out _; refine bx ?_; refine blk_far ?_ NB642_645.out _; refine bx ?_; refine blk_far ?_ NB642_645.out _; refine bx ?_; refine blk_far ?_ NB642_645.out _; refine bx ?_; refine blk_far ?_ NB642_645.out _; refine bx ?_; refine blk_far ?_ NB642_645.out _; refine bx ?_; exact BK642.out⟩, ⟨by refine bx ?_; refine blk_far ?_ NB643_645.out _; refine bx ?_; refine blk_far ?_ NB643_645.out _; refine bx ?_; refine blk_far ?_ NB643_645.out _; refine bx ?_; refine blk_far ?_ NB643_645.out _; refine bx ?_; refine blk_far ?_ NB643_645.out _; refine bx ?_; refine blk_far ?_ NB643_645.out _; refine bx ?_; refine blk_far ?_ NB643_645.out _; refine bx ?_; refine blk_far ?_ NB643_645.out _; refine bx ?_; exact BK643.out⟩, ⟨by refine bx ?_; refine blk_put (cs := #[.string ((rd_T39 l0 a2).f0), .int .i64 ((rd_T39 l0 a2).f1), .string ((rd_T39 l0 a2).f2), .string ((rd_T39 l0 a2).f3), .int .i64 ((rd_T39 l0 a2).f4), .int .i64 ((rd_T39 l0 a2).f5), .string ((rd_T39 l0 a2).f6), .string (⟨#[]⟩ : ByteArray)]) ?_ 7 _ rfl; refine bx ?_; refine blk_put (cs := #[.string ((rd_T39 l0 a2).f0), .int .i64 ((rd_T39 l0 a2).f1), .string ((rd_T39 l0 a2).f2), .string ((rd_T39 l0 a2).f3), .int .i64 ((rd_T39 l0 a2).f4), .int .i64 ((rd_T39 l0 a2).f5), .string (⟨#[]⟩ : ByteArray), .string (⟨#[]⟩ : ByteArray)]) ?_ 6 _ rfl; refine bx ?_; refine blk_put (cs := #[.string ((rd_T39 l0 a2).f0), .int .i64 ((rd_T39 l0 a2).f1), .string ((rd_T39 l0 a2).f2), .string ((rd_T39 l0 a2).f3), .int .i64 ((rd_T39 l0 a2).f4), .int .i64 0, .string (⟨#[]⟩ : ByteArray), .string (⟨#[]⟩ : ByteArray)]) ?_ 5 _ rfl; refine bx ?_; refine blk_put (cs := #[.string ((rd_T39 l0 a2).f0), .int .i64 ((rd_T39 l0 a2).f1), .string ((rd_T39 l0 a2).f2), .string ((rd_T39 l0 a2).f3), .int .i64 0, .int .i64 0, .string (⟨#[]⟩ : ByteArray), .string (⟨#[]⟩ : ByteArray)]) ?_ 4 _ rfl; refine bx ?_; refine blk_put (cs := #[.string ((rd_T39 l0 a2).f0), .int .i64 ((rd_T39 l0 a2).f1), .string ((rd_T39 l0 a2).f2), .string (⟨#[]⟩ : ByteArray), .int .i64 0, .int .i64 0, .string (⟨#[]⟩ : ByteArray), .string (⟨#[]⟩ : ByteArray)]) ?_ 3 _ rfl; refine bx ?_; refine blk_put (cs := #[.string ((rd_T39 l0 a2).f0), .int .i64 ((rd_T39 l0 a2).f1), .string (⟨#[]⟩ : ByteArray), .string (⟨#[]⟩ : ByteArray), .int .i64 0, .int .i64 0, .string (⟨#[]⟩ : ByteArray), .string (⟨#[]⟩ : ByteArray)]) ?_ 2 _ rfl; refine bx ?_; refine blk_put (cs := #[.string ((rd_T39 l0 a2).f0), .int .i64 0, .string (⟨#[]⟩ : ByteArray), .string (⟨#[]⟩ : ByteArray), .int .i64 0, .int .i64 0, .string (⟨#[]⟩ : ByteArray), .string (⟨#[]⟩ : ByteArray)]) ?_ 1 _ rfl; refine bx ?_; refine blk_put (cs := #[.string (⟨#[]⟩ : ByteArray), .int .i64 0, .string (⟨#[]⟩ : ByteArray), .string (⟨#[]⟩ : ByteArray), .int .i64 0, .int .i64 0, .string (⟨#[]⟩ : ByteArray), .string (⟨#[]⟩ : ByteArray)]) ?_ 0 _ rfl; refine bx ?_; exact BK645.out⟩, (hbw HB)⟩
     ·replace c20 := Bool.eq_false_iff.mpr c20
      subst c20
      have H1 : (spec_l4Go.j0 k l0 a3_0 false false a1_0 a1_1 a1_2 ((rd_T39 l0 a2).f0) ((rd_T39 l0 a2).f1) ((rd_T39 l0 a2).f2) ((rd_T39 l0 a2).f3) ((rd_T39 l0 a2).f4) ((rd_T39 l0 a2).f5) ((rd_T39 l0 a2).f6) ((rd_T39 l0 a2).f7)) = some (r1, r2, r3) := by rw [if_neg (show ¬ (false = true) by decide)] at H; exact H
      clear H
      have H := H1
      clear H1
      have H' := Aside0.mk H
      clear H
      have hnb25 := NB645_641.out
      have hnc25 := NB641_645.out
      have hnb26 := NB645_642.out
      have hnc26 := NB642_645.out
      have hnb27 := NB645_643.out
      have hnc27 := NB643_645.out
      have hcz28_0 := b0 BK645
      have hcz28_1 := b1 BK645
      have hcz28_2 := b2 BK645
      have hcz28_3 := b3 BK645
      have hcz28_4 := b4 BK645
      have hcz28_5 := b5 BK645
      have hcz28_6 := b6 BK645
      have hcz28_7 := b7 BK645
      have hfz28_0 := fz BK645 0
      have hfz28_1 := fz BK645 1
      have hfz28_2 := fz BK645 2
      have hfz28_3 := fz BK645 3
      have hfz28_4 := fz BK645 4
      have hfz28_5 := fz BK645 5
      have hfz28_6 := fz BK645 6
      have hfz28_7 := fz BK645 7
      go_wp2
      go_meet
      case rel => exact ⟨_, (false), (by first | rfl | (simp; done) | (simp [*]; done)), H', ⟨by first | omega | exact Nat.le_refl _⟩, ⟨by refine bx ?_; refine blk_far ?_ NB641_645.out _; refine bx ?_; refine blk_far ?_ NB641_645.out _; refine bx ?_; refine blk_far ?_ NB641_645.out _; refine bx ?_; refine blk_far ?_ NB641_645.out _; refine bx ?_; refine blk_far ?_ NB641_645.out _; refine bx ?_; refine blk_far ?_ NB641_645.out _; refine bx ?_; refine blk_far ?_ NB641_645.out _; refine bx ?_; refine blk_far ?_ NB641_645.out _; refine bx ?_; exact BK641.out⟩, ⟨by refine bx ?_; refine blk_far ?_ NB642_645.out _; refine bx ?_; refine blk_far ?_ NB642_645.out _; refine bx ?_; refine blk_far ?_ NB642_645.out _; refine bx ?_; refine blk_far ?_ NB642_645.out _; refine bx ?_; refine blk_far ?_ NB642_645.out _; refine bx ?_; refine blk_far ?_ NB642_645.out _; refine bx ?_; refine blk_far ?_ NB642_645.out _; refine bx ?_; refine blk_far ?_ NB642_645.out _; refine bx ?_; exact BK642.out⟩, ⟨by refine bx ?_; refine blk_far ?_ NB643_645.out _; refine bx ?_; refine blk_far ?_ NB643_645.out _; refine bx ?_; refine blk_far ?_ NB643_645.out _; refine bx ?_; refine blk_far ?_ NB643_645.out _; refine bx ?_; refine blk_far ?_ NB643_645.out _; refine bx ?_; refine blk_far ?_ NB643_645.out _; refine bx ?_; refine blk_far ?_ NB643_645.out _; refine bx ?_; refine blk_far ?_ NB643_645.out _; refine bx ?_; exact BK643.out⟩, ⟨by refine bx ?_; refine blk_put (cs := #[.string ((rd_T39 l0 a2).f0), .int .i64 ((rd_T39 l0 a2).f1), .string ((rd_T39 l0 a2).f2), .string ((rd_T39 l0 a2).f3), .int .i64 ((rd_T39 l0 a2).f4), .int .i64 ((rd_T39 l0 a2).f5), .string ((rd_T39 l0 a2).f6), .string (⟨#[]⟩ : ByteArray)]) ?_ 7 _ rfl; refine bx ?_; refine blk_put (cs := #[.string ((rd_T39 l0 a2).f0), .int .i64 ((rd_T39 l0 a2).f1), .string ((rd_T39 l0 a2).f2), .string ((rd_T39 l0 a2).f3), .int .i64 ((rd_T39 l0 a2).f4), .int .i64 ((rd_T39 l0 a2).f5), .string (⟨#[]⟩ : ByteArray), .string (⟨#[]⟩ : ByteArray)]) ?_ 6 _ rfl; refine bx ?_; refine blk_put (cs := #[.string ((rd_T39 l0 a2).f0), .int .i64 ((rd_T39 l0 a2).f1), .string ((rd_T39 l0 a2).f2), .string ((rd_T39 l0 a2).f3), .int .i64 ((rd_T39 l0 a2).f4), .int .i64 0, .string (⟨#[]⟩ : ByteArray), .string (⟨#[]⟩ : ByteArray)]) ?_ 5 _ rfl; refine bx ?_; refine blk_put (cs := #[.string ((rd_T39 l0 a2).f0), .int .i64 ((rd_T39 l0 a2).f1), .string ((rd_T39 l0 a2).f2), .string ((rd_T39 l0 a2).f3), .int .i64 0, .int .i64 0, .string (⟨#[]⟩ : ByteArray), .string (⟨#[]⟩ : ByteArray)]) ?_ 4 _ rfl; refine bx ?_; refine blk_put (cs := #[.string ((rd_T39 l0 a2).f0), .int .i64 ((rd_T39 l0 a2).f1), .string ((rd_T39 l0 a2).f2), .string (⟨#[]⟩ : ByteArray), .int .i64 0, .int .i64 0, .string (⟨#[]⟩ : ByteArray), .string (⟨#[]⟩ : ByteArray)]) ?_ 3 _ rfl; refine bx ?_; refine blk_put (cs := #[.string ((rd_T39 l0 a2).f0), .int .i64 ((rd_T39 l0 a2).f1), .string (⟨#[]⟩ : ByteArray), .string (⟨#[]⟩ : ByteArray), .int .i64 0, .int .i64 0, .string (⟨#[]⟩ : ByteArray), .string (⟨#[]⟩ : ByteArray)]) ?_ 2 _ rfl; refine bx ?_; refine blk_put (cs := #[.string ((rd_T39 l0 a2).f0), .int .i64 0, .string (⟨#[]⟩ : ByteArray), .string (⟨#[]⟩ : ByteArray), .int .i64 0, .int .i64 0, .string (⟨#[]⟩ : ByteArray), .string (⟨#[]⟩ : ByteArray)]) ?_ 1 _ rfl; refine bx ?_; refine blk_put (cs := #[.string (⟨#[]⟩ : ByteArray), .int .i64 0, .string (⟨#[]⟩ : ByteArray), .string (⟨#[]⟩ : ByteArray), .int .i64 0, .int .i64 0, .string (⟨#[]⟩ : ByteArray), .string (⟨#[]⟩ : ByteArray)]) ?_ 0 _ rfl; refine bx ?_; exact BK645.out⟩, (hbw HB)⟩
    ·rw [if_neg c19] at H
     have c19b0 : (((rd_T39 l0 a2).f1) == 3) = false := beq_eq_false_iff_ne.mpr c19
     have c19b1 : (((rd_T39 l0 a2).f1) != 3) = true := bne_iff_ne.mpr c19
     (first | rw [c19b0] | (simp only [i64_w, i32_w]; rw [c19b0]) | skip)
     have H' := Aside0.mk H
     clear H
     have hnb29 := NB645_641.out
     have hnc29 := NB641_645.out
     have hnb30 := NB645_642.out
     have hnc30 := NB642_645.out
     have hnb31 := NB645_643.out
     have hnc31 := NB643_645.out
     have hcz32_0 := b0 BK645
     have hcz32_1 := b1 BK645
     have hcz32_2 := b2 BK645
     have hcz32_3 := b3 BK645
     have hcz32_4 := b4 BK645
     have hcz32_5 := b5 BK645
     have hcz32_6 := b6 BK645
     have hcz32_7 := b7 BK645
     have hfz32_0 := fz BK645 0
     have hfz32_1 := fz BK645 1
     have hfz32_2 := fz BK645 2
     have hfz32_3 := fz BK645 3
     have hfz32_4 := fz BK645 4
     have hfz32_5 := fz BK645 5
     have hfz32_6 := fz BK645 6
     have hfz32_7 := fz BK645 7
     go_wp2
     go_meet
     case rel => exact ⟨_, (false), (by first | rfl | (simp; done) | (simp [*]; done)), H', ⟨by first | omega | exact Nat.le_refl _⟩, ⟨by refine bx ?_; refine blk_far ?_ NB641_645.out _; refine bx ?_; refine blk_far ?_ NB641_645.out _; refine bx ?_; refine blk_far ?_ NB641_645.out _; refine bx ?_; refine blk_far ?_ NB641_645.out _; refine bx ?_; refine blk_far ?_ NB641_645.out _; refine bx ?_; refine blk_far ?_ NB641_645.out _; refine bx ?_; refine blk_far ?_ NB641_645.out _; refine bx ?_; refine blk_far ?_ NB641_645.out _; refine bx ?_; exact BK641.out⟩, ⟨by refine bx ?_; refine blk_far ?_ NB642_645.out _; refine bx ?_; refine blk_far ?_ NB642_645.out _; refine bx ?_; refine blk_far ?_ NB642_645.out _; refine bx ?_; refine blk_far ?_ NB642_645.out _; refine bx ?_; refine blk_far ?_ NB642_645.out _; refine bx ?_; refine blk_far ?_ NB642_645.out _; refine bx ?_; refine blk_far ?_ NB642_645.out _; refine bx ?_; refine blk_far ?_ NB642_645.out _; refine bx ?_; exact BK642.out⟩, ⟨by refine bx ?_; refine blk_far ?_ NB643_645.out _; refine bx ?_; refine blk_far ?_ NB643_645.out _; refine bx ?_; refine blk_far ?_ NB643_645.out _; refine bx ?_; refine blk_far ?_ NB643_645.out _; refine bx ?_; refine blk_far ?_ NB643_645.out _; refine bx ?_; refine blk_far ?_ NB643_645.out _; refine bx ?_; refine blk_far ?_ NB643_645.out _; refine bx ?_; refine blk_far ?_ NB643_645.out _; refine bx ?_; exact BK643.out⟩, ⟨by refine bx ?_; refine blk_put (cs := #[.string ((rd_T39 l0 a2).f0), .int .i64 ((rd_T39 l0 a2).f1), .string ((rd_T39 l0 a2).f2), .string ((rd_T39 l0 a2).f3), .int .i64 ((rd_T39 l0 a2).f4), .int .i64 ((rd_T39 l0 a2).f5), .string ((rd_T39 l0 a2).f6), .string (⟨#[]⟩ : ByteArray)]) ?_ 7 _ rfl; refine bx ?_; refine blk_put (cs := #[.string ((rd_T39 l0 a2).f0), .int .i64 ((rd_T39 l0 a2).f1), .string ((rd_T39 l0 a2).f2), .string ((rd_T39 l0 a2).f3), .int .i64 ((rd_T39 l0 a2).f4), .int .i64 ((rd_T39 l0 a2).f5), .string (⟨#[]⟩ : ByteArray), .string (⟨#[]⟩ : ByteArray)]) ?_ 6 _ rfl; refine bx ?_; refine blk_put (cs := #[.string ((rd_T39 l0 a2).f0), .int .i64 ((rd_T39 l0 a2).f1), .string ((rd_T39 l0 a2).f2), .string ((rd_T39 l0 a2).f3), .int .i64 ((rd_T39 l0 a2).f4), .int .i64 0, .string (⟨#[]⟩ : ByteArray), .string (⟨#[]⟩ : ByteArray)]) ?_ 5 _ rfl; refine bx ?_; refine blk_put (cs := #[.string ((rd_T39 l0 a2).f0), .int .i64 ((rd_T39 l0 a2).f1), .string ((rd_T39 l0 a2).f2), .string ((rd_T39 l0 a2).f3), .int .i64 0, .int .i64 0, .string (⟨#[]⟩ : ByteArray), .string (⟨#[]⟩ : ByteArray)]) ?_ 4 _ rfl; refine bx ?_; refine blk_put (cs := #[.string ((rd_T39 l0 a2).f0), .int .i64 ((rd_T39 l0 a2).f1), .string ((rd_T39 l0 a2).f2), .string (⟨#[]⟩ : ByteArray), .int .i64 0, .int .i64 0, .string (⟨#[]⟩ : ByteArray), .string (⟨#[]⟩ : ByteArray)]) ?_ 3 _ rfl; refine bx ?_; refine blk_put (cs := #[.string ((rd_T39 l0 a2).f0), .int .i64 ((rd_T39 l0 a2).f1), .string (⟨#[]⟩ : ByteArray), .string (⟨#[]⟩ : ByteArray), .int .i64 0, .int .i64 0, .string (⟨#[]⟩ : ByteArray), .string (⟨#[]⟩ : ByteArray)]) ?_ 2 _ rfl; refine bx ?_; refine blk_put (cs := #[.string ((rd_T39 l0 a2).f0), .int .i64 0, .string (⟨#[]⟩ : ByteArray), .string (⟨#[]⟩ : ByteArray), .int .i64 0, .int .i64 0, .string (⟨#[]⟩ : ByteArray), .string (⟨#[]⟩ : ByteArray)]) ?_ 1 _ rfl; refine bx ?_; refine blk_put (cs := #[.string (⟨#[]⟩ : ByteArray), .int .i64 0, .string (⟨#[]⟩ : ByteArray), .string (⟨#[]⟩ : ByteArray), .int .i64 0, .int .i64 0, .string (⟨#[]⟩ : ByteArray), .string (⟨#[]⟩ : ByteArray)]) ?_ 0 _ rfl; refine bx ?_; exact BK645.out⟩, (hbw HB)⟩
   case rest =>
    clear HC7
    try clear c1
    try clear c2
    try clear p2
    try clear c3
    try clear c5
    try clear c5b0
    try clear c6
    try clear c6b0
    try clear p6
    try clear q6
    try clear hx6
    try clear c8
    try clear c12
    try clear c13
    try clear c14
    try clear c16
    try clear c17
    try clear c19
    try clear c19b0
    try clear c19b1
    try clear c20
    try clear c21
    try clear c22
    try clear c23
    try clear c25
    try clear c26
    try clear c27
    try clear c29
    try clear c30
    try clear c31
    try clear hcz15_0
    try clear hcz15_1
    try clear hcz15_2
    try clear hcz15_3
    try clear hcz15_4
    try clear hcz15_5
    try clear hcz15_6
    try clear hcz15_7
    try clear hcz18_0
    try clear hcz18_1
    try clear hcz24_0
    try clear hcz24_1
    try clear hcz24_2
    try clear hcz24_3
    try clear hcz24_4
    try clear hcz24_5
    try clear hcz24_6
    try clear hcz24_7
    try clear hcz28_0
    try clear hcz28_1
    try clear hcz28_2
    try clear hcz28_3
    try clear hcz28_4
    try clear hcz28_5
    try clear hcz28_6
    try clear hcz28_7
    try clear hcz32_0
    try clear hcz32_1
    try clear hcz32_2
    try clear hcz32_3
    try clear hcz32_4
    try clear hcz32_5
    try clear hcz32_6
    try clear hcz32_7
    try clear hfz15_0
    try clear hfz15_1
    try clear hfz15_2
    try clear hfz15_3
    try clear hfz15_4
    try clear hfz15_5
    try clear hfz15_6
    try clear hfz15_7
    try clear hfz18_0
    try clear hfz18_1
    try clear hfz24_0
    try clear hfz24_1
    try clear hfz24_2
    try clear hfz24_3
    try clear hfz24_4
    try clear hfz24_5
    try clear hfz24_6
    try clear hfz24_7
    try clear hfz28_0
    try clear hfz28_1
    try clear hfz28_2
    try clear hfz28_3
    try clear hfz28_4
    try clear hfz28_5
    try clear hfz28_6
    try clear hfz28_7
    try clear hfz32_0
    try clear hfz32_1
    try clear hfz32_2
    try clear hfz32_3
    try clear hfz32_4
    try clear hfz32_5
    try clear hfz32_6
    try clear hfz32_7
    try clear hx644_0
    try clear hx644_1
    try clear hx644_2
    try clear hx644_3
    try clear hx644_4
    try clear hx644_5
    try clear hx644_6
    try clear hx644_7
    try clear p644
    try clear q644
    obtain ⟨kq, x31_6, rfl, HA, HJ6, BK641, BK642, BK643, BK645, HB⟩ := hcut
    cases kq with
    | zero => exact absurd HA.out (by simp [spec_l4Go.j0])
    | succ kj6 =>
     have H := HA.out
     clear HA
     simp only [spec_l4Go.j0] at H
     have HC33 := Aside0.mk H
     clear H
     go_upto_if 31 with (fail)
     go_cut [10] (fun v10 wc => ∃ (kq : Nat) (x10_32 : Int), v10 = .int .i64 x10_32 ∧ Aside0 (spec_l4Go.j1 kq l0 x10_32 a3_1 a1_0 a1_1 a1_2 ((rd_T39 l0 a2).f0) ((rd_T39 l0 a2).f1) ((rd_T39 l0 a2).f2) ((rd_T39 l0 a2).f3) ((rd_T39 l0 a2).f4) ((rd_T39 l0 a2).f5) ((rd_T39 l0 a2).f6) ((rd_T39 l0 a2).f7) = some (r1, r2, r3)) ∧ Aside0 (kq ≤ kj6) ∧ Aside0 (wc.heap[gb641]? = some (.cells #[.string a1_0, .int .i64 a1_1, .int .i64 a1_2] 31 (0, 0))) ∧ Aside0 (wc.heap[gb642]? = some (.cells #[.int .i64 a3_0, .bool a3_1] 43 (0, 0))) ∧ Aside0 (wc.heap[gb643]? = some (.cells #[.string (⟨#[]⟩ : ByteArray), .int .i64 0, .int .i64 0] 31 (0, 0))) ∧ Aside0 (wc.heap[gb645]? = some (.cells #[.string ((rd_T39 l0 a2).f0), .int .i64 ((rd_T39 l0 a2).f1), .string ((rd_T39 l0 a2).f2), .string ((rd_T39 l0 a2).f3), .int .i64 ((rd_T39 l0 a2).f4), .int .i64 ((rd_T39 l0 a2).f5), .string ((rd_T39 l0 a2).f6), .string ((rd_T39 l0 a2).f7)] 39 (0, 0))) ∧ Aside0 (Below w.heap.size w wc))
     case first =>
      have H := HC33.out
      clear HC33
      by_cases c34 : x31_6 = true
      ·subst c34
       have H1 : (spec_l4Go.j1 kj6 l0 ((rd_T39 l0 a2).f4) a3_1 a1_0 a1_1 a1_2 ((rd_T39 l0 a2).f0) ((rd_T39 l0 a2).f1) ((rd_T39 l0 a2).f2) ((rd_T39 l0 a2).f3) ((rd_T39 l0 a2).f4) ((rd_T39 l0 a2).f5) ((rd_T39 l0 a2).f6) ((rd_T39 l0 a2).f7)) = some (r1, r2, r3) := by rw [if_pos rfl] at H; exact H
       clear H
       have H := H1
       clear H1
       have H' := Aside0.mk H
       clear H
       have hnb35 := NB645_641.out
       have hnc35 := NB641_645.out
       have hnb36 := NB645_642.out
       have hnc36 := NB642_645.out
       have hnb37 := NB645_643.out
       have hnc37 := NB643_645.out
       have hcz38_0 := b0 BK645
       have hcz38_1 := b1 BK645
       have hcz38_2 := b2 BK645
       have hcz38_3 := b3 BK645
       have hcz38_4 := b4 BK645
       have hcz38_5 := b5 BK645
       have hcz38_6 := b6 BK645
       have hcz38_7 := b7 BK645
       have hfz38_0 := fz BK645 0
       have hfz38_1 := fz BK645 1
       have hfz38_2 := fz BK645 2
       have hfz38_3 := fz BK645 3
       have hfz38_4 := fz BK645 4
       have hfz38_5 := fz BK645 5
       have hfz38_6 := fz BK645 6
       have hfz38_7 := fz BK645 7
       go_wp2
       go_meet
       case rel => exact ⟨_, (((rd_T39 l0 a2).f4)), (by first | rfl | (simp; done) | (simp [*]; done)), H', ⟨by have := HJ6.out; first | omega | exact Nat.le_refl _⟩, (bk BK641), (bk BK642), (bk BK643), (bk BK645), (hbw HB)⟩
      ·replace c34 := Bool.eq_false_iff.mpr c34
       subst c34
       have H1 : (spec_l4Go.j1 kj6 l0 a3_0 a3_1 a1_0 a1_1 a1_2 ((rd_T39 l0 a2).f0) ((rd_T39 l0 a2).f1) ((rd_T39 l0 a2).f2) ((rd_T39 l0 a2).f3) ((rd_T39 l0 a2).f4) ((rd_T39 l0 a2).f5) ((rd_T39 l0 a2).f6) ((rd_T39 l0 a2).f7)) = some (r1, r2, r3) := by rw [if_neg (show ¬ (false = true) by decide)] at H; exact H
       clear H
       have H := H1
       clear H1
       have H' := Aside0.mk H
       clear H
       go_wp2
       go_meet
       case rel => exact ⟨_, (a3_0), (by first | rfl | (simp; done) | (simp [*]; done)), H', ⟨by have := HJ6.out; first | omega | exact Nat.le_refl _⟩, (bk BK641), (bk BK642), (bk BK643), (bk BK645), (hbw HB)⟩
     case rest =>
      clear HC33
      try clear c1
      try clear c2
      try clear p2
      try clear c3
      try clear c5
      try clear c5b0
      try clear c6
      try clear c6b0
      try clear p6
      try clear q6
      try clear hx6
      try clear c8
      try clear c12
      try clear c13
      try clear c14
      try clear c16
      try clear c17
      try clear c19
      try clear c19b0
      try clear c19b1
      try clear c20
      try clear c21
      try clear c22
      try clear c23
      try clear c25
      try clear c26
      try clear c27
      try clear c29
      try clear c30
      try clear c31
      try clear c34
      try clear c35
      try clear c36
      try clear c37
      try clear hcz15_0
      try clear hcz15_1
      try clear hcz15_2
      try clear hcz15_3
      try clear hcz15_4
      try clear hcz15_5
      try clear hcz15_6
      try clear hcz15_7
      try clear hcz18_0
      try clear hcz18_1
      try clear hcz24_0
      try clear hcz24_1
      try clear hcz24_2
      try clear hcz24_3
      try clear hcz24_4
      try clear hcz24_5
      try clear hcz24_6
      try clear hcz24_7
      try clear hcz28_0
      try clear hcz28_1
      try clear hcz28_2
      try clear hcz28_3
      try clear hcz28_4
      try clear hcz28_5
      try clear hcz28_6
      try clear hcz28_7
      try clear hcz32_0
      try clear hcz32_1
      try clear hcz32_2
      try clear hcz32_3
      try clear hcz32_4
      try clear hcz32_5
      try clear hcz32_6
      try clear hcz32_7
      try clear hcz38_0
      try clear hcz38_1
      try clear hcz38_2
      try clear hcz38_3
      try clear hcz38_4
      try clear hcz38_5
      try clear hcz38_6
      try clear hcz38_7
      try clear hfz15_0
      try clear hfz15_1
      try clear hfz15_2
      try clear hfz15_3
      try clear hfz15_4
      try clear hfz15_5
      try clear hfz15_6
      try clear hfz15_7
      try clear hfz18_0
      try clear hfz18_1
      try clear hfz24_0
      try clear hfz24_1
      try clear hfz24_2
      try clear hfz24_3
      try clear hfz24_4
      try clear hfz24_5
      try clear hfz24_6
      try clear hfz24_7
      try clear hfz28_0
      try clear hfz28_1
      try clear hfz28_2
      try clear hfz28_3
      try clear hfz28_4
      try clear hfz28_5
      try clear hfz28_6
      try clear hfz28_7
      try clear hfz32_0
      try clear hfz32_1
      try clear hfz32_2
      try clear hfz32_3
      try clear hfz32_4
      try clear hfz32_5
      try clear hfz32_6
      try clear hfz32_7
      try clear hfz38_0
      try clear hfz38_1
      try clear hfz38_2
      try clear hfz38_3
      try clear hfz38_4
      try clear hfz38_5
      try clear hfz38_6
      try clear hfz38_7
      try clear hx644_0
      try clear hx644_1
      try clear hx644_2
      try clear hx644_3
      try clear hx644_4
      try clear hx644_5
      try clear hx644_6
      try clear hx644_7
      try clear p2
      try clear p6
      try clear p644
      try clear q6
      try clear q644
      obtain ⟨kq, x10_32, rfl, HA, HJ32, BK641, BK642, BK643, BK645, HB⟩ := hcut
      cases kq with
      | zero => exact absurd HA.out (by simp [spec_l4Go.j1])
      | succ kj32 =>
       have H := HA.out
       clear HA
       simp only [spec_l4Go.j1] at H
       have HC39 := Aside0.mk H
       clear H
       have hnb40 := NB645_641.out
       have hnc40 := NB641_645.out
       have hnb41 := NB645_642.out
       have hnc41 := NB642_645.out
       have hnb42 := NB645_643.out
       have hnc42 := NB643_645.out
       have hcz43_0 := b0 BK645
       have hcz43_1 := b1 BK645
       have hcz43_2 := b2 BK645
       have hcz43_3 := b3 BK645
       have hcz43_4 := b4 BK645
       have hcz43_5 := b5 BK645
       have hcz43_6 := b6 BK645
       have hcz43_7 := b7 BK645
       have hfz43_0 := fz BK645 0
       have hfz43_1 := fz BK645 1
       have hfz43_2 := fz BK645 2
       have hfz43_3 := fz BK645 3
       have hfz43_4 := fz BK645 4
       have hfz43_5 := fz BK645 5
       have hfz43_6 := fz BK645 6
       have hfz43_7 := fz BK645 7
       go_upto_if 37 with (fail)
       go_cut [10, 11] (fun v10 v11 wc => ∃ (kq : Nat) (x10_38 : Int) (x11_38 : Bool), v10 = .int .i64 x10_38 ∧ v11 = .bool x11_38 ∧ Aside0 (spec_l4Go.j2 kq l0 x10_38 x11_38 a1_0 a1_1 a1_2 ((rd_T39 l0 a2).f0) ((rd_T39 l0 a2).f1) ((rd_T39 l0 a2).f2) ((rd_T39 l0 a2).f3) ((rd_T39 l0 a2).f4) ((rd_T39 l0 a2).f5) ((rd_T39 l0 a2).f6) ((rd_T39 l0 a2).f7) = some (r1, r2, r3)) ∧ Aside0 (kq ≤ kj32) ∧ Aside0 (wc.heap[gb641]? = some (.cells #[.string a1_0, .int .i64 a1_1, .int .i64 a1_2] 31 (0, 0))) ∧ Aside0 (wc.heap[gb642]? = some (.cells #[.int .i64 a3_0, .bool a3_1] 43 (0, 0))) ∧ Aside0 (wc.heap[gb643]? = some (.cells #[.string (⟨#[]⟩ : ByteArray), .int .i64 0, .int .i64 0] 31 (0, 0))) ∧ Aside0 (wc.heap[gb645]? = some (.cells #[.string ((rd_T39 l0 a2).f0), .int .i64 ((rd_T39 l0 a2).f1), .string ((rd_T39 l0 a2).f2), .string ((rd_T39 l0 a2).f3), .int .i64 ((rd_T39 l0 a2).f4), .int .i64 ((rd_T39 l0 a2).f5), .string ((rd_T39 l0 a2).f6), .string ((rd_T39 l0 a2).f7)] 39 (0, 0))) ∧ Aside0 (Below w.heap.size w wc))
       case first =>
        have H := HC39.out
        clear HC39
        by_cases c44 : x10_32 > ((rd_T39 l0 a2).f5)
        ·rw [if_pos c44] at H
         have c44b0 : decide (((rd_T39 l0 a2).f5) < x10_32) = true := decide_eq_true c44
         clear c44
         (first | rw [c44b0] | (simp only [i64_w, i32_w]; rw [c44b0]) | skip)
         have H' := Aside0.mk H
         clear H
         have hnb45 := NB645_641.out
         have hnc45 := NB641_645.out
         have hnb46 := NB645_642.out
         have hnc46 := NB642_645.out
         have hnb47 := NB645_643.out
         have hnc47 := NB643_645.out
         have hcz48_0 := b0 BK645
         have hcz48_1 := b1 BK645
         have hcz48_2 := b2 BK645
         have hcz48_3 := b3 BK645
         have hcz48_4 := b4 BK645
         have hcz48_5 := b5 BK645
         have hcz48_6 := b6 BK645
         have hcz48_7 := b7 BK645
         have hfz48_0 := fz BK645 0
         have hfz48_1 := fz BK645 1
         have hfz48_2 := fz BK645 2
         have hfz48_3 := fz BK645 3
         have hfz48_4 := fz BK645 4
         have hfz48_5 := fz BK645 5
         have hfz48_6 := fz BK645 6
         have hfz48_7 := fz BK645 7
         go_wp2
         go_meet
         case rel => exact ⟨_, (((rd_T39 l0 a2).f5)), (false), (by first | rfl | (simp; done) | (simp [*]; done)), (by first | rfl | (simp; done) | (simp [*]; done)), H', ⟨by have := HJ6.out; have := HJ32.out; first | omega | exact Nat.le_refl _⟩, (bk BK641), (bk BK642), (bk BK643), (bk BK645), (hbw HB)⟩
        ·rw [if_neg c44] at H
         have c44b0 : decide (((rd_T39 l0 a2).f5) < x10_32) = false := decide_eq_false c44
         clear c44
         (first | rw [c44b0] | (simp only [i64_w, i32_w]; rw [c44b0]) | skip)
         have H' := Aside0.mk H
         clear H
         go_wp2
         go_meet
         case rel => exact ⟨_, (x10_32), (a3_1), (by first | rfl | (simp; done) | (simp [*]; done)), (by first | rfl | (simp; done) | (simp [*]; done)), H', ⟨by have := HJ6.out; have := HJ32.out; first | omega | exact Nat.le_refl _⟩, (bk BK641), (bk BK642), (bk BK643), (bk BK645), (hbw HB)⟩
       case rest =>
        clear HC39
        try clear c1
        try clear c2
        try clear p2
        try clear c3
        try clear c4
        try clear c5
        try clear c5b0
        try clear c6
        try clear c6b0
        try clear p6
        try clear q6
        try clear hx6
        try clear c8
        try clear c12
        try clear c13
        try clear c14
        try clear c16
        try clear c17
        try clear c19
        try clear c19b0
        try clear c19b1
        try clear c20
        try clear c21
        try clear c22
        try clear c23
        try clear c25
        try clear c26
        try clear c27
        try clear c29
        try clear c30
        try clear c31
        try clear c34
        try clear c35
        try clear c36
        try clear c37
        try clear c40
        try clear c41
        try clear c42
        try clear c44
        try clear c44b0
        try clear c45
        try clear c46
        try clear c47
        try clear hcz15_0
        try clear hcz15_1
        try clear hcz15_2
        try clear hcz15_3
        try clear hcz15_4
        try clear hcz15_5
        try clear hcz15_6
        try clear hcz15_7
        try clear hcz18_0
        try clear hcz18_1
        try clear hcz24_0
        try clear hcz24_1
        try clear hcz24_2
        try clear hcz24_3
        try clear hcz24_4
        try clear hcz24_5
        try clear hcz24_6
        try clear hcz24_7
        try clear hcz28_0
        try clear hcz28_1
        try clear hcz28_2
        try clear hcz28_3
        try clear hcz28_4
        try clear hcz28_5
        try clear hcz28_6
        try clear hcz28_7
        try clear hcz32_0
        try clear hcz32_1
        try clear hcz32_2
        try clear hcz32_3
        try clear hcz32_4
        try clear hcz32_5
        try clear hcz32_6
        try clear hcz32_7
        try clear hcz38_0
        try clear hcz38_1
        try clear hcz38_2
        try clear hcz38_3
        try clear hcz38_4
        try clear hcz38_5
        try clear hcz38_6
        try clear hcz38_7
        try clear hcz43_0
        try clear hcz43_1
        try clear hcz43_2
        try clear hcz43_3
        try clear hcz43_4
        try clear hcz43_5
        try clear hcz43_6
        try clear hcz43_7
        try clear hcz48_0
        try clear hcz48_1
        try clear hcz48_2
        try clear hcz48_3
        try clear hcz48_4
        try clear hcz48_5
        try clear hcz48_6
        try clear hcz48_7
        try clear hfz15_0
        try clear hfz15_1
        try clear hfz15_2
        try clear hfz15_3
        try clear hfz15_4
        try clear hfz15_5
        try clear hfz15_6
        try clear hfz15_7
        try clear hfz18_0
        try clear hfz18_1
        try clear hfz24_0
        try clear hfz24_1
        try clear hfz24_2
        try clear hfz24_3
        try clear hfz24_4
        try clear hfz24_5
        try clear hfz24_6
        try clear hfz24_7
        try clear hfz28_0
        try clear hfz28_1
        try clear hfz28_2
        try clear hfz28_3
        try clear hfz28_4
        try clear hfz28_5
        try clear hfz28_6
        try clear hfz28_7
        try clear hfz32_0
        try clear hfz32_1
        try clear hfz32_2
        try clear hfz32_3
        try clear hfz32_4
        try clear hfz32_5
        try clear hfz32_6
        try clear hfz32_7
        try clear hfz38_0
        try clear hfz38_1
        try clear hfz38_2
        try clear hfz38_3
        try clear hfz38_4
        try clear hfz38_5
        try clear hfz38_6
        try clear hfz38_7
        try clear hfz43_0
        try clear hfz43_1
        try clear hfz43_2
        try clear hfz43_3
        try clear hfz43_4
        try clear hfz43_5
        try clear hfz43_6
        try clear hfz43_7
        try clear hfz48_0
        try clear hfz48_1
        try clear hfz48_2
        try clear hfz48_3
        try clear hfz48_4
        try clear hfz48_5
        try clear hfz48_6
        try clear hfz48_7
        try clear hx644_0
        try clear hx644_1
        try clear hx644_2
        try clear hx644_3
        try clear hx644_4
        try clear hx644_5
        try clear hx644_6
        try clear hx644_7
        try clear p2
        try clear p6
        try clear p644
        try clear q6
        try clear q644
        obtain ⟨kq, x10_38, x11_38, rfl, rfl, HA, HJ38, BK641, BK642, BK643, BK645, HB⟩ := hcut
        cases kq with
        | zero => exact absurd HA.out (by simp [spec_l4Go.j2])
        | succ kj38 =>
         have H := HA.out
         clear HA
         simp only [spec_l4Go.j2] at H
         have HC49 := Aside0.mk H
         clear H
         go_upto_if 41 with (fail)
         go_cut [10] (fun v10 wc => ∃ (kq : Nat) (x10_48 : Int), v10 = .int .i64 x10_48 ∧ Aside0 (spec_l4Go.j3 kq l0 x10_48 x11_38 a1_0 a1_1 a1_2 ((rd_T39 l0 a2).f0) ((rd_T39 l0 a2).f1) ((rd_T39 l0 a2).f2) ((rd_T39 l0 a2).f3) ((rd_T39 l0 a2).f4) ((rd_T39 l0 a2).f5) ((rd_T39 l0 a2).f6) ((rd_T39 l0 a2).f7) = some (r1, r2, r3)) ∧ Aside0 (kq ≤ kj38) ∧ Aside0 (wc.heap[gb641]? = some (.cells #[.string a1_0, .int .i64 a1_1, .int .i64 a1_2] 31 (0, 0))) ∧ Aside0 (wc.heap[gb642]? = some (.cells #[.int .i64 a3_0, .bool a3_1] 43 (0, 0))) ∧ Aside0 (wc.heap[gb643]? = some (.cells #[.string (⟨#[]⟩ : ByteArray), .int .i64 0, .int .i64 0] 31 (0, 0))) ∧ Aside0 (wc.heap[gb645]? = some (.cells #[.string ((rd_T39 l0 a2).f0), .int .i64 ((rd_T39 l0 a2).f1), .string ((rd_T39 l0 a2).f2), .string ((rd_T39 l0 a2).f3), .int .i64 ((rd_T39 l0 a2).f4), .int .i64 ((rd_T39 l0 a2).f5), .string ((rd_T39 l0 a2).f6), .string ((rd_T39 l0 a2).f7)] 39 (0, 0))) ∧ Aside0 (Below w.heap.size w wc))
         case first =>
          have H := HC49.out
          clear HC49
          by_cases c50 : x10_38 < 0
          ·rw [if_pos c50] at H
           have c50b0 : decide (x10_38 < 0) = true := decide_eq_true c50
           clear c50
           (first | rw [c50b0] | (simp only [i64_w, i32_w]; rw [c50b0]) | skip)
           have H' := Aside0.mk H
           clear H
           go_wp2
           go_meet
           case rel => exact ⟨_, (0), (by first | rfl | (simp; done) | (simp [*]; done)), H', ⟨by have := HJ6.out; have := HJ32.out; have := HJ38.out; first | omega | exact Nat.le_refl _⟩, (bk BK641), (bk BK642), (bk BK643), (bk BK645), (hbw HB)⟩
          ·rw [if_neg c50] at H
           have c50b0 : decide (x10_38 < 0) = false := decide_eq_false c50
           clear c50
           (first | rw [c50b0] | (simp only [i64_w, i32_w]; rw [c50b0]) | skip)
           have H' := Aside0.mk H
           clear H
           go_wp2
           go_meet
           case rel => exact ⟨_, (x10_38), (by first | rfl | (simp; done) | (simp [*]; done)), H', ⟨by have := HJ6.out; have := HJ32.out; have := HJ38.out; first | omega | exact Nat.le_refl _⟩, (bk BK641), (bk BK642), (bk BK643), (bk BK645), (hbw HB)⟩
         case rest =>
          clear HC49
          try clear c1
          try clear c2
          try clear p2
          try clear c3
          try clear c4
          try clear c5
          try clear c5b0
          try clear c6
          try clear c6b0
          try clear p6
          try clear q6
          try clear hx6
          try clear c8
          try clear c12
          try clear c13
          try clear c14
          try clear c16
          try clear c17
          try clear c19
          try clear c19b0
          try clear c19b1
          try clear c20
          try clear c21
          try clear c22
          try clear c23
          try clear c25
          try clear c26
          try clear c27
          try clear c29
          try clear c30
          try clear c31
          try clear c34
          try clear c35
          try clear c36
          try clear c37
          try clear c40
          try clear c41
          try clear c42
          try clear c44
          try clear c44b0
          try clear c45
          try clear c46
          try clear c47
          try clear c50
          try clear c50b0
          try clear hcz15_0
          try clear hcz15_1
          try clear hcz15_2
          try clear hcz15_3
          try clear hcz15_4
          try clear hcz15_5
          try clear hcz15_6
          try clear hcz15_7
          try clear hcz18_0
          try clear hcz18_1
          try clear hcz24_0
          try clear hcz24_1
          try clear hcz24_2
          try clear hcz24_3
          try clear hcz24_4
          try clear hcz24_5
          try clear hcz24_6
          try clear hcz24_7
          try clear hcz28_0
          try clear hcz28_1
          try clear hcz28_2
          try clear hcz28_3
          try clear hcz28_4
          try clear hcz28_5
          try clear hcz28_6
          try clear hcz28_7
          try clear hcz32_0
          try clear hcz32_1
          try clear hcz32_2
          try clear hcz32_3
          try clear hcz32_4
          try clear hcz32_5
          try clear hcz32_6
          try clear hcz32_7
          try clear hcz38_0
          try clear hcz38_1
          try clear hcz38_2
          try clear hcz38_3
          try clear hcz38_4
          try clear hcz38_5
          try clear hcz38_6
          try clear hcz38_7
          try clear hcz43_0
          try clear hcz43_1
          try clear hcz43_2
          try clear hcz43_3
          try clear hcz43_4
          try clear hcz43_5
          try clear hcz43_6
          try clear hcz43_7
          try clear hcz48_0
          try clear hcz48_1
          try clear hcz48_2
          try clear hcz48_3
          try clear hcz48_4
          try clear hcz48_5
          try clear hcz48_6
          try clear hcz48_7
          try clear hfz15_0
          try clear hfz15_1
          try clear hfz15_2
          try clear hfz15_3
          try clear hfz15_4
          try clear hfz15_5
          try clear hfz15_6
          try clear hfz15_7
          try clear hfz18_0
          try clear hfz18_1
          try clear hfz24_0
          try clear hfz24_1
          try clear hfz24_2
          try clear hfz24_3
          try clear hfz24_4
          try clear hfz24_5
          try clear hfz24_6
          try clear hfz24_7
          try clear hfz28_0
          try clear hfz28_1
          try clear hfz28_2
          try clear hfz28_3
          try clear hfz28_4
          try clear hfz28_5
          try clear hfz28_6
          try clear hfz28_7
          try clear hfz32_0
          try clear hfz32_1
          try clear hfz32_2
          try clear hfz32_3
          try clear hfz32_4
          try clear hfz32_5
          try clear hfz32_6
          try clear hfz32_7
          try clear hfz38_0
          try clear hfz38_1
          try clear hfz38_2
          try clear hfz38_3
          try clear hfz38_4
          try clear hfz38_5
          try clear hfz38_6
          try clear hfz38_7
          try clear hfz43_0
          try clear hfz43_1
          try clear hfz43_2
          try clear hfz43_3
          try clear hfz43_4
          try clear hfz43_5
          try clear hfz43_6
          try clear hfz43_7
          try clear hfz48_0
          try clear hfz48_1
          try clear hfz48_2
          try clear hfz48_3
          try clear hfz48_4
          try clear hfz48_5
          try clear hfz48_6
          try clear hfz48_7
          try clear hx644_0
          try clear hx644_1
          try clear hx644_2
          try clear hx644_3
          try clear hx644_4
          try clear hx644_5
          try clear hx644_6
          try clear hx644_7
          try clear p2
          try clear p6
          try clear p644
          try clear q6
          try clear q644
          obtain ⟨kq, x10_48, rfl, HA, HJ48, BK641, BK642, BK643, BK645, HB⟩ := hcut
          cases kq with
          | zero => exact absurd HA.out (by simp [spec_l4Go.j3])
          | succ kj48 =>
           have H := HA.out
           clear HA
           simp only [spec_l4Go.j3] at H
           by_cases c51 : x11_38 = true
           ·subst c51
            have H1 : ((spec_l4At.f kj48 l0 ((rd_T39 l0 a2).f6) (wrap64 (a1_1 + x10_48))).bind fun bt646 => (some (bt646.1, bt646.2.1, bt646.2.2))) = some (r1, r2, r3) := by rw [if_pos rfl] at H; exact H
            clear H
            have H := H1
            clear H1
            replace H := Option.bind_eq_some_iff.mp H
            obtain ⟨⟨t646, t647, t648⟩, A520, H⟩ := H
            replace H : (some (t646, t647, t648)) = some (r1, r2, r3) := H
            have A52 := Aside0.mk A520
            clear A520
            simp only [Option.some.injEq, Prod.mk.injEq] at H
            obtain ⟨rfl, rfl, rfl⟩ := H
            have hnb53 := NB645_641.out
            have hnc53 := NB641_645.out
            have hnb54 := NB645_642.out
            have hnc54 := NB642_645.out
            have hnb55 := NB645_643.out
            have hnc55 := NB643_645.out
            have hcz56_0 := b0 BK645
            have hcz56_1 := b1 BK645
            have hcz56_2 := b2 BK645
            have hcz56_3 := b3 BK645
            have hcz56_4 := b4 BK645
            have hcz56_5 := b5 BK645
            have hcz56_6 := b6 BK645
            have hcz56_7 := b7 BK645
            have hfz56_0 := fz BK645 0
            have hfz56_1 := fz BK645 1
            have hfz56_2 := fz BK645 2
            have hfz56_3 := fz BK645 3
            have hfz56_4 := fz BK645 4
            have hfz56_5 := fz BK645 5
            have hfz56_6 := fz BK645 6
            have hfz56_7 := fz BK645 7
            have hnb57 := NB641_642.out
            have hnc57 := NB642_641.out
            have hnb58 := NB641_643.out
            have hnc58 := NB643_641.out
            have hcz59_0 := b0 BK641
            have hcz59_1 := b1 BK641
            have hcz59_2 := b2 BK641
            have hfz59_0 := fz BK641 0
            have hfz59_1 := fz BK641 1
            have hfz59_2 := fz BK641 2
            go_wp2_with (first | ((with_reducible refine gate_callee (f := 86) rfl ?_); refine goesL_ (some 50) rfl rfl Try.func86 (by kernel_rfl) rfl #[.slice (some ad644) l0.length c0, .string ((rd_T39 l0 a2).f6), .int .i64 (wrap64 (a1_1 + x10_48))] rfl mxp ?_; (with_reducible refine (spec_l4At.calls kj48 _ _ l0 ((rd_T39 l0 a2).f6) (wrap64 (a1_1 + x10_48)) t646 t647 t648 _ ?side1 ?side2 A52.out).mono ?_); (case side1 => exact cx (Kd.C_below HR0.out HB.out)); (case side2 => exact HC0.out); rintro e w60 ⟨rfl, hb⟩; refine ⟨_, rfl, ?_⟩; replace BK641 := up BK641 hb; replace BK642 := up BK642 hb; replace BK643 := up BK643 hb; replace BK645 := up BK645 hb; replace HB := bs HB hb; (try clear hb); (try clear hb2); (try clear hk); (try clear hi); have hnb61 := NB643_642.out; have hnc61 := NB642_643.out; have hcz62_0 := b0 BK643; have hcz62_1 := b1 BK643; have hcz62_2 := b2 BK643; have hfz62_0 := fz BK643 0; have hfz62_1 := fz BK643 1; have hfz62_2 := fz BK643 2))
            refine bodyPost_ret (results_cell_row rfl _ _ gb643 31 #[.string t646, .int .i64 t647, .int .i64 t648] (0, 0) _ rfl (by refine bx ?_; refine blk_put (cs := #[.string t646, .int .i64 t647, .int .i64 0]) ?_ 2 _ rfl; refine bx ?_; refine blk_put (cs := #[.string t646, .int .i64 0, .int .i64 0]) ?_ 1 _ rfl; refine bx ?_; refine blk_put (cs := #[.string (⟨#[]⟩ : ByteArray), .int .i64 0, .int .i64 0]) ?_ 0 _ rfl; refine bx ?_; exact BK643.out) Try.underlying31 rfl (by kernel_rfl)) rfl ?_
            exact ⟨exq, bw HB.out⟩
           ·replace c51 := Bool.eq_false_iff.mpr c51
            subst c51
            have H1 : ((spec_l4At.f kj48 l0 ((rd_T39 l0 a2).f7) (wrap64 (a1_1 + x10_48))).bind fun bt649 => (some (bt649.1, bt649.2.1, bt649.2.2))) = some (r1, r2, r3) := by rw [if_neg (show ¬ (false = true) by decide)] at H; exact H
            clear H
            have H := H1
            clear H1
            replace H := Option.bind_eq_some_iff.mp H
            obtain ⟨⟨t649, t650, t651⟩, A630, H⟩ := H
            replace H : (some (t649, t650, t651)) = some (r1, r2, r3) := H
            have A63 := Aside0.mk A630
            clear A630
            simp only [Option.some.injEq, Prod.mk.injEq] at H
            obtain ⟨rfl, rfl, rfl⟩ := H
            have hnb64 := NB645_641.out
            have hnc64 := NB641_645.out
            have hnb65 := NB645_642.out
            have hnc65 := NB642_645.out
            have hnb66 := NB645_643.out
            have hnc66 := NB643_645.out
            have hcz67_0 := b0 BK645
            have hcz67_1 := b1 BK645
            have hcz67_2 := b2 BK645
            have hcz67_3 := b3 BK645
            have hcz67_4 := b4 BK645
            have hcz67_5 := b5 BK645
            have hcz67_6 := b6 BK645
            have hcz67_7 := b7 BK645
            have hfz67_0 := fz BK645 0
            have hfz67_1 := fz BK645 1
            have hfz67_2 := fz BK645 2
            have hfz67_3 := fz BK645 3
            have hfz67_4 := fz BK645 4
            have hfz67_5 := fz BK645 5
            have hfz67_6 := fz BK645 6
            have hfz67_7 := fz BK645 7
            have hnb68 := NB641_642.out
            have hnc68 := NB642_641.out
            have hnb69 := NB641_643.out
            have hnc69 := NB643_641.out
            have hcz70_0 := b0 BK641
            have hcz70_1 := b1 BK641
            have hcz70_2 := b2 BK641
            have hfz70_0 := fz BK641 0
            have hfz70_1 := fz BK641 1
            have hfz70_2 := fz BK641 2
            go_wp2_with (first | ((with_reducible refine gate_callee (f := 86) rfl ?_); refine goesL_ (some 58) rfl rfl Try.func86 (by kernel_rfl) rfl #[.slice (some ad644) l0.length c0, .string ((rd_T39 l0 a2).f7), .int .i64 (wrap64 (a1_1 + x10_48))] rfl mxp ?_; (with_reducible refine (spec_l4At.calls kj48 _ _ l0 ((rd_T39 l0 a2).f7) (wrap64 (a1_1 + x10_48)) t649 t650 t651 _ ?side1 ?side2 A63.out).mono ?_); (case side1 => exact cx (Kd.C_below HR0.out HB.out)); (case side2 => exact HC0.out); rintro e w71 ⟨rfl, hb⟩; refine ⟨_, rfl, ?_⟩; replace BK641 := up BK641 hb; replace BK642 := up BK642 hb; replace BK643 := up BK643 hb; replace BK645 := up BK645 hb; replace HB := bs HB hb; (try clear hb); (try clear hb2); (try clear hk); (try clear hi); have hnb72 := NB643_642.out; have hnc72 := NB642_643.out; have hcz73_0 := b0 BK643; have hcz73_1 := b1 BK643; have hcz73_2 := b2 BK643; have hfz73_0 := fz BK643 0; have hfz73_1 := fz BK643 1; have hfz73_2 := fz BK643 2))
            refine bodyPost_ret (results_cell_row rfl _ _ gb643 31 #[.string t649, .int .i64 t650, .int .i64 t651] (0, 0) _ rfl (by refine bx ?_; refine blk_put (cs := #[.string t649, .int .i64 t650, .int .i64 0]) ?_ 2 _ rfl; refine bx ?_; refine blk_put (cs := #[.string t649, .int .i64 0, .int .i64 0]) ?_ 1 _ rfl; refine bx ?_; refine blk_put (cs := #[.string (⟨#[]⟩ : ByteArray), .int .i64 0, .int .i64 0]) ?_ 0 _ rfl; refine bx ?_; exact BK643.out) Try.underlying31 rfl (by kernel_rfl)) rfl ?_
            exact ⟨exq, bw HB.out⟩
  ·rw [if_neg c6] at H
   exact absurd H (by simp)
 ·rw [if_neg c5] at H
  exact absurd H (by simp)


/-! ### spec_RecGo: function 47 -/
def spec_RecGo.f (k : Nat) (l0 : List (S39)) (a1_0 : ByteArray) (a1_1 : Int) (a1_2 : Int) (a2_0 : Int) (a2_1 : Bool) : Option (ByteArray × Int × Int × Bool) := (spec_l2At.f k l0 a1_0).bind fun t655 => ((spec_RecOk.f k l0).bind fun t656 => (if t656 = true then (if t655 < 0 then (some (a1_0, a1_1, a1_2, false)) else ((spec_l1In.f a1_1 0 12000).bind fun t657 => (if t657 = true then ((spec_l4Go.f k l0 a1_0 a1_1 a1_2 t655 a2_0 a2_1).bind fun bt658 => (some (bt658.1, bt658.2.1, bt658.2.2, true))) else (some (a1_0, a1_1, a1_2, false))))) else (some (a1_0, a1_1, a1_2, false))))
theorem spec_RecGo.mono : ∀ a0 a1 a2 a3 a4 a5 k, LeO (spec_RecGo.f k a0 a1 a2 a3 a4 a5) (spec_RecGo.f (k + 1) a0 a1 a2 a3 a4 a5) := by
 intro a0 a1 a2 a3 a4 a5 k
 unfold spec_RecGo.f
 repeat' first
   | (with_reducible exact spec_RecOk.mono _ _)
   | (with_reducible exact spec_l2At.mono _ _ _)
   | (with_reducible exact spec_l4Go.mono _ _ _ _ _ _ _ _)
   | (with_reducible exact LeO.refl _)
   | (with_reducible exact LeO.none _)
   | (with_reducible refine LeO.ite ?_ ?_)
   | (with_reducible refine LeO.bind ?_ (fun _ => ?_))
   | exact spec_RecOk.mono _ _
   | exact spec_l2At.mono _ _ _
   | exact spec_l4Go.mono _ _ _ _ _ _ _ _
   | exact LeO.none _
   | refine LeO.ite ?_ ?_
   | refine LeO.bind ?_ (fun _ => ?_)
set_option maxHeartbeats 8000000 in
set_option maxRecDepth 100000 in
theorem spec_RecGo.calls (k : Nat) (A0 : Option Addr) (c0 : Nat) (l0 : List (S39)) (a1_0 : ByteArray) (a1_1 : Int) (a1_2 : Int) (a2_0 : Int) (a2_1 : Bool) (r1 : ByteArray) (r2 : Int) (r3 : Int) (r4 : Bool) (w : World) (hr0 : Kd.C k39 w A0 l0.length l0) (hc0 : l0.length ≤ c0) (h : spec_RecGo.f k l0 a1_0 a1_1 a1_2 a2_0 a2_1 = some (r1, r2, r3, r4)) :
  Calls Try.prog 47 #[.slice A0 l0.length c0, .agg #[.string a1_0, .int .i64 a1_1, .int .i64 a1_2], .agg #[.int .i64 a2_0, .bool a2_1]] w fun e w' => e = .returned (.tuple #[.agg #[.string r1, .int .i64 r2, .int .i64 r3], .bool r4]) ∧ Below w.heap.size w w' := by
 have hu31 := Try.underlying31
 have hu43 := Try.underlying43
 have HR0 := Aside0.mk hr0
 have HC0 := Aside0.mk hc0
 clear hr0 hc0
 have HB := Aside0.mk (Below.refl w.heap.size w)
 have H : ((spec_l2At.f k l0 a1_0).bind fun t655 => ((spec_RecOk.f k l0).bind fun t656 => (if t656 = true then (if t655 < 0 then (some (a1_0, a1_1, a1_2, false)) else ((spec_l1In.f a1_1 0 12000).bind fun t657 => (if t657 = true then ((spec_l4Go.f k l0 a1_0 a1_1 a1_2 t655 a2_0 a2_1).bind fun bt658 => (some (bt658.1, bt658.2.1, bt658.2.2, true))) else (some (a1_0, a1_1, a1_2, false))))) else (some (a1_0, a1_1, a1_2, false))))) = some (r1, r2, r3, r4) := h
 clear h
 replace H := Option.bind_eq_some_iff.mp H
 obtain ⟨t655, A40, H⟩ := H
 replace H : ((spec_RecOk.f k l0).bind fun t656 => (if t656 = true then (if t655 < 0 then (some (a1_0, a1_1, a1_2, false)) else ((spec_l1In.f a1_1 0 12000).bind fun t657 => (if t657 = true then ((spec_l4Go.f k l0 a1_0 a1_1 a1_2 t655 a2_0 a2_1).bind fun bt658 => (some (bt658.1, bt658.2.1, bt658.2.2, true))) else (some (a1_0, a1_1, a1_2, false))))) else (some (a1_0, a1_1, a1_2, false)))) = some (r1, r2, r3, r4) := H
 have A4 := Aside0.mk A40
 clear A40
 replace H := Option.bind_eq_some_iff.mp H
 obtain ⟨t656, A50, H⟩ := H
 replace H : (if t656 = true then (if t655 < 0 then (some (a1_0, a1_1, a1_2, false)) else ((spec_l1In.f a1_1 0 12000).bind fun t657 => (if t657 = true then ((spec_l4Go.f k l0 a1_0 a1_1 a1_2 t655 a2_0 a2_1).bind fun bt658 => (some (bt658.1, bt658.2.1, bt658.2.2, true))) else (some (a1_0, a1_1, a1_2, false))))) else (some (a1_0, a1_1, a1_2, false))) = some (r1, r2, r3, r4) := H
 have A5 := Aside0.mk A50
 clear A50
 by_cases c6 : t656 = true
 ·subst c6
  have H1 : (if t655 < 0 then (some (a1_0, a1_1, a1_2, false)) else ((spec_l1In.f a1_1 0 12000).bind fun t657 => (if t657 = true then ((spec_l4Go.f k l0 a1_0 a1_1 a1_2 t655 a2_0 a2_1).bind fun bt658 => (some (bt658.1, bt658.2.1, bt658.2.2, true))) else (some (a1_0, a1_1, a1_2, false))))) = some (r1, r2, r3, r4) := by rw [if_pos rfl] at H; exact H
  clear H
  have H := H1
  clear H1
  by_cases c7 : t655 < 0
  ·rw [if_pos c7] at H
   have c7b0 : decide (t655 < 0) = true := decide_eq_true c7
   clear c7
   simp only [Option.some.injEq, Prod.mk.injEq] at H
   obtain ⟨rfl, rfl, rfl, rfl⟩ := H
   go_enter Try.func47, Try.ntmps47
   go_wp2_with (first | ((with_reducible refine gate_dst (N := 4) rfl ?_); refine box_event ?hg (N := 4) ?hd (cs := #[.string a1_0, .int .i64 a1_1, .int .i64 a1_2]) (t := 31) ?hr ?_; (case hd => rfl); (case hg => rfl); (case hr => first | (go_simp; done) | (go_simp; rfl)); intro gb652 hg w8 hbox hb; have n0_ := bs HB hb; have n1_ := Aside0.mk (hbox); have n2_ := gh hg HB; have n3_ := gh hg HB; clear HB; have HB := n0_; have BK652 := n1_; have GW652 := n2_; have GE652 := n3_; clear n0_ n1_ n2_ n3_; clear hb hbox hg) | ((with_reducible refine gate_dst (N := 5) rfl ?_); refine box_event ?hg (N := 5) ?hd (cs := #[.int .i64 a2_0, .bool a2_1]) (t := 43) ?hr ?_; (case hd => rfl); (case hg => rfl); (case hr => first | (go_simp; done) | (go_simp; rfl)); intro gb653 hg w9 hbox hb; have n0_ := up BK652 hb; have n1_ := bs HB hb; have n2_ := Aside0.mk (hbox); have n3_ := gh hg HB; have n4_ := gh hg HB; have n5_ := nlt' hg BK652; have n6_ := ngt' hg BK652; clear BK652; clear HB; have BK652 := n0_; have HB := n1_; have BK653 := n2_; have GW653 := n3_; have GE653 := n4_; have NB652_653 := n5_; have NB653_652 := n6_; clear n0_ n1_ n2_ n3_ n4_ n5_ n6_; clear hb hbox hg) | ((with_reducible refine gate_dst (N := 6) rfl ?_); refine box_event ?hg (N := 6) ?hd (cs := #[.string (⟨#[]⟩ : ByteArray), .int .i64 0, .int .i64 0]) (t := 31) ?hr ?_; (case hd => rfl); (case hg => rfl); (case hr => first | (go_simp; done) | (go_simp; rfl)); intro gb654 hg w10 hbox hb; have n0_ := up BK652 hb; have n1_ := up BK653 hb; have n2_ := bs HB hb; have n3_ := Aside0.mk (hbox); have n4_ := gh hg HB; have n5_ := gh hg HB; have n6_ := nlt' hg BK652; have n7_ := ngt' hg BK652; have n8_ := nlt' hg BK653; have n9_ := ngt' hg BK653; clear BK652; clear BK653; clear HB; have BK652 := n0_; have BK653 := n1_; have HB := n2_; have BK654 := n3_; have GW654 := n4_; have GE654 := n5_; have NB652_654 := n6_; have NB654_652 := n7_; have NB653_654 := n8_; have NB654_653 := n9_; clear n0_ n1_ n2_ n3_ n4_ n5_ n6_ n7_ n8_ n9_; clear hb hbox hg; have hnb11 := NB652_653.out; have hnc11 := NB653_652.out; have hnb12 := NB652_654.out; have hnc12 := NB654_652.out; have hcz13_0 := b0 BK652; have hcz13_1 := b1 BK652; have hcz13_2 := b2 BK652; have hfz13_0 := fz BK652 0; have hfz13_1 := fz BK652 1; have hfz13_2 := fz BK652 2) | ((with_reducible refine gate_callee (f := 66) rfl ?_); refine goesL_ (some 12) rfl rfl Try.func66 (by kernel_rfl) rfl #[.slice A0 l0.length c0, .string a1_0] rfl mxp ?_; (with_reducible refine (spec_l2At.calls k _ _ l0 a1_0 t655 _ ?side1 ?side2 A4.out).mono ?_); (case side1 => exact cx (Kd.C_below HR0.out HB.out)); (case side2 => exact HC0.out); rintro e w' ⟨rfl, ⟨nd, rfl⟩⟩; refine ⟨_, rfl, ?_⟩; (try (rw [drewN_self w10]; generalize hq_ : World.drewN w10 _ = w10; have n0_ : Aside0 (w10.heap[gb652]? = some (.cells #[.string a1_0, .int .i64 a1_1, .int .i64 a1_2] 31 (0, 0))) := ⟨by rw [← hq_]; exact (bx BK652.out)⟩; have n1_ : Aside0 (w10.heap[gb653]? = some (.cells #[.int .i64 a2_0, .bool a2_1] 43 (0, 0))) := ⟨by rw [← hq_]; exact (bx BK653.out)⟩; have n2_ : Aside0 (w10.heap[gb654]? = some (.cells #[.string (⟨#[]⟩ : ByteArray), .int .i64 0, .int .i64 0] 31 (0, 0))) := ⟨by rw [← hq_]; exact (bx BK654.out)⟩; have n3_ : Aside0 (Below w.heap.size w w10) := ⟨by rw [← hq_]; exact (bw HB.out)⟩; clear BK652 BK653 BK654 HB hq_; have BK652 := n0_; have BK653 := n1_; have BK654 := n2_; have HB := n3_; clear n0_ n1_ n2_ n3_))) | ((with_reducible refine gate_callee (f := 24) rfl ?_); refine goesL_ (some 14) rfl rfl Try.func24 (by kernel_rfl) rfl #[.slice A0 l0.length c0] rfl mxp ?_; (with_reducible refine (spec_RecOk.calls k _ _ l0 true _ ?side1 ?side2 A5.out).mono ?_); (case side1 => exact cx (Kd.C_below HR0.out HB.out)); (case side2 => exact HC0.out); rintro e w14 ⟨rfl, hb⟩; refine ⟨_, rfl, ?_⟩; replace BK652 := up BK652 hb; replace BK653 := up BK653 hb; replace BK654 := up BK654 hb; replace HB := bs HB hb; (try clear hb); (try clear hb2); (try clear hk); (try clear hi); have hcz15_0 := b0 BK652; have hcz15_1 := b1 BK652; have hcz15_2 := b2 BK652; have hfz15_0 := fz BK652 0; have hfz15_1 := fz BK652 1; have hfz15_2 := fz BK652 2; have hnb16 := NB654_653.out; have hnc16 := NB653_654.out; have hcz17_0 := b0 BK654; have hcz17_1 := b1 BK654; have hcz17_2 := b2 BK654; have hfz17_0 := fz BK654 0; have hfz17_1 := fz BK654 1; have hfz17_2 := fz BK654 2))
   refine bodyPost_ret (results_ct rfl _ _ gb654 31 #[.string a1_0, .int .i64 a1_1, .int .i64 a1_2] (0, 0) _ rfl (by refine bx ?_; refine blk_put (cs := #[.string a1_0, .int .i64 a1_1, .int .i64 0]) ?_ 2 _ rfl; refine bx ?_; refine blk_put (cs := #[.string a1_0, .int .i64 0, .int .i64 0]) ?_ 1 _ rfl; refine bx ?_; refine blk_put (cs := #[.string (⟨#[]⟩ : ByteArray), .int .i64 0, .int .i64 0]) ?_ 0 _ rfl; refine bx ?_; exact BK654.out) Try.underlying31 rfl (by kernel_rfl)) rfl ?_
   exact ⟨exq, bw HB.out⟩
  ·rw [if_neg c7] at H
   have c7b0 : decide (t655 < 0) = false := decide_eq_false c7
   clear c7
   replace H := Option.bind_eq_some_iff.mp H
   obtain ⟨t657, A180, H⟩ := H
   replace H : (if t657 = true then ((spec_l4Go.f k l0 a1_0 a1_1 a1_2 t655 a2_0 a2_1).bind fun bt658 => (some (bt658.1, bt658.2.1, bt658.2.2, true))) else (some (a1_0, a1_1, a1_2, false))) = some (r1, r2, r3, r4) := H
   have A18 := Aside0.mk A180
   clear A180
   by_cases c19 : t657 = true
   ·subst c19
    have H1 : ((spec_l4Go.f k l0 a1_0 a1_1 a1_2 t655 a2_0 a2_1).bind fun bt658 => (some (bt658.1, bt658.2.1, bt658.2.2, true))) = some (r1, r2, r3, r4) := by rw [if_pos rfl] at H; exact H
    clear H
    have H := H1
    clear H1
    replace H := Option.bind_eq_some_iff.mp H
    obtain ⟨⟨t658, t659, t660⟩, A200, H⟩ := H
    replace H : (some (t658, t659, t660, true)) = some (r1, r2, r3, r4) := H
    have A20 := Aside0.mk A200
    clear A200
    simp only [Option.some.injEq, Prod.mk.injEq] at H
    obtain ⟨rfl, rfl, rfl, rfl⟩ := H
    go_enter Try.func47, Try.ntmps47
    go_wp2_with (first | ((with_reducible refine gate_dst (N := 4) rfl ?_); refine box_event ?hg (N := 4) ?hd (cs := #[.string a1_0, .int .i64 a1_1, .int .i64 a1_2]) (t := 31) ?hr ?_; (case hd => rfl); (case hg => rfl); (case hr => first | (go_simp; done) | (go_simp; rfl)); intro gb652 hg w21 hbox hb; have n0_ := bs HB hb; have n1_ := Aside0.mk (hbox); have n2_ := gh hg HB; have n3_ := gh hg HB; clear HB; have HB := n0_; have BK652 := n1_; have GW652 := n2_; have GE652 := n3_; clear n0_ n1_ n2_ n3_; clear hb hbox hg) | ((with_reducible refine gate_dst (N := 5) rfl ?_); refine box_event ?hg (N := 5) ?hd (cs := #[.int .i64 a2_0, .bool a2_1]) (t := 43) ?hr ?_; (case hd => rfl); (case hg => rfl); (case hr => first | (go_simp; done) | (go_simp; rfl)); intro gb653 hg w22 hbox hb; have n0_ := up BK652 hb; have n1_ := bs HB hb; have n2_ := Aside0.mk (hbox); have n3_ := gh hg HB; have n4_ := gh hg HB; have n5_ := nlt' hg BK652; have n6_ := ngt' hg BK652; clear BK652; clear HB; have BK652 := n0_; have HB := n1_; have BK653 := n2_; have GW653 := n3_; have GE653 := n4_; have NB652_653 := n5_; have NB653_652 := n6_; clear n0_ n1_ n2_ n3_ n4_ n5_ n6_; clear hb hbox hg) | ((with_reducible refine gate_dst (N := 6) rfl ?_); refine box_event ?hg (N := 6) ?hd (cs := #[.string (⟨#[]⟩ : ByteArray), .int .i64 0, .int .i64 0]) (t := 31) ?hr ?_; (case hd => rfl); (case hg => rfl); (case hr => first | (go_simp; done) | (go_simp; rfl)); intro gb654 hg w23 hbox hb; have n0_ := up BK652 hb; have n1_ := up BK653 hb; have n2_ := bs HB hb; have n3_ := Aside0.mk (hbox); have n4_ := gh hg HB; have n5_ := gh hg HB; have n6_ := nlt' hg BK652; have n7_ := ngt' hg BK652; have n8_ := nlt' hg BK653; have n9_ := ngt' hg BK653; clear BK652; clear BK653; clear HB; have BK652 := n0_; have BK653 := n1_; have HB := n2_; have BK654 := n3_; have GW654 := n4_; have GE654 := n5_; have NB652_654 := n6_; have NB654_652 := n7_; have NB653_654 := n8_; have NB654_653 := n9_; clear n0_ n1_ n2_ n3_ n4_ n5_ n6_ n7_ n8_ n9_; clear hb hbox hg; have hnb24 := NB652_653.out; have hnc24 := NB653_652.out; have hnb25 := NB652_654.out; have hnc25 := NB654_652.out; have hcz26_0 := b0 BK652; have hcz26_1 := b1 BK652; have hcz26_2 := b2 BK652; have hfz26_0 := fz BK652 0; have hfz26_1 := fz BK652 1; have hfz26_2 := fz BK652 2) | ((with_reducible refine gate_callee (f := 66) rfl ?_); refine goesL_ (some 12) rfl rfl Try.func66 (by kernel_rfl) rfl #[.slice A0 l0.length c0, .string a1_0] rfl mxp ?_; (with_reducible refine (spec_l2At.calls k _ _ l0 a1_0 t655 _ ?side1 ?side2 A4.out).mono ?_); (case side1 => exact cx (Kd.C_below HR0.out HB.out)); (case side2 => exact HC0.out); rintro e w' ⟨rfl, ⟨nd, rfl⟩⟩; refine ⟨_, rfl, ?_⟩; (try (rw [drewN_self w23]; generalize hq_ : World.drewN w23 _ = w23; have n0_ : Aside0 (w23.heap[gb652]? = some (.cells #[.string a1_0, .int .i64 a1_1, .int .i64 a1_2] 31 (0, 0))) := ⟨by rw [← hq_]; exact (bx BK652.out)⟩; have n1_ : Aside0 (w23.heap[gb653]? = some (.cells #[.int .i64 a2_0, .bool a2_1] 43 (0, 0))) := ⟨by rw [← hq_]; exact (bx BK653.out)⟩; have n2_ : Aside0 (w23.heap[gb654]? = some (.cells #[.string (⟨#[]⟩ : ByteArray), .int .i64 0, .int .i64 0] 31 (0, 0))) := ⟨by rw [← hq_]; exact (bx BK654.out)⟩; have n3_ : Aside0 (Below w.heap.size w w23) := ⟨by rw [← hq_]; exact (bw HB.out)⟩; clear BK652 BK653 BK654 HB hq_; have BK652 := n0_; have BK653 := n1_; have BK654 := n2_; have HB := n3_; clear n0_ n1_ n2_ n3_))) | ((with_reducible refine gate_callee (f := 24) rfl ?_); refine goesL_ (some 14) rfl rfl Try.func24 (by kernel_rfl) rfl #[.slice A0 l0.length c0] rfl mxp ?_; (with_reducible refine (spec_RecOk.calls k _ _ l0 true _ ?side1 ?side2 A5.out).mono ?_); (case side1 => exact cx (Kd.C_below HR0.out HB.out)); (case side2 => exact HC0.out); rintro e w27 ⟨rfl, hb⟩; refine ⟨_, rfl, ?_⟩; replace BK652 := up BK652 hb; replace BK653 := up BK653 hb; replace BK654 := up BK654 hb; replace HB := bs HB hb; (try clear hb); (try clear hb2); (try clear hk); (try clear hi); have hcz28_0 := b0 BK652; have hcz28_1 := b1 BK652; have hcz28_2 := b2 BK652; have hfz28_0 := fz BK652 0; have hfz28_1 := fz BK652 1; have hfz28_2 := fz BK652 2) | (go_at_call 67; (with_reducible refine (spec_l1In.calls a1_1 0 12000 true _ A18.out).mono ?_); rintro e w' ⟨rfl, ⟨nd, rfl⟩⟩; (try (rw [drewN_self w27]; generalize hq_ : World.drewN w27 _ = w27; have n0_ : Aside0 (w27.heap[gb652]? = some (.cells #[.string a1_0, .int .i64 a1_1, .int .i64 a1_2] 31 (0, 0))) := ⟨by rw [← hq_]; exact (bx BK652.out)⟩; have n1_ : Aside0 (w27.heap[gb653]? = some (.cells #[.int .i64 a2_0, .bool a2_1] 43 (0, 0))) := ⟨by rw [← hq_]; exact (bx BK653.out)⟩; have n2_ : Aside0 (w27.heap[gb654]? = some (.cells #[.string (⟨#[]⟩ : ByteArray), .int .i64 0, .int .i64 0] 31 (0, 0))) := ⟨by rw [← hq_]; exact (bx BK654.out)⟩; have n3_ : Aside0 (Below w.heap.size w w27) := ⟨by rw [← hq_]; exact (bw HB.out)⟩; clear BK652 BK653 BK654 HB hq_; have BK652 := n0_; have BK653 := n1_; have BK654 := n2_; have HB := n3_; clear n0_ n1_ n2_ n3_)); have hcq0 : w27.cell? ⟨gb652, 0, none⟩ = some (.string a1_0) := (blk_cell BK652.out 0).trans rfl; have hcq1 : w27.cell? ⟨gb652, 1, none⟩ = some (.int .i64 a1_1) := (blk_cell BK652.out 1).trans rfl; have hcq2 : w27.cell? ⟨gb652, 2, none⟩ = some (.int .i64 a1_2) := (blk_cell BK652.out 2).trans rfl; have hnb29 := NB653_654.out; have hnc29 := NB654_653.out; have hcz30_0 := b0 BK653; have hcz30_1 := b1 BK653; have hfz30_0 := fz BK653 0; have hfz30_1 := fz BK653 1) | ((with_reducible refine gate_callee (f := 88) rfl ?_); refine goesL_ (some 31) rfl rfl Try.func88 (by kernel_rfl) rfl #[.slice A0 l0.length c0, .agg #[.string a1_0, .int .i64 a1_1, .int .i64 a1_2], .int .i64 t655, .agg #[.int .i64 a2_0, .bool a2_1]] rfl mxp ?_; (with_reducible refine (spec_l4Go.calls k _ _ l0 a1_0 a1_1 a1_2 t655 a2_0 a2_1 t658 t659 t660 _ ?side1 ?side2 A20.out).mono ?_); (case side1 => exact cx (Kd.C_below HR0.out HB.out)); (case side2 => exact HC0.out); rintro e w31 ⟨rfl, hb⟩; refine ⟨_, rfl, ?_⟩; replace BK652 := up BK652 hb; replace BK653 := up BK653 hb; replace BK654 := up BK654 hb; replace HB := bs HB hb; (try clear hb); (try clear hb2); (try clear hk); (try clear hi); have hcz32_0 := b0 BK654; have hcz32_1 := b1 BK654; have hcz32_2 := b2 BK654; have hfz32_0 := fz BK654 0; have hfz32_1 := fz BK654 1; have hfz32_2 := fz BK654 2))
    refine bodyPost_ret (results_ct rfl _ _ gb654 31 #[.string t658, .int .i64 t659, .int .i64 t660] (0, 0) _ rfl (by refine bx ?_; refine blk_put (cs := #[.string t658, .int .i64 t659, .int .i64 0]) ?_ 2 _ rfl; refine bx ?_; refine blk_put (cs := #[.string t658, .int .i64 0, .int .i64 0]) ?_ 1 _ rfl; refine bx ?_; refine blk_put (cs := #[.string (⟨#[]⟩ : ByteArray), .int .i64 0, .int .i64 0]) ?_ 0 _ rfl; refine bx ?_; exact BK654.out) Try.underlying31 rfl (by kernel_rfl)) rfl ?_
    exact ⟨exq, bw HB.out⟩
   ·replace c19 := Bool.eq_false_iff.mpr c19
    subst c19
    have H1 : (some (a1_0, a1_1, a1_2, false)) = some (r1, r2, r3, r4) := by rw [if_neg (show ¬ (false = true) by decide)] at H; exact H
    clear H
    have H := H1
    clear H1
    simp only [Option.some.injEq, Prod.mk.injEq] at H
    obtain ⟨rfl, rfl, rfl, rfl⟩ := H
    go_enter Try.func47, Try.ntmps47
    go_wp2_with (first | ((with_reducible refine gate_dst (N := 4) rfl ?_); refine box_event ?hg (N := 4) ?hd (cs := #[.string a1_0, .int .i64 a1_1, .int .i64 a1_2]) (t := 31) ?hr ?_; (case hd => rfl); (case hg => rfl); (case hr => first | (go_simp; done) | (go_simp; rfl)); intro gb652 hg w33 hbox hb; have n0_ := bs HB hb; have n1_ := Aside0.mk (hbox); have n2_ := gh hg HB; have n3_ := gh hg HB; clear HB; have HB := n0_; have BK652 := n1_; have GW652 := n2_; have GE652 := n3_; clear n0_ n1_ n2_ n3_; clear hb hbox hg) | ((with_reducible refine gate_dst (N := 5) rfl ?_); refine box_event ?hg (N := 5) ?hd (cs := #[.int .i64 a2_0, .bool a2_1]) (t := 43) ?hr ?_; (case hd => rfl); (case hg => rfl); (case hr => first | (go_simp; done) | (go_simp; rfl)); intro gb653 hg w34 hbox hb; have n0_ := up BK652 hb; have n1_ := bs HB hb; have n2_ := Aside0.mk (hbox); have n3_ := gh hg HB; have n4_ := gh hg HB; have n5_ := nlt' hg BK652; have n6_ := ngt' hg BK652; clear BK652; clear HB; have BK652 := n0_; have HB := n1_; have BK653 := n2_; have GW653 := n3_; have GE653 := n4_; have NB652_653 := n5_; have NB653_652 := n6_; clear n0_ n1_ n2_ n3_ n4_ n5_ n6_; clear hb hbox hg) | ((with_reducible refine gate_dst (N := 6) rfl ?_); refine box_event ?hg (N := 6) ?hd (cs := #[.string (⟨#[]⟩ : ByteArray), .int .i64 0, .int .i64 0]) (t := 31) ?hr ?_; (case hd => rfl); (case hg => rfl); (case hr => first | (go_simp; done) | (go_simp; rfl)); intro gb654 hg w35 hbox hb; have n0_ := up BK652 hb; have n1_ := up BK653 hb; have n2_ := bs HB hb; have n3_ := Aside0.mk (hbox); have n4_ := gh hg HB; have n5_ := gh hg HB; have n6_ := nlt' hg BK652; have n7_ := ngt' hg BK652; have n8_ := nlt' hg BK653; have n9_ := ngt' hg BK653; clear BK652; clear BK653; clear HB; have BK652 := n0_; have BK653 := n1_; have HB := n2_; have BK654 := n3_; have GW654 := n4_; have GE654 := n5_; have NB652_654 := n6_; have NB654_652 := n7_; have NB653_654 := n8_; have NB654_653 := n9_; clear n0_ n1_ n2_ n3_ n4_ n5_ n6_ n7_ n8_ n9_; clear hb hbox hg; have hnb36 := NB652_653.out; have hnc36 := NB653_652.out; have hnb37 := NB652_654.out; have hnc37 := NB654_652.out; have hcz38_0 := b0 BK652; have hcz38_1 := b1 BK652; have hcz38_2 := b2 BK652; have hfz38_0 := fz BK652 0; have hfz38_1 := fz BK652 1; have hfz38_2 := fz BK652 2) | ((with_reducible refine gate_callee (f := 66) rfl ?_); refine goesL_ (some 12) rfl rfl Try.func66 (by kernel_rfl) rfl #[.slice A0 l0.length c0, .string a1_0] rfl mxp ?_; (with_reducible refine (spec_l2At.calls k _ _ l0 a1_0 t655 _ ?side1 ?side2 A4.out).mono ?_); (case side1 => exact cx (Kd.C_below HR0.out HB.out)); (case side2 => exact HC0.out); rintro e w' ⟨rfl, ⟨nd, rfl⟩⟩; refine ⟨_, rfl, ?_⟩; (try (rw [drewN_self w35]; generalize hq_ : World.drewN w35 _ = w35; have n0_ : Aside0 (w35.heap[gb652]? = some (.cells #[.string a1_0, .int .i64 a1_1, .int .i64 a1_2] 31 (0, 0))) := ⟨by rw [← hq_]; exact (bx BK652.out)⟩; have n1_ : Aside0 (w35.heap[gb653]? = some (.cells #[.int .i64 a2_0, .bool a2_1] 43 (0, 0))) := ⟨by rw [← hq_]; exact (bx BK653.out)⟩; have n2_ : Aside0 (w35.heap[gb654]? = some (.cells #[.string (⟨#[]⟩ : ByteArray), .int .i64 0, .int .i64 0] 31 (0, 0))) := ⟨by rw [← hq_]; exact (bx BK654.out)⟩; have n3_ : Aside0 (Below w.heap.size w w35) := ⟨by rw [← hq_]; exact (bw HB.out)⟩; clear BK652 BK653 BK654 HB hq_; have BK652 := n0_; have BK653 := n1_; have BK654 := n2_; have HB := n3_; clear n0_ n1_ n2_ n3_))) | ((with_reducible refine gate_callee (f := 24) rfl ?_); refine goesL_ (some 14) rfl rfl Try.func24 (by kernel_rfl) rfl #[.slice A0 l0.length c0] rfl mxp ?_; (with_reducible refine (spec_RecOk.calls k _ _ l0 true _ ?side1 ?side2 A5.out).mono ?_); (case side1 => exact cx (Kd.C_below HR0.out HB.out)); (case side2 => exact HC0.out); rintro e w39 ⟨rfl, hb⟩; refine ⟨_, rfl, ?_⟩; replace BK652 := up BK652 hb; replace BK653 := up BK653 hb; replace BK654 := up BK654 hb; replace HB := bs HB hb; (try clear hb); (try clear hb2); (try clear hk); (try clear hi); have hcz40_0 := b0 BK652; have hcz40_1 := b1 BK652; have hcz40_2 := b2 BK652; have hfz40_0 := fz BK652 0; have hfz40_1 := fz BK652 1; have hfz40_2 := fz BK652 2) | (go_at_call 67; (with_reducible refine (spec_l1In.calls a1_1 0 12000 false _ A18.out).mono ?_); rintro e w' ⟨rfl, ⟨nd, rfl⟩⟩; (try (rw [drewN_self w39]; generalize hq_ : World.drewN w39 _ = w39; have n0_ : Aside0 (w39.heap[gb652]? = some (.cells #[.string a1_0, .int .i64 a1_1, .int .i64 a1_2] 31 (0, 0))) := ⟨by rw [← hq_]; exact (bx BK652.out)⟩; have n1_ : Aside0 (w39.heap[gb653]? = some (.cells #[.int .i64 a2_0, .bool a2_1] 43 (0, 0))) := ⟨by rw [← hq_]; exact (bx BK653.out)⟩; have n2_ : Aside0 (w39.heap[gb654]? = some (.cells #[.string (⟨#[]⟩ : ByteArray), .int .i64 0, .int .i64 0] 31 (0, 0))) := ⟨by rw [← hq_]; exact (bx BK654.out)⟩; have n3_ : Aside0 (Below w.heap.size w w39) := ⟨by rw [← hq_]; exact (bw HB.out)⟩; clear BK652 BK653 BK654 HB hq_; have BK652 := n0_; have BK653 := n1_; have BK654 := n2_; have HB := n3_; clear n0_ n1_ n2_ n3_)); have hcq0 : w39.cell? ⟨gb652, 0, none⟩ = some (.string a1_0) := (blk_cell BK652.out 0).trans rfl; have hcq1 : w39.cell? ⟨gb652, 1, none⟩ = some (.int .i64 a1_1) := (blk_cell BK652.out 1).trans rfl; have hcq2 : w39.cell? ⟨gb652, 2, none⟩ = some (.int .i64 a1_2) := (blk_cell BK652.out 2).trans rfl; have hnb41 := NB654_653.out; have hnc41 := NB653_654.out; have hcz42_0 := b0 BK654; have hcz42_1 := b1 BK654; have hcz42_2 := b2 BK654; have hfz42_0 := fz BK654 0; have hfz42_1 := fz BK654 1; have hfz42_2 := fz BK654 2))
    refine bodyPost_ret (results_ct rfl _ _ gb654 31 #[.string a1_0, .int .i64 a1_1, .int .i64 a1_2] (0, 0) _ rfl (by refine bx ?_; refine blk_put (cs := #[.string a1_0, .int .i64 a1_1, .int .i64 0]) ?_ 2 _ rfl; refine bx ?_; refine blk_put (cs := #[.string a1_0, .int .i64 0, .int .i64 0]) ?_ 1 _ rfl; refine bx ?_; refine blk_put (cs := #[.string (⟨#[]⟩ : ByteArray), .int .i64 0, .int .i64 0]) ?_ 0 _ rfl; refine bx ?_; exact BK654.out) Try.underlying31 rfl (by kernel_rfl)) rfl ?_
    exact ⟨exq, bw HB.out⟩
 ·replace c6 := Bool.eq_false_iff.mpr c6
  subst c6
  have H1 : (some (a1_0, a1_1, a1_2, false)) = some (r1, r2, r3, r4) := by rw [if_neg (show ¬ (false = true) by decide)] at H; exact H
  clear H
  have H := H1
  clear H1
  simp only [Option.some.injEq, Prod.mk.injEq] at H
  obtain ⟨rfl, rfl, rfl, rfl⟩ := H
  go_enter Try.func47, Try.ntmps47
  go_wp2_with (first | ((with_reducible refine gate_dst (N := 4) rfl ?_); refine box_event ?hg (N := 4) ?hd (cs := #[.string a1_0, .int .i64 a1_1, .int .i64 a1_2]) (t := 31) ?hr ?_; (case hd => rfl); (case hg => rfl); (case hr => first | (go_simp; done) | (go_simp; rfl)); intro gb652 hg w43 hbox hb; have n0_ := bs HB hb; have n1_ := Aside0.mk (hbox); have n2_ := gh hg HB; have n3_ := gh hg HB; clear HB; have HB := n0_; have BK652 := n1_; have GW652 := n2_; have GE652 := n3_; clear n0_ n1_ n2_ n3_; clear hb hbox hg) | ((with_reducible refine gate_dst (N := 5) rfl ?_); refine box_event ?hg (N := 5) ?hd (cs := #[.int .i64 a2_0, .bool a2_1]) (t := 43) ?hr ?_; (case hd => rfl); (case hg => rfl); (case hr => first | (go_simp; done) | (go_simp; rfl)); intro gb653 hg w44 hbox hb; have n0_ := up BK652 hb; have n1_ := bs HB hb; have n2_ := Aside0.mk (hbox); have n3_ := gh hg HB; have n4_ := gh hg HB; have n5_ := nlt' hg BK652; have n6_ := ngt' hg BK652; clear BK652; clear HB; have BK652 := n0_; have HB := n1_; have BK653 := n2_; have GW653 := n3_; have GE653 := n4_; have NB652_653 := n5_; have NB653_652 := n6_; clear n0_ n1_ n2_ n3_ n4_ n5_ n6_; clear hb hbox hg) | ((with_reducible refine gate_dst (N := 6) rfl ?_); refine box_event ?hg (N := 6) ?hd (cs := #[.string (⟨#[]⟩ : ByteArray), .int .i64 0, .int .i64 0]) (t := 31) ?hr ?_; (case hd => rfl); (case hg => rfl); (case hr => first | (go_simp; done) | (go_simp; rfl)); intro gb654 hg w45 hbox hb; have n0_ := up BK652 hb; have n1_ := up BK653 hb; have n2_ := bs HB hb; have n3_ := Aside0.mk (hbox); have n4_ := gh hg HB; have n5_ := gh hg HB; have n6_ := nlt' hg BK652; have n7_ := ngt' hg BK652; have n8_ := nlt' hg BK653; have n9_ := ngt' hg BK653; clear BK652; clear BK653; clear HB; have BK652 := n0_; have BK653 := n1_; have HB := n2_; have BK654 := n3_; have GW654 := n4_; have GE654 := n5_; have NB652_654 := n6_; have NB654_652 := n7_; have NB653_654 := n8_; have NB654_653 := n9_; clear n0_ n1_ n2_ n3_ n4_ n5_ n6_ n7_ n8_ n9_; clear hb hbox hg; have hnb46 := NB652_653.out; have hnc46 := NB653_652.out; have hnb47 := NB652_654.out; have hnc47 := NB654_652.out; have hcz48_0 := b0 BK652; have hcz48_1 := b1 BK652; have hcz48_2 := b2 BK652; have hfz48_0 := fz BK652 0; have hfz48_1 := fz BK652 1; have hfz48_2 := fz BK652 2) | ((with_reducible refine gate_callee (f := 66) rfl ?_); refine goesL_ (some 12) rfl rfl Try.func66 (by kernel_rfl) rfl #[.slice A0 l0.length c0, .string a1_0] rfl mxp ?_; (with_reducible refine (spec_l2At.calls k _ _ l0 a1_0 t655 _ ?side1 ?side2 A4.out).mono ?_); (case side1 => exact cx (Kd.C_below HR0.out HB.out)); (case side2 => exact HC0.out); rintro e w' ⟨rfl, ⟨nd, rfl⟩⟩; refine ⟨_, rfl, ?_⟩; (try (rw [drewN_self w45]; generalize hq_ : World.drewN w45 _ = w45; have n0_ : Aside0 (w45.heap[gb652]? = some (.cells #[.string a1_0, .int .i64 a1_1, .int .i64 a1_2] 31 (0, 0))) := ⟨by rw [← hq_]; exact (bx BK652.out)⟩; have n1_ : Aside0 (w45.heap[gb653]? = some (.cells #[.int .i64 a2_0, .bool a2_1] 43 (0, 0))) := ⟨by rw [← hq_]; exact (bx BK653.out)⟩; have n2_ : Aside0 (w45.heap[gb654]? = some (.cells #[.string (⟨#[]⟩ : ByteArray), .int .i64 0, .int .i64 0] 31 (0, 0))) := ⟨by rw [← hq_]; exact (bx BK654.out)⟩; have n3_ : Aside0 (Below w.heap.size w w45) := ⟨by rw [← hq_]; exact (bw HB.out)⟩; clear BK652 BK653 BK654 HB hq_; have BK652 := n0_; have BK653 := n1_; have BK654 := n2_; have HB := n3_; clear n0_ n1_ n2_ n3_))) | ((with_reducible refine gate_callee (f := 24) rfl ?_); refine goesL_ (some 14) rfl rfl Try.func24 (by kernel_rfl) rfl #[.slice A0 l0.length c0] rfl mxp ?_; (with_reducible refine (spec_RecOk.calls k _ _ l0 false _ ?side1 ?side2 A5.out).mono ?_); (case side1 => exact cx (Kd.C_below HR0.out HB.out)); (case side2 => exact HC0.out); rintro e w49 ⟨rfl, hb⟩; refine ⟨_, rfl, ?_⟩; replace BK652 := up BK652 hb; replace BK653 := up BK653 hb; replace BK654 := up BK654 hb; replace HB := bs HB hb; (try clear hb); (try clear hb2); (try clear hk); (try clear hi); have hcz50_0 := b0 BK652; have hcz50_1 := b1 BK652; have hcz50_2 := b2 BK652; have hfz50_0 := fz BK652 0; have hfz50_1 := fz BK652 1; have hfz50_2 := fz BK652 2; have hnb51 := NB654_653.out; have hnc51 := NB653_654.out; have hcz52_0 := b0 BK654; have hcz52_1 := b1 BK654; have hcz52_2 := b2 BK654; have hfz52_0 := fz BK654 0; have hfz52_1 := fz BK654 1; have hfz52_2 := fz BK654 2))
  refine bodyPost_ret (results_ct rfl _ _ gb654 31 #[.string a1_0, .int .i64 a1_1, .int .i64 a1_2] (0, 0) _ rfl (by refine bx ?_; refine blk_put (cs := #[.string a1_0, .int .i64 a1_1, .int .i64 0]) ?_ 2 _ rfl; refine bx ?_; refine blk_put (cs := #[.string a1_0, .int .i64 0, .int .i64 0]) ?_ 1 _ rfl; refine bx ?_; refine blk_put (cs := #[.string (⟨#[]⟩ : ByteArray), .int .i64 0, .int .i64 0]) ?_ 0 _ rfl; refine bx ?_; exact BK654.out) Try.underlying31 rfl (by kernel_rfl)) rfl ?_
  exact ⟨exq, bw HB.out⟩


/-- A state of type 107 at block g of W; what its slices lead to came in by w0. -/
def IsS107 (w0 W : World) (g : Nat) (f0 : List Int) (f1 : Int) : Prop := ∃ A0 c0, W.heap[g]? = some (.cells #[.slice A0 f0.length c0, .int .i64 f1] 107 (0, 0)) ∧ w0.heap.size ≤ g ∧ Kd.C (Kd.int .u8) w0 A0 f0.length f0
theorem IsS107.grown {w0 W : World} {g : Nat} {f0 : List Int} {f1 : Int} {W1 : World} {row : Option Nat} (h : IsS107 w0 W g f0 f1) (hw : W.grownBy W1 row) (hne : some g ≠ row) : IsS107 w0 W1 g f0 f1 := by
 obtain ⟨A0, c0, hb, hg, hr0⟩ := h
 exact ⟨A0, c0, blk_grown hb hw hne, hg, hr0⟩
theorem IsS107.own_neN {w0 W : World} {g : Nat} {f0 : List Int} {f1 : Int} {α : Type} {d : Kd α} {e : Nat} {base : Nat} {ok : Nat → Prop} {v : Value} {xs : List α} (h : IsS107 w0 W g f0 f1) (ho : Kd.N d e W base ok v xs) (ht : e ≠ 107) : some g ≠ v.ownBlock := by
 obtain ⟨A0, c0, hb, hg, hr0⟩ := h
 exact Kd.N_ne ho hb ht
theorem IsS107.fresh {w0 W : World} {g : Nat} {f0 : List Int} {f1 : Int} (h : IsS107 w0 W g f0 f1) : ∀ k, W.heap.size ≤ k → k ≠ g := by
 obtain ⟨A0, c0, hb, hg, hr0⟩ := h
 exact Kd.freshB hb
theorem IsS107.kept {w0 W : World} {g : Nat} {f0 : List Int} {f1 : Int} {W1 : World} {S : Nat → Prop} (h : IsS107 w0 W g f0 f1) (hk : Kept W W1 S) (hne : ¬ S g) : IsS107 w0 W1 g f0 f1 := by
 obtain ⟨A0, c0, hb, hg, hr0⟩ := h
 exact ⟨A0, c0, blk_kept hb hk hne, hg, hr0⟩
theorem IsS107.below {w0 W : World} {g : Nat} {f0 : List Int} {f1 : Int} {W1 : World} (h : IsS107 w0 W g f0 f1) (hw : Below W.heap.size W W1) : IsS107 w0 W1 g f0 f1 := h.grown (grown_of_below hw none) (by simp)
theorem IsS107.alloc {w0 W : World} {g : Nat} {f0 : List Int} {f1 : Int} (h : IsS107 w0 W g f0 f1) (o : Obj) : IsS107 w0 (W.alloc o) g f0 f1 := h.below (below_alloc (Below.refl _ _) o)
theorem IsS107.drewN {w0 W : World} {g : Nat} {f0 : List Int} {f1 : Int} (h : IsS107 w0 W g f0 f1) (m : Nat) : IsS107 w0 (W.drewN m) g f0 f1 := h
theorem IsS107.drew {w0 W : World} {g : Nat} {f0 : List Int} {f1 : Int} (h : IsS107 w0 W g f0 f1) : IsS107 w0 W.drew g f0 f1 := h
theorem IsS107.at_ {w0 W : World} {g : Nat} {f0 : List Int} {f1 : Int} {w' : World} {m : Nat} (hq : W.drewN m = w') (h : IsS107 w0 W g f0 f1) : IsS107 w0 w' g f0 f1 := by subst hq; exact IsS107.drewN h m
theorem IsS107.apart {w0 W : World} {g : Nat} {f0 : List Int} {f1 : Int} {α : Type} {d : Kd α} {e : Nat} {base : Nat} {ok : Nat → Prop} {v : Value} {xs : List α} (h : IsS107 w0 W g f0 f1) (ho : d.R e W base ok v xs) (ht : ∀ q, q ∈ e :: d.E → q ≠ 107) : d.R e W base (fun k => ok k ∧ k ≠ g) v xs := by
 obtain ⟨A0, c0, hb, hg, hr0⟩ := h
 exact Kd.R_types ho hb ht
theorem IsS107.own_ne {w0 W : World} {g : Nat} {f0 : List Int} {f1 : Int} {α : Type} {d : Kd α} {e : Nat} {base : Nat} {ok : Nat → Prop} {v : Value} {xs : List α} (h : IsS107 w0 W g f0 f1) (ho : d.R e W base ok v xs) (ht : e ≠ 107) : some g ≠ v.ownBlock := by
 obtain ⟨A0, c0, hb, hg, hr0⟩ := h
 exact Kd.R_ne ho hb ht
theorem IsS107.apartQ {w0 W : World} {g : Nat} {f0 : List Int} {f1 : Int} {α : Type} {d : Kd α} {e : Nat} {base : Nat} {ok : Nat → Prop} {v : Value} {xs : List α} (h : IsS107 w0 W g f0 f1) (ho : d.Q e W base ok v xs) (ht : ∀ q, q ∈ e :: d.E → q ≠ 107) : d.Q e W base (fun k => ok k ∧ k ≠ g) v xs := by
 obtain ⟨A0, c0, hb, hg, hr0⟩ := h
 exact Kd.Q_types ho hb ht
theorem IsS107.own_neQ {w0 W : World} {g : Nat} {f0 : List Int} {f1 : Int} {α : Type} {d : Kd α} {e : Nat} {base : Nat} {ok : Nat → Prop} {v : Value} {xs : List α} (h : IsS107 w0 W g f0 f1) (ho : d.Q e W base ok v xs) (ht : e ≠ 107) : some g ≠ v.ownBlock := by
 obtain ⟨A0, c0, hb, hg, hr0⟩ := h
 exact Kd.Q_ne ho hb ht
theorem IsS107.apartS {w0 W : World} {g : Nat} {f0 : List Int} {f1 : Int} {α : Type} {d : Kd α} {e : Nat} {base : Nat} {ok : Nat → Prop} {v : Value} {xs : List α} (h : IsS107 w0 W g f0 f1) (ho : d.S e W base ok v xs) (ht : ∀ q, q ∈ e :: d.E → q ≠ 107) : d.S e W base (fun k => ok k ∧ k ≠ g) v xs := by
 obtain ⟨A0, c0, hb, hg, hr0⟩ := h
 exact Kd.S_types ho hb ht
theorem IsS107.own_neS {w0 W : World} {g : Nat} {f0 : List Int} {f1 : Int} {α : Type} {d : Kd α} {e : Nat} {base : Nat} {ok : Nat → Prop} {v : Value} {xs : List α} (h : IsS107 w0 W g f0 f1) (ho : d.S e W base ok v xs) (ht : e ≠ 107) : some g ≠ v.ownBlock := by
 obtain ⟨A0, c0, hb, hg, hr0⟩ := h
 exact Kd.S_ne ho hb ht
theorem IsS107.lt {w0 W : World} {g : Nat} {f0 : List Int} {f1 : Int} (h : IsS107 w0 W g f0 f1) : g < W.heap.size := by
 obtain ⟨A0, c0, hb, hg, hr0⟩ := h
 exact blk_lt hb
theorem IsS107.ge {w0 W : World} {g : Nat} {f0 : List Int} {f1 : Int} (h : IsS107 w0 W g f0 f1) : w0.heap.size ≤ g := by
 obtain ⟨A0, c0, hb, hg, hr0⟩ := h
 exact hg
theorem IsS107.ne_blk {w0 W : World} {g : Nat} {f0 : List Int} {f1 : Int} {a : Nat} {cs : Array Value} {t : TypeId} {fr : Nat × Nat} (h : IsS107 w0 W g f0 f1) (hb2 : W.heap[a]? = some (.cells cs t fr)) (ht : t ≠ 107) : g ≠ a := by
 obtain ⟨A0, c0, hb, hg, hr0⟩ := h
 rintro rfl
 rw [hb] at hb2
 injection hb2 with hb2
 injection hb2 with _ ht2
 exact ht ht2.symm
theorem IsS107.far {w0 W : World} {g : Nat} {f0 : List Int} {f1 : Int} {p : Addr} (h : IsS107 w0 W g f0 f1) (hne : g ≠ p.block) (u : Value) : IsS107 w0 (W.setCell p u) g f0 f1 := by
 obtain ⟨A0, c0, hb, hg, hr0⟩ := h
 exact ⟨A0, c0, blk_far hb hne u, hg, hr0⟩
theorem cellS107_0 {W : World} {g : Nat} {A0 : Option Addr} {c0 : Nat} {f0 : List Int} {f1 : Int} (h : W.heap[g]? = some (.cells #[.slice A0 f0.length c0, .int .i64 f1] 107 (0, 0))) : W.cell? ⟨g, 0, none⟩ = some (.slice A0 f0.length c0) := (blk_cell h 0).trans rfl
theorem cellS107_1 {W : World} {g : Nat} {A0 : Option Addr} {c0 : Nat} {f0 : List Int} {f1 : Int} (h : W.heap[g]? = some (.cells #[.slice A0 f0.length c0, .int .i64 f1] 107 (0, 0))) : W.cell? ⟨g, 1, none⟩ = some (.int .i64 f1) := (blk_cell h 1).trans rfl
theorem IsS107.set_1 {w0 W : World} {g : Nat} {f0 : List Int} {f1 : Int} (h : IsS107 w0 W g f0 f1) (x : Int) : IsS107 w0 (W.setCell ⟨g, 1, none⟩ (.int .i64 x)) g f0 x := by
 obtain ⟨A0, c0, hb, hg, hr0⟩ := h
 exact ⟨A0, c0, by simpa using blk_set hb 1 (.int .i64 x), hg, hr0⟩
theorem IsS107.new (w0 W : World) (A0 : Option Addr) (c0 : Nat) (f0 : List Int) (f1 : Int) (hB : Below w0.heap.size w0 W) (hr0 : Kd.C (Kd.int .u8) w0 A0 f0.length f0) : IsS107 w0 (W.alloc (.cells #[.slice A0 f0.length c0, .int .i64 f1] 107)) W.heap.size f0 f1 := ⟨A0, c0, by simpa using heap_alloc_new W _, hB.size, hr0⟩

/-! ### spec_l1Open: function 62 -/
def spec_l1Open.f (l0 : List Int) : Option (List Int × Int) := if (l0.length : Int) > 2000 then (if 2000 ≤ (l0.length : Int) then (some (l0.take 2000, 0)) else (none)) else (some (l0, 0))
set_option maxHeartbeats 8000000 in
set_option maxRecDepth 100000 in
theorem spec_l1Open.calls (A0 : Option Addr) (c0 : Nat) (l0 : List Int) (r1 : List Int) (r2 : Int) (w0 w : World) (hB : Below w0.heap.size w0 w) (hr0 : Kd.C (Kd.int .u8) w0 A0 l0.length l0) (hc0 : l0.length ≤ c0) (h : spec_l1Open.f l0 = some (r1, r2)) :
  Calls Try.prog 62 #[.slice A0 l0.length c0] w fun e w' => ∃ g_ : Nat, e = .returned (.pointer (some ⟨g_, 0, none⟩)) ∧ IsS107 w0 w' g_ r1 r2 ∧ Below w0.heap.size w0 w' ∧ Below w.heap.size w w' := by
 have hu107 := Try.underlying107
 have HR0 := Aside0.mk hr0
 have HC0 := Aside0.mk hc0
 clear hr0 hc0
 have HBW := Aside0.mk (Below.refl w.heap.size w)
 have HW0 := Aside0.mk hB.size
 have HB := Aside0.mk hB
 clear hB
 have H : (if (l0.length : Int) > 2000 then (if 2000 ≤ (l0.length : Int) then (some (l0.take 2000, 0)) else (none)) else (some (l0, 0))) = some (r1, r2) := h
 clear h
 by_cases c2 : (l0.length : Int) > 2000
 ·rw [if_pos c2] at H
  have c2b0 : decide (2000 < (l0.length : Int)) = true := decide_eq_true c2
  have c2b1 : decide (2000 < l0.length) = true := decide_eq_true (by omega)
  clear c2
  by_cases c3 : 2000 ≤ (l0.length : Int)
  ·rw [if_pos c3] at H
   have c3b0 := eq_true c3
   have c3b1 : decide (2000 ≤ (l0.length : Int)) = true := decide_eq_true c3
   clear c3
   simp only [Option.some.injEq, Prod.mk.injEq] at H
   obtain ⟨rfl, rfl⟩ := H
   obtain ⟨i04, hi04, _, hsz4, _⟩ := info_parts info5
   obtain ⟨hcut4, hA4, hC4⟩ := print_take_of (P := Try.prog) (Value.int .u8) 0 25 5 .i64 Try.underlying25 hi04 hsz4 A0 c0 l0 2000 (by omega) (oda) HC0.out
   have HR185 := Aside0.mk (Kd.C_of_reads (h1 := fun _ => rfl) (hA4 _ (Kd.reads_of_C HR0.out)))
   have HC185 := Aside0.mk hC4
   clear hA4 hC4 hi04 hsz4
   go_enter Try.func62, Try.ntmps62
   go_wp2_with (first | ((with_reducible refine gate_dst (N := 10) rfl ?_); refine box_event ?hg (N := 10) ?hd (cs := #[.slice A0 (l0.take 2000).length c0, .int .i64 0]) (t := 107) ?hr ?_; (case hd => rfl); (case hg => rfl); (case hr => first | (go_simp; done) | (go_simp; rfl)); intro gb186 hg w5 hbox hb; have n0_ := Aside0.mk (below_step HBW.out hb); have n1_ := bs HB hb; have n2_ := Aside0.mk (hbox); have n3_ := gh hg HBW; have n4_ := Aside0.mk ((Nat.le_trans HW0.out (by rw [hg]; exact (below_size (bw HBW.out)) : w.heap.size ≤ gb186) : w0.heap.size ≤ gb186)); clear HBW; clear HB; have HBW := n0_; have HB := n1_; have BK186 := n2_; have GW186 := n3_; have GE186 := n4_; clear n0_ n1_ n2_ n3_ n4_; clear hb hbox hg))
   go_ret
   exact ⟨_, rfl, (show IsS107 w0 _ gb186 (l0.take 2000) 0 from ⟨_, _, by refine bx ?_; exact BK186.out, GE186.out, HR185.out⟩), bw HB.out, bw HBW.out⟩
  ·rw [if_neg c3] at H
   exact absurd H (by simp)
 ·rw [if_neg c2] at H
  have c2b0 : decide (2000 < (l0.length : Int)) = false := decide_eq_false c2
  have c2b1 : decide (2000 < l0.length) = false := decide_eq_false (by omega)
  clear c2
  simp only [Option.some.injEq, Prod.mk.injEq] at H
  obtain ⟨rfl, rfl⟩ := H
  go_enter Try.func62, Try.ntmps62
  go_wp2_with (first | ((with_reducible refine gate_dst (N := 10) rfl ?_); refine box_event ?hg (N := 10) ?hd (cs := #[.slice A0 l0.length c0, .int .i64 0]) (t := 107) ?hr ?_; (case hd => rfl); (case hg => rfl); (case hr => first | (go_simp; done) | (go_simp; rfl)); intro gb187 hg w6 hbox hb; have n0_ := Aside0.mk (below_step HBW.out hb); have n1_ := bs HB hb; have n2_ := Aside0.mk (hbox); have n3_ := gh hg HBW; have n4_ := Aside0.mk ((Nat.le_trans HW0.out (by rw [hg]; exact (below_size (bw HBW.out)) : w.heap.size ≤ gb187) : w0.heap.size ≤ gb187)); clear HBW; clear HB; have HBW := n0_; have HB := n1_; have BK187 := n2_; have GW187 := n3_; have GE187 := n4_; clear n0_ n1_ n2_ n3_ n4_; clear hb hbox hg))
  go_ret
  exact ⟨_, rfl, (show IsS107 w0 _ gb187 l0 0 from ⟨_, _, by refine bx ?_; exact BK187.out, GE187.out, HR0.out⟩), bw HB.out, bw HBW.out⟩

end Go.Proofs.Ytdkologncoofdaa.P
-- Short2
namespace Go.Proofs.Ytdkologncoofdaa.P
open Go.RowKit Go.Proofs.YtdkologncoofdaaW.PrintWords Go.Proofs.YtdkologncoofdaaW.PrintLast Go.Proofs.YtdkologncoofdaaW.PrintMore
/-! Short words, where a reader's struct lies in memory. -/
theorem ib {P Q : Prop} (h : Q) (f : Q → P := by intro h; repeat (first | (with_reducible first | exact h | apply IsS107.alloc | apply IsS107.drewN | apply IsS107.drew | apply IsS107.set_1 | refine IsS107.far ?_ (Aside0.out (by assumption)) _) | exact h)) : P := f h
theorem bi {P Q : Prop} (h : Q) (f : Q → P := by intro h; repeat (first | (with_reducible first | exact h | apply below_alloc | apply pw_below_drewN | apply below_drew1 | refine below_set ?_ (Aside0.out (by assumption)) | refine below_set ?_ (IsS107.ge (Aside0.out (by assumption)))) | exact h)) : P := f h
theorem hbi {P Q : Prop} (h : Aside0 Q) (f : Q → P := by intro h; repeat (first | (with_reducible first | exact h | apply below_alloc | apply pw_below_drewN | apply below_drew1 | refine below_set ?_ (Aside0.out (by assumption)) | refine below_set ?_ (IsS107.ge (Aside0.out (by assumption)))) | exact h)) : Aside0 P := ⟨f h.out⟩
theorem bsi {w W W' w2 : World} (h : Aside0 (Below w.heap.size w W)) (hb : Below W'.heap.size W' w2) (f : Below w.heap.size w W → Below w.heap.size w W' := by intro h; repeat (first | (with_reducible first | exact h | apply below_alloc | apply pw_below_drewN | apply below_drew1 | refine below_set ?_ (Aside0.out (by assumption)) | refine below_set ?_ (IsS107.ge (Aside0.out (by assumption)))) | exact h)) : Aside0 (Below w.heap.size w w2) := ⟨below_step (f h.out) hb⟩
end Go.Proofs.Ytdkologncoofdaa.P
-- Px21
namespace Go.Proofs.Ytdkologncoofdaa.P
open Go.RowKit Go.Proofs.YtdkologncoofdaaW.PrintWords Go.Proofs.YtdkologncoofdaaW.PrintLast Go.Proofs.YtdkologncoofdaaW.PrintMore
attribute [local go_sem] max2_int min2_int max_two min_two max_three min_three max_four min_four   -- for this text's walks alone
set_option linter.unusedVariables false
set_option linter.unusedSimpArgs false

/-! ### spec_l1Rd_pick: function 64 -/
def spec_l1Rd_pick.j0 : Nat → Int → Bool → List Int → Int → Option (Int × Int)
 | 0, _, _, _, _ => none
 | k + 1, x1, x24, x1000, x1001 => if x24 = true then (some (0, x1001)) else (if (wrap64 (x1001 - 1)) < (x1000.length : Int) then (if 0 ≤ (wrap64 (x1001 - 1)) then (if x1 = 0 then (none) else (some (Int.tmod (wrap64 (rd x1000 (wrap64 (x1001 - 1)))) x1, x1001))) else (none)) else (if (x1000.length : Int) = 0 then (none) else (if 0 ≤ (Int.tmod (wrap64 (x1001 - 1)) (x1000.length : Int)) then (if (Int.tmod (wrap64 (x1001 - 1)) (x1000.length : Int)) < (x1000.length : Int) then (if 0 ≤ (Int.tmod (wrap64 ((wrap64 ((wrap64 (x1001 - 1)) * 7)) + 3)) (x1000.length : Int)) then (if (Int.tmod (wrap64 ((wrap64 ((wrap64 (x1001 - 1)) * 7)) + 3)) (x1000.length : Int)) < (x1000.length : Int) then (if x1 = 0 then (none) else (some (Int.tmod (Go.bits .xor .i64 (wrap64 ((wrap64 ((wrap64 ((wrap64 ((wrap64 (rd x1000 (Int.tmod (wrap64 (x1001 - 1)) (x1000.length : Int)))) * 131)) + (wrap64 ((wrap64 (rd x1000 (Int.tmod (wrap64 ((wrap64 ((wrap64 (x1001 - 1)) * 7)) + 3)) (x1000.length : Int)))) * 1117)))) + (wrap64 ((wrap64 (x1001 - 1)) * 29)))) + (wrap64 ((wrap64 (Int.tdiv (wrap64 (x1001 - 1)) (x1000.length : Int))) * 53)))) (wrap64 (Int.tdiv (wrap64 ((wrap64 ((wrap64 ((wrap64 ((wrap64 (rd x1000 (Int.tmod (wrap64 (x1001 - 1)) (x1000.length : Int)))) * 131)) + (wrap64 ((wrap64 (rd x1000 (Int.tmod (wrap64 ((wrap64 ((wrap64 (x1001 - 1)) * 7)) + 3)) (x1000.length : Int)))) * 1117)))) + (wrap64 ((wrap64 (x1001 - 1)) * 29)))) + (wrap64 ((wrap64 (Int.tdiv (wrap64 (x1001 - 1)) (x1000.length : Int))) * 53)))) 64))) x1, x1001))) else (none)) else (none)) else (none)) else (none))))
def spec_l1Rd_pick.f (k : Nat) (s0_0 : List Int) (s0_1 : Int) (a1 : Int) : Option (Int × Int) := if a1 < 1 then (spec_l1Rd_pick.j0 k a1 true s0_0 (wrap64 (s0_1 + 1))) else (spec_l1Rd_pick.j0 k a1 ((s0_0.length : Int) == 0) s0_0 (wrap64 (s0_1 + 1)))
theorem spec_l1Rd_pick.mono_l : ∀ k, (∀ y0 y1 y2 y3, LeO (spec_l1Rd_pick.j0 k y0 y1 y2 y3) (spec_l1Rd_pick.j0 (k + 1) y0 y1 y2 y3))
 | 0 => fun _ _ _ _ r h => by simp [spec_l1Rd_pick.j0] at h
 | k + 1 => by
  have ih0 := spec_l1Rd_pick.mono_l k
  ·intro y0 y1 y2 y3
   unfold spec_l1Rd_pick.j0
   repeat' first
   | (with_reducible exact ih0 _ _ _ _)
   | (with_reducible exact LeO.refl _)
   | (with_reducible exact LeO.none _)
   | (with_reducible refine LeO.ite ?_ ?_)
   | (with_reducible refine LeO.bind ?_ (fun _ => ?_))
   | exact ih0 _ _ _ _
   | exact LeO.none _
   | refine LeO.ite ?_ ?_
   | refine LeO.bind ?_ (fun _ => ?_)
theorem spec_l1Rd_pick.mono : ∀ a0 a1 a2 k, LeO (spec_l1Rd_pick.f k a0 a1 a2) (spec_l1Rd_pick.f (k + 1) a0 a1 a2) := by
 intro a0 a1 a2 k
 have ih0 := spec_l1Rd_pick.mono_l k
 unfold spec_l1Rd_pick.f
 repeat' first
   | (with_reducible exact ih0 _ _ _ _)
   | (with_reducible exact LeO.refl _)
   | (with_reducible exact LeO.none _)
   | (with_reducible refine LeO.ite ?_ ?_)
   | (with_reducible refine LeO.bind ?_ (fun _ => ?_))
   | exact ih0 _ _ _ _
   | exact LeO.none _
   | refine LeO.ite ?_ ?_
   | refine LeO.bind ?_ (fun _ => ?_)
set_option maxHeartbeats 8000000 in
set_option maxRecDepth 100000 in
theorem spec_l1Rd_pick.calls (k : Nat) (g : Nat) (s0_0 : List Int) (s0_1 : Int) (a1 : Int) (r1 : Int) (r2 : Int) (w0 w : World) (hI : IsS107 w0 w g s0_0 s0_1) (hB : Below w0.heap.size w0 w) (h : spec_l1Rd_pick.f k s0_0 s0_1 a1 = some (r1, r2)) :
  Calls Try.prog 64 #[.pointer (some ⟨g, 0, none⟩), .int .i64 a1] w fun e w' => e = .returned (.int .i64 r1) ∧ IsS107 w0 w' g s0_0 r2 ∧ Below w0.heap.size w0 w' ∧ KeepBut w w' g none := by
 have HI0 := Aside0.mk hI
 have HK := Aside0.mk (KeepBut.refl w g none)
 have HL := Aside0.mk hB.size
 clear hI
 have HW0 := Aside0.mk hB.size
 have HB := Aside0.mk hB
 clear hB
 have H : (if a1 < 1 then (spec_l1Rd_pick.j0 k a1 true s0_0 (wrap64 (s0_1 + 1))) else (spec_l1Rd_pick.j0 k a1 ((s0_0.length : Int) == 0) s0_0 (wrap64 (s0_1 + 1)))) = some (r1, r2) := h
 clear h
 have HC3 := Aside0.mk H
 clear H
 obtain ⟨ASz4_0, cSz4_0, HGz4, hgz4, HSz4_0⟩ := HI0.out
 have hcz4_0 := cellS107_0 HGz4
 have hcz4_1 := cellS107_1 HGz4
 have hfz4_1 := blk_frozen HGz4 1
 clear HGz4 hgz4
 go_enter Try.func64, Try.ntmps64
 go_upto_region 2 with (fail)
 repeat (go_quiet (fail); go_upto_region 2 with (fail))
 go_cut [24] (fun v24 wc => ∃ (kq : Nat) (x24_2 : Bool), v24 = .bool x24_2 ∧ Aside0 (spec_l1Rd_pick.j0 kq a1 x24_2 s0_0 (wrap64 (s0_1 + 1)) = some (r1, r2)) ∧ Aside0 (kq ≤ k) ∧ Aside0 (IsS107 w0 wc g s0_0 (wrap64 (s0_1 + 1))) ∧ Aside0 (KeepBut w wc g none) ∧ Aside0 (Below w0.heap.size w0 wc))
 case first =>
  have H := HC3.out
  clear HC3
  by_cases c5 : a1 < 1
  ·rw [if_pos c5] at H
   have c5b0 : decide (a1 < 1) = true := decide_eq_true c5
   clear c5
   (first | rw [c5b0] | (simp only [i64_w, i32_w]; rw [c5b0]) | skip)
   have H' := Aside0.mk H
   clear H
   go_wp2
   repeat (go_quiet (fail); try go_wp2)
   go_meet
   case rel => exact ⟨_, (true), (by first | rfl | (simp; done) | (simp [*]; done)), H', ⟨by first | omega | exact Nat.le_refl _⟩, ⟨ib HI0.out⟩, ⟨kb HK.out⟩, (hbi HB)⟩
  ·rw [if_neg c5] at H
   have c5b0 : decide (a1 < 1) = false := decide_eq_false c5
   clear c5
   (first | rw [c5b0] | (simp only [i64_w, i32_w]; rw [c5b0]) | skip)
   have H' := Aside0.mk H
   clear H
   obtain ⟨ASz6_0, cSz6_0, HGz6, hgz6, HSz6_0⟩ := HI0.out
   have hcz6_0 := cellS107_0 HGz6
   have hcz6_1 := cellS107_1 HGz6
   have hfz6_1 := blk_frozen HGz6 1
   clear HGz6 hgz6
   go_wp2
   repeat (go_quiet (fail); try go_wp2)
   go_meet
   case rel => exact ⟨_, (((s0_0.length : Int) == 0)), (by first | rfl | (simp; done) | (simp [*]; done)), H', ⟨by first | omega | exact Nat.le_refl _⟩, ⟨ib HI0.out⟩, ⟨kb HK.out⟩, (hbi HB)⟩
 case rest =>
  clear HC3
  try clear p2
  try clear c5
  try clear c5b0
  try clear c6
  try clear p6
  try clear hcz4_0
  try clear hcz4_1
  try clear hcz6_0
  try clear hcz6_1
  try clear hfz4_1
  try clear hfz6_1
  obtain ⟨kq, x24_2, rfl, HA, HJ2, HI0, HK, HB⟩ := hcut
  cases kq with
  | zero => exact absurd HA.out (by simp [spec_l1Rd_pick.j0])
  | succ kj2 =>
   have H := HA.out
   clear HA
   simp only [spec_l1Rd_pick.j0] at H
   by_cases c7 : x24_2 = true
   ·subst c7
    have H1 : (some (0, (wrap64 (s0_1 + 1)))) = some (r1, r2) := by rw [if_pos rfl] at H; exact H
    clear H
    have H := H1
    clear H1
    simp only [Option.some.injEq, Prod.mk.injEq] at H
    obtain ⟨rfl, rfl⟩ := H
    go_wp2
    repeat (go_quiet (fail); try go_wp2)
    go_ret
    exact ⟨exq, ib HI0.out, bi HB.out, kb HK.out⟩
   ·replace c7 := Bool.eq_false_iff.mpr c7
    subst c7
    have H1 : (if (wrap64 ((wrap64 (s0_1 + 1)) - 1)) < (s0_0.length : Int) then (if 0 ≤ (wrap64 ((wrap64 (s0_1 + 1)) - 1)) then (if a1 = 0 then (none) else (some (Int.tmod (wrap64 (rd s0_0 (wrap64 ((wrap64 (s0_1 + 1)) - 1)))) a1, (wrap64 (s0_1 + 1))))) else (none)) else (if (s0_0.length : Int) = 0 then (none) else (if 0 ≤ (Int.tmod (wrap64 ((wrap64 (s0_1 + 1)) - 1)) (s0_0.length : Int)) then (if (Int.tmod (wrap64 ((wrap64 (s0_1 + 1)) - 1)) (s0_0.length : Int)) < (s0_0.length : Int) then (if 0 ≤ (Int.tmod (wrap64 ((wrap64 ((wrap64 ((wrap64 (s0_1 + 1)) - 1)) * 7)) + 3)) (s0_0.length : Int)) then (if (Int.tmod (wrap64 ((wrap64 ((wrap64 ((wrap64 (s0_1 + 1)) - 1)) * 7)) + 3)) (s0_0.length : Int)) < (s0_0.length : Int) then (if a1 = 0 then (none) else (some (Int.tmod (Go.bits .xor .i64 (wrap64 ((wrap64 ((wrap64 ((wrap64 ((wrap64 (rd s0_0 (Int.tmod (wrap64 ((wrap64 (s0_1 + 1)) - 1)) (s0_0.length : Int)))) * 131)) + (wrap64 ((wrap64 (rd s0_0 (Int.tmod (wrap64 ((wrap64 ((wrap64 ((wrap64 (s0_1 + 1)) - 1)) * 7)) + 3)) (s0_0.length : Int)))) * 1117)))) + (wrap64 ((wrap64 ((wrap64 (s0_1 + 1)) - 1)) * 29)))) + (wrap64 ((wrap64 (Int.tdiv (wrap64 ((wrap64 (s0_1 + 1)) - 1)) (s0_0.length : Int))) * 53)))) (wrap64 (Int.tdiv (wrap64 ((wrap64 ((wrap64 ((wrap64 ((wrap64 (rd s0_0 (Int.tmod (wrap64 ((wrap64 (s0_1 + 1)) - 1)) (s0_0.length : Int)))) * 131)) + (wrap64 ((wrap64 (rd s0_0 (Int.tmod (wrap64 ((wrap64 ((wrap64 ((wrap64 (s0_1 + 1)) - 1)) * 7)) + 3)) (s0_0.length : Int)))) * 1117)))) + (wrap64 ((wrap64 ((wrap64 (s0_1 + 1)) - 1)) * 29)))) + (wrap64 ((wrap64 (Int.tdiv (wrap64 ((wrap64 (s0_1 + 1)) - 1)) (s0_0.length : Int))) * 53)))) 64))) a1, (wrap64 (s0_1 + 1))))) else (none)) else (none)) else (none)) else (none)))) = some (r1, r2) := by rw [if_neg (show ¬ (false = true) by decide)] at H; exact H
    clear H
    have H := H1
    clear H1
    by_cases c8 : (wrap64 ((wrap64 (s0_1 + 1)) - 1)) < (s0_0.length : Int)
    ·rw [if_pos c8] at H
     have c8b0 : decide ((wrap64 ((wrap64 (s0_1 + 1)) - 1)) < (s0_0.length : Int)) = true := decide_eq_true c8
     clear c8
     obtain ⟨ji9, hji9⟩ : ∃ j_ : Int, (wrap64 ((wrap64 (s0_1 + 1)) - 1)) = j_ := ⟨_, rfl⟩
     replace H : (if 0 ≤ (ji9) then (if a1 = 0 then (none) else (some (Int.tmod (wrap64 (rd s0_0 (ji9))) a1, (wrap64 (s0_1 + 1))))) else (none)) = some (r1, r2) := by first | (rw [hji9] at H; exact H) | (simp only [hji9] at H ⊢; exact H)
     (try rw [hji9] at c8b0)
     have hji9w : (IntKind.i64.wrap ((wrap64 (s0_1 + 1)) - 1)) = ji9 := (i64_w _).trans hji9
     by_cases c10 : 0 ≤ (ji9)
     ·rw [if_pos c10] at H
      have c10b0 : decide (0 ≤ (ji9)) = true := decide_eq_true c10
      clear c10
      by_cases c11 : a1 = 0
      ·rw [if_pos c11] at H
       exact absurd H (by simp)
      ·rw [if_neg c11] at H
       have c11b0 : (a1 == 0) = false := beq_eq_false_iff_ne.mpr c11
       have c11b1 : (a1 != 0) = true := bne_iff_ne.mpr c11
       simp only [Option.some.injEq, Prod.mk.injEq] at H
       obtain ⟨rfl, rfl⟩ := H
       obtain ⟨ASz12_0, cSz12_0, HGz12, hgz12, HSz12_0⟩ := HI0.out
       have hcz12_0 := cellS107_0 HGz12
       have hcz12_1 := cellS107_1 HGz12
       have hfz12_1 := blk_frozen HGz12 1
       clear HGz12 hgz12
       have p188 : 0 ≤ ((ji9) : Int) := oda
       have q188 : (ji9) < (s0_0.length : Int) := oda
       obtain ⟨ad188, e188, hx188_0⟩ := Kd.at_int HSz12_0 (ji9) p188 q188
       cases e188
       replace hx188_0 := pw_cell_below HB.out hx188_0
       replace p188 := eq_true p188
       replace q188 := eq_true q188
       go_wp2
       repeat (go_quiet (fail); try go_wp2)
       go_ret
       exact ⟨by first | rfl | (simp [errW_none, errW_some] <;> rfl) | (simp only [← hji9]; first | rfl | (simp [errW_none, errW_some] <;> rfl)) | (simp [*, errW_none, errW_some] <;> rfl), ib HI0.out, bi HB.out, kb HK.out⟩
     ·rw [if_neg c10] at H
      exact absurd H (by simp)
    ·rw [if_neg c8] at H
     have c8b0 : decide ((wrap64 ((wrap64 (s0_1 + 1)) - 1)) < (s0_0.length : Int)) = false := decide_eq_false c8
     clear c8
     by_cases c13 : (s0_0.length : Int) = 0
     ·rw [if_pos c13] at H
      exact absurd H (by simp)
     ·rw [if_neg c13] at H
      have c13b0 : ((s0_0.length : Int) == 0) = false := beq_eq_false_iff_ne.mpr c13
      have c13b1 : ((s0_0.length : Int) != 0) = true := bne_iff_ne.mpr c13
      have c13b2 : ¬ (s0_0 = []) := fun h_ => c13 (by rw [h_]; rfl)
      obtain ⟨ji14, hji14⟩ : ∃ j_ : Int, (Int.tmod (wrap64 ((wrap64 (s0_1 + 1)) - 1)) (s0_0.length : Int)) = j_ := ⟨_, rfl⟩
      replace H : (if 0 ≤ (ji14) then (if (ji14) < (s0_0.length : Int) then (if 0 ≤ (Int.tmod (wrap64 ((wrap64 ((wrap64 ((wrap64 (s0_1 + 1)) - 1)) * 7)) + 3)) (s0_0.length : Int)) then (if (Int.tmod (wrap64 ((wrap64 ((wrap64 ((wrap64 (s0_1 + 1)) - 1)) * 7)) + 3)) (s0_0.length : Int)) < (s0_0.length : Int) then (if a1 = 0 then (none) else (some (Int.tmod (Go.bits .xor .i64 (wrap64 ((wrap64 ((wrap64 ((wrap64 ((wrap64 (rd s0_0 (ji14))) * 131)) + (wrap64 ((wrap64 (rd s0_0 (Int.tmod (wrap64 ((wrap64 ((wrap64 ((wrap64 (s0_1 + 1)) - 1)) * 7)) + 3)) (s0_0.length : Int)))) * 1117)))) + (wrap64 ((wrap64 ((wrap64 (s0_1 + 1)) - 1)) * 29)))) + (wrap64 ((wrap64 (Int.tdiv (wrap64 ((wrap64 (s0_1 + 1)) - 1)) (s0_0.length : Int))) * 53)))) (wrap64 (Int.tdiv (wrap64 ((wrap64 ((wrap64 ((wrap64 ((wrap64 (rd s0_0 (ji14))) * 131)) + (wrap64 ((wrap64 (rd s0_0 (Int.tmod (wrap64 ((wrap64 ((wrap64 ((wrap64 (s0_1 + 1)) - 1)) * 7)) + 3)) (s0_0.length : Int)))) * 1117)))) + (wrap64 ((wrap64 ((wrap64 (s0_1 + 1)) - 1)) * 29)))) + (wrap64 ((wrap64 (Int.tdiv (wrap64 ((wrap64 (s0_1 + 1)) - 1)) (s0_0.length : Int))) * 53)))) 64))) a1, (wrap64 (s0_1 + 1))))) else (none)) else (none)) else (none)) else (none)) = some (r1, r2) := by first | (rw [hji14] at H; exact H) | (simp only [hji14] at H ⊢; exact H)
      by_cases c15 : 0 ≤ (ji14)
      ·rw [if_pos c15] at H
       have c15b0 : decide (0 ≤ (ji14)) = true := decide_eq_true c15
       clear c15
       by_cases c16 : (ji14) < (s0_0.length : Int)
       ·rw [if_pos c16] at H
        have c16b0 : decide ((ji14) < (s0_0.length : Int)) = true := decide_eq_true c16
        clear c16
        obtain ⟨ji17, hji17⟩ : ∃ j_ : Int, (Int.tmod (wrap64 ((wrap64 ((wrap64 ((wrap64 (s0_1 + 1)) - 1)) * 7)) + 3)) (s0_0.length : Int)) = j_ := ⟨_, rfl⟩
        replace H : (if 0 ≤ (ji17) then (if (ji17) < (s0_0.length : Int) then (if a1 = 0 then (none) else (some (Int.tmod (Go.bits .xor .i64 (wrap64 ((wrap64 ((wrap64 ((wrap64 ((wrap64 (rd s0_0 (ji14))) * 131)) + (wrap64 ((wrap64 (rd s0_0 (ji17))) * 1117)))) + (wrap64 ((wrap64 ((wrap64 (s0_1 + 1)) - 1)) * 29)))) + (wrap64 ((wrap64 (Int.tdiv (wrap64 ((wrap64 (s0_1 + 1)) - 1)) (s0_0.length : Int))) * 53)))) (wrap64 (Int.tdiv (wrap64 ((wrap64 ((wrap64 ((wrap64 ((wrap64 (rd s0_0 (ji14))) * 131)) + (wrap64 ((wrap64 (rd s0_0 (ji17))) * 1117)))) + (wrap64 ((wrap64 ((wrap64 (s0_1 + 1)) - 1)) * 29)))) + (wrap64 ((wrap64 (Int.tdiv (wrap64 ((wrap64 (s0_1 + 1)) - 1)) (s0_0.length : Int))) * 53)))) 64))) a1, (wrap64 (s0_1 + 1))))) else (none)) else (none)) = some (r1, r2) := by first | (rw [hji17] at H; exact H) | (simp only [hji17] at H ⊢; exact H)
        by_cases c18 : 0 ≤ (ji17)
        ·rw [if_pos c18] at H
         have c18b0 : decide (0 ≤ (ji17)) = true := decide_eq_true c18
         clear c18
         by_cases c19 : (ji17) < (s0_0.length : Int)
         ·rw [if_pos c19] at H
          have c19b0 : decide ((ji17) < (s0_0.length : Int)) = true := decide_eq_true c19
          clear c19
          by_cases c20 : a1 = 0
          ·rw [if_pos c20] at H
           exact absurd H (by simp)
          ·rw [if_neg c20] at H
           have c20b0 : (a1 == 0) = false := beq_eq_false_iff_ne.mpr c20
           have c20b1 : (a1 != 0) = true := bne_iff_ne.mpr c20
           simp only [Option.some.injEq, Prod.mk.injEq] at H
           obtain ⟨rfl, rfl⟩ := H
           obtain ⟨ASz21_0, cSz21_0, HGz21, hgz21, HSz21_0⟩ := HI0.out
           have hcz21_0 := cellS107_0 HGz21
           have hcz21_1 := cellS107_1 HGz21
           have hfz21_1 := blk_frozen HGz21 1
           clear HGz21 hgz21
           have p189 : 0 ≤ ((ji14) : Int) := oda
           have q189 : (ji14) < (s0_0.length : Int) := oda
           obtain ⟨ad189, e189, hx189_0⟩ := Kd.at_int HSz21_0 (ji14) p189 q189
           cases e189
           replace hx189_0 := pw_cell_below HB.out hx189_0
           replace p189 := eq_true p189
           replace q189 := eq_true q189
           have p190 : 0 ≤ ((ji17) : Int) := oda
           have q190 : (ji17) < (s0_0.length : Int) := oda
           obtain ⟨ad190, e190, hx190_0⟩ := Kd.at_int HSz21_0 (ji17) p190 q190
           obtain rfl : ad189 = ad190 := (by injection e190)
           replace hx190_0 := pw_cell_below HB.out hx190_0
           replace p190 := eq_true p190
           replace q190 := eq_true q190
           go_wp2
           repeat (go_quiet (fail); try go_wp2)
           go_ret
           exact ⟨by first | rfl | (simp [errW_none, errW_some] <;> rfl) | (simp only [← hji14, ← hji17]; first | rfl | (simp [errW_none, errW_some] <;> rfl)) | (simp [*, errW_none, errW_some] <;> rfl), ib HI0.out, bi HB.out, kb HK.out⟩
         ·rw [if_neg c19] at H
          exact absurd H (by simp)
        ·rw [if_neg c18] at H
         exact absurd H (by simp)
       ·rw [if_neg c16] at H
        exact absurd H (by simp)
      ·rw [if_neg c15] at H
       exact absurd H (by simp)


/-! ### spec_l1Rd_of: function 80 -/
def spec_l1Rd_of.f (k : Nat) (s0_0 : List Int) (s0_1 : Int) (l1 : List ByteArray) : Option (ByteArray × Int) := (spec_l1Rd_pick.f k s0_0 s0_1 (l1.length : Int)).bind fun bt191 => (if 0 ≤ bt191.1 then (if bt191.1 < (l1.length : Int) then (some (rdOf ByteArray.empty l1 bt191.1, bt191.2)) else (none)) else (none))
theorem spec_l1Rd_of.mono : ∀ a0 a1 a2 k, LeO (spec_l1Rd_of.f k a0 a1 a2) (spec_l1Rd_of.f (k + 1) a0 a1 a2) := by
 intro a0 a1 a2 k
 unfold spec_l1Rd_of.f
 repeat' first
   | (with_reducible exact spec_l1Rd_pick.mono _ _ _ _)
   | (with_reducible exact LeO.refl _)
   | (with_reducible exact LeO.none _)
   | (with_reducible refine LeO.ite ?_ ?_)
   | (with_reducible refine LeO.bind ?_ (fun _ => ?_))
   | exact spec_l1Rd_pick.mono _ _ _ _
   | exact LeO.none _
   | refine LeO.ite ?_ ?_
   | refine LeO.bind ?_ (fun _ => ?_)
set_option maxHeartbeats 8000000 in
set_option maxRecDepth 100000 in
theorem spec_l1Rd_of.calls (k : Nat) (g : Nat) (s0_0 : List Int) (s0_1 : Int) (A1 : Option Addr) (c1 : Nat) (l1 : List ByteArray) (r1 : ByteArray) (r2 : Int) (w0 w : World) (hI : IsS107 w0 w g s0_0 s0_1) (hB : Below w0.heap.size w0 w) (hr1 : Kd.C Kd.string w A1 l1.length l1) (hc1 : l1.length ≤ c1) (hf1 : ∀ ad, A1 = some ad → 0 < l1.length → ad.block ≠ g) (h : spec_l1Rd_of.f k s0_0 s0_1 l1 = some (r1, r2)) :
  Calls Try.prog 80 #[.pointer (some ⟨g, 0, none⟩), .slice A1 l1.length c1] w fun e w' => e = .returned (.string r1) ∧ IsS107 w0 w' g s0_0 r2 ∧ Below w0.heap.size w0 w' ∧ KeepBut w w' g none := by
 have HR1 := Aside0.mk hr1
 have HC1 := Aside0.mk hc1
 clear hr1 hc1
 have HI0 := Aside0.mk hI
 have HK := Aside0.mk (KeepBut.refl w g none)
 have HL := Aside0.mk hB.size
 clear hI
 have HW0 := Aside0.mk hB.size
 have HB := Aside0.mk hB
 clear hB
 have H : ((spec_l1Rd_pick.f k s0_0 s0_1 (l1.length : Int)).bind fun bt191 => (if 0 ≤ bt191.1 then (if bt191.1 < (l1.length : Int) then (some (rdOf ByteArray.empty l1 bt191.1, bt191.2)) else (none)) else (none))) = some (r1, r2) := h
 clear h
 replace H := Option.bind_eq_some_iff.mp H
 obtain ⟨⟨t191, t192⟩, A30, H⟩ := H
 replace H : (if 0 ≤ t191 then (if t191 < (l1.length : Int) then (some (rdOf ByteArray.empty l1 t191, t192)) else (none)) else (none)) = some (r1, r2) := H
 have A3 := Aside0.mk A30
 clear A30
 by_cases c4 : 0 ≤ t191
 ·rw [if_pos c4] at H
  have c4b0 : decide (0 ≤ t191) = true := decide_eq_true c4
  clear c4
  by_cases c5 : t191 < (l1.length : Int)
  ·rw [if_pos c5] at H
   have c5b0 : decide (t191 < (l1.length : Int)) = true := decide_eq_true c5
   clear c5
   simp only [Option.some.injEq, Prod.mk.injEq] at H
   obtain ⟨rfl, rfl⟩ := H
   go_enter Try.func80, Try.ntmps80
   go_wp2_with (first | ((with_reducible refine gate_callee (f := 64) rfl ?_); refine goesL_ (some 9) rfl rfl Try.func64 (by kernel_rfl) rfl #[.pointer (some ⟨g, 0, none⟩), .int .i64 (l1.length : Int)] rfl mxp ?_; (with_reducible refine (spec_l1Rd_pick.calls k g s0_0 s0_1 (l1.length : Int) t191 t192 w0 _ ?side1 ?side2 A3.out).mono ?_); (case side1 => exact ib HI0.out); (case side2 => exact bi HB.out); rintro e w6 ⟨rfl, hi, hb, hk⟩; refine ⟨_, rfl, ?_⟩; have n0_ := kt HK hk; have n1_ := Aside0.mk (hb); have n2_ := Aside0.mk (hi); clear HK; clear HB; clear HI0; have HK := n0_; have HB := n1_; have HI0 := n2_; clear n0_ n1_ n2_; (try clear hb); (try clear hb2); (try clear hk); (try clear hi); have p193 : 0 ≤ (t191 : Int) := oda; have q193 : t191 < (l1.length : Int) := oda; obtain ⟨ad193, e193, hx193_0⟩ := Kd.at_string HR1.out t191 p193 q193; cases e193; replace hx193_0 := keep_cell HK.out hx193_0 (by first | (rw [add_block]; exact hf1 _ rfl (by omega)) | exact hf1 _ rfl (by omega) | exact hf1 ad193 rfl (by omega)); replace p193 := eq_true p193; replace q193 := eq_true q193))
   go_ret
   exact ⟨exq, ib HI0.out, bi HB.out, kb HK.out⟩
  ·rw [if_neg c5] at H
   exact absurd H (by simp)
 ·rw [if_neg c4] at H
  exact absurd H (by simp)


/-! ### spec_RecBegin: function 42 -/
def spec_RecBegin.f (k : Nat) (l0 : List (S39)) : Option (ByteArray × Int × Int) := (spec_RecOk.f k l0).bind fun t441 => (if t441 = true then (if 0 < (l0.length : Int) then ((spec_l4At.f k l0 ((rd_T39 l0 0).f0) 0).bind fun bt443 => (some (bt443.1, bt443.2.1, bt443.2.2))) else (none)) else (some ((⟨#[]⟩ : ByteArray), 0, 0)))
theorem spec_RecBegin.mono : ∀ a0 k, LeO (spec_RecBegin.f k a0) (spec_RecBegin.f (k + 1) a0) := by
 intro a0 k
 unfold spec_RecBegin.f
 repeat' first
   | (with_reducible exact spec_RecOk.mono _ _)
   | (with_reducible exact spec_l4At.mono _ _ _ _)
   | (with_reducible exact LeO.refl _)
   | (with_reducible exact LeO.none _)
   | (with_reducible refine LeO.ite ?_ ?_)
   | (with_reducible refine LeO.bind ?_ (fun _ => ?_))
   | exact spec_RecOk.mono _ _
   | exact spec_l4At.mono _ _ _ _
   | exact LeO.none _
   | refine LeO.ite ?_ ?_
   | refine LeO.bind ?_ (fun _ => ?_)
set_option maxHeartbeats 8000000 in
set_option maxRecDepth 100000 in
theorem spec_RecBegin.calls (k : Nat) (A0 : Option Addr) (c0 : Nat) (l0 : List (S39)) (r1 : ByteArray) (r2 : Int) (r3 : Int) (w : World) (hr0 : Kd.C k39 w A0 l0.length l0) (hc0 : l0.length ≤ c0) (h : spec_RecBegin.f k l0 = some (r1, r2, r3)) :
  Calls Try.prog 42 #[.slice A0 l0.length c0] w fun e w' => e = .returned (.agg #[.string r1, .int .i64 r2, .int .i64 r3]) ∧ Below w.heap.size w w' := by
 have hu31 := Try.underlying31
 have HR0 := Aside0.mk hr0
 have HC0 := Aside0.mk hc0
 clear hr0 hc0
 have HB := Aside0.mk (Below.refl w.heap.size w)
 have H : ((spec_RecOk.f k l0).bind fun t441 => (if t441 = true then (if 0 < (l0.length : Int) then ((spec_l4At.f k l0 ((rd_T39 l0 0).f0) 0).bind fun bt443 => (some (bt443.1, bt443.2.1, bt443.2.2))) else (none)) else (some ((⟨#[]⟩ : ByteArray), 0, 0)))) = some (r1, r2, r3) := h
 clear h
 replace H := Option.bind_eq_some_iff.mp H
 obtain ⟨t441, A20, H⟩ := H
 replace H : (if t441 = true then (if 0 < (l0.length : Int) then ((spec_l4At.f k l0 ((rd_T39 l0 0).f0) 0).bind fun bt443 => (some (bt443.1, bt443.2.1, bt443.2.2))) else (none)) else (some ((⟨#[]⟩ : ByteArray), 0, 0))) = some (r1, r2, r3) := H
 have A2 := Aside0.mk A20
 clear A20
 by_cases c3 : t441 = true
 ·subst c3
  have H1 : (if 0 < (l0.length : Int) then ((spec_l4At.f k l0 ((rd_T39 l0 0).f0) 0).bind fun bt443 => (some (bt443.1, bt443.2.1, bt443.2.2))) else (none)) = some (r1, r2, r3) := by rw [if_pos rfl] at H; exact H
  clear H
  have H := H1
  clear H1
  by_cases c4 : 0 < (l0.length : Int)
  ·rw [if_pos c4] at H
   have c4b0 : decide (0 < (l0.length : Int)) = true := decide_eq_true c4
   have c4b1 : decide (0 < l0.length) = true := decide_eq_true (by omega)
   clear c4
   replace H := Option.bind_eq_some_iff.mp H
   obtain ⟨⟨t443, t444, t445⟩, A50, H⟩ := H
   replace H : (some (t443, t444, t445)) = some (r1, r2, r3) := H
   have A5 := Aside0.mk A50
   clear A50
   simp only [Option.some.injEq, Prod.mk.injEq] at H
   obtain ⟨rfl, rfl, rfl⟩ := H
   go_enter Try.func42, Try.ntmps42
   go_wp2_with (first | ((with_reducible refine gate_dst (N := 2) rfl ?_); refine box_event ?hg (N := 2) ?hd (cs := #[.string (⟨#[]⟩ : ByteArray), .int .i64 0, .int .i64 0]) (t := 31) ?hr ?_; (case hd => rfl); (case hg => rfl); (case hr => first | (go_simp; done) | (go_simp; rfl)); intro gb440 hg w6 hbox hb; have n0_ := bs HB hb; have n1_ := Aside0.mk (hbox); have n2_ := gh hg HB; have n3_ := gh hg HB; clear HB; have HB := n0_; have BK440 := n1_; have GW440 := n2_; have GE440 := n3_; clear n0_ n1_ n2_ n3_; clear hb hbox hg) | ((with_reducible refine gate_callee (f := 24) rfl ?_); refine goesL_ (some 4) rfl rfl Try.func24 (by kernel_rfl) rfl #[.slice A0 l0.length c0] rfl mxp ?_; (with_reducible refine (spec_RecOk.calls k _ _ l0 true _ ?side1 ?side2 A2.out).mono ?_); (case side1 => exact cx (Kd.C_below HR0.out HB.out)); (case side2 => exact HC0.out); rintro e w7 ⟨rfl, hb⟩; refine ⟨_, rfl, ?_⟩; replace BK440 := up BK440 hb; replace HB := bs HB hb; (try clear hb); (try clear hb2); (try clear hk); (try clear hi); have p442 : 0 ≤ (0 : Int) := (by omega); have q442 : 0 < (l0.length : Int) := oda; obtain ⟨ad442, e442, hx442_0, hx442_1, hx442_2, hx442_3, hx442_4, hx442_5, hx442_6, hx442_7⟩ := at_T39 HR0.out 0 p442 q442; cases e442; have qi442 : (0 < l0.length) = True := eq_true (by omega); (try rw [show ((0 : Int)).toNat = 0 from rfl] at hx442_0); (try rw [show 0 * 8 = 0 from rfl] at hx442_0); (try rw [Addr.add_zero'] at hx442_0); (try rw [show ((0 : Int)).toNat = 0 from rfl] at hx442_1); (try rw [show 0 * 8 = 0 from rfl] at hx442_1); (try rw [Addr.add_zero'] at hx442_1); (try rw [show ((0 : Int)).toNat = 0 from rfl] at hx442_2); (try rw [show 0 * 8 = 0 from rfl] at hx442_2); (try rw [Addr.add_zero'] at hx442_2); (try rw [show ((0 : Int)).toNat = 0 from rfl] at hx442_3); (try rw [show 0 * 8 = 0 from rfl] at hx442_3); (try rw [Addr.add_zero'] at hx442_3); (try rw [show ((0 : Int)).toNat = 0 from rfl] at hx442_4); (try rw [show 0 * 8 = 0 from rfl] at hx442_4); (try rw [Addr.add_zero'] at hx442_4); (try rw [show ((0 : Int)).toNat = 0 from rfl] at hx442_5); (try rw [show 0 * 8 = 0 from rfl] at hx442_5); (try rw [Addr.add_zero'] at hx442_5); (try rw [show ((0 : Int)).toNat = 0 from rfl] at hx442_6); (try rw [show 0 * 8 = 0 from rfl] at hx442_6); (try rw [Addr.add_zero'] at hx442_6); (try rw [show ((0 : Int)).toNat = 0 from rfl] at hx442_7); (try rw [show 0 * 8 = 0 from rfl] at hx442_7); (try rw [Addr.add_zero'] at hx442_7); replace hx442_0 := bcl HB hx442_0; replace hx442_1 := bcl HB hx442_1; replace hx442_2 := bcl HB hx442_2; replace hx442_3 := bcl HB hx442_3; replace hx442_4 := bcl HB hx442_4; replace hx442_5 := bcl HB hx442_5; replace hx442_6 := bcl HB hx442_6; replace hx442_7 := bcl HB hx442_7; replace p442 := eq_true p442; replace q442 := eq_true q442) | ((with_reducible refine gate_callee (f := 86) rfl ?_); refine goesL_ (some 12) rfl rfl Try.func86 (by kernel_rfl) rfl #[.slice (some ad442) l0.length c0, .string ((rd_T39 l0 0).f0), .int .i64 0] rfl mxp ?_; (with_reducible refine (spec_l4At.calls k _ _ l0 ((rd_T39 l0 0).f0) 0 t443 t444 t445 _ ?side1 ?side2 A5.out).mono ?_); (case side1 => exact cx (Kd.C_below HR0.out HB.out)); (case side2 => exact HC0.out); rintro e w8 ⟨rfl, hb⟩; refine ⟨_, rfl, ?_⟩; replace BK440 := up BK440 hb; replace HB := bs HB hb; (try clear hb); (try clear hb2); (try clear hk); (try clear hi); have hcz9_0 := b0 BK440; have hcz9_1 := b1 BK440; have hcz9_2 := b2 BK440; have hfz9_0 := fz BK440 0; have hfz9_1 := fz BK440 1; have hfz9_2 := fz BK440 2))
   refine bodyPost_ret (results_cell_row rfl _ _ gb440 31 #[.string t443, .int .i64 t444, .int .i64 t445] (0, 0) _ rfl (by refine bx ?_; refine blk_put (cs := #[.string t443, .int .i64 t444, .int .i64 0]) ?_ 2 _ rfl; refine bx ?_; refine blk_put (cs := #[.string t443, .int .i64 0, .int .i64 0]) ?_ 1 _ rfl; refine bx ?_; refine blk_put (cs := #[.string (⟨#[]⟩ : ByteArray), .int .i64 0, .int .i64 0]) ?_ 0 _ rfl; refine bx ?_; exact BK440.out) Try.underlying31 rfl (by kernel_rfl)) rfl ?_
   exact ⟨exq, bw HB.out⟩
  ·rw [if_neg c4] at H
   exact absurd H (by simp)
 ·replace c3 := Bool.eq_false_iff.mpr c3
  subst c3
  have H1 : (some ((⟨#[]⟩ : ByteArray), 0, 0)) = some (r1, r2, r3) := by rw [if_neg (show ¬ (false = true) by decide)] at H; exact H
  clear H
  have H := H1
  clear H1
  simp only [Option.some.injEq, Prod.mk.injEq] at H
  obtain ⟨rfl, rfl, rfl⟩ := H
  go_enter Try.func42, Try.ntmps42
  go_wp2_with (first | ((with_reducible refine gate_dst (N := 2) rfl ?_); refine box_event ?hg (N := 2) ?hd (cs := #[.string (⟨#[]⟩ : ByteArray), .int .i64 0, .int .i64 0]) (t := 31) ?hr ?_; (case hd => rfl); (case hg => rfl); (case hr => first | (go_simp; done) | (go_simp; rfl)); intro gb440 hg w10 hbox hb; have n0_ := bs HB hb; have n1_ := Aside0.mk (hbox); have n2_ := gh hg HB; have n3_ := gh hg HB; clear HB; have HB := n0_; have BK440 := n1_; have GW440 := n2_; have GE440 := n3_; clear n0_ n1_ n2_ n3_; clear hb hbox hg) | ((with_reducible refine gate_callee (f := 24) rfl ?_); refine goesL_ (some 4) rfl rfl Try.func24 (by kernel_rfl) rfl #[.slice A0 l0.length c0] rfl mxp ?_; (with_reducible refine (spec_RecOk.calls k _ _ l0 false _ ?side1 ?side2 A2.out).mono ?_); (case side1 => exact cx (Kd.C_below HR0.out HB.out)); (case side2 => exact HC0.out); rintro e w11 ⟨rfl, hb⟩; refine ⟨_, rfl, ?_⟩; replace BK440 := up BK440 hb; replace HB := bs HB hb; (try clear hb); (try clear hb2); (try clear hk); (try clear hi); have hcz12_0 := b0 BK440; have hcz12_1 := b1 BK440; have hcz12_2 := b2 BK440; have hfz12_0 := fz BK440 0; have hfz12_1 := fz BK440 1; have hfz12_2 := fz BK440 2))
  refine bodyPost_ret (results_cell_row rfl _ _ gb440 31 #[.string (⟨#[]⟩ : ByteArray), .int .i64 0, .int .i64 0] (0, 0) _ rfl (by refine bx ?_; refine blk_put (cs := #[.string (⟨#[]⟩ : ByteArray), .int .i64 0, .int .i64 0]) ?_ 2 _ rfl; refine bx ?_; refine blk_put (cs := #[.string (⟨#[]⟩ : ByteArray), .int .i64 0, .int .i64 0]) ?_ 1 _ rfl; refine bx ?_; refine blk_put (cs := #[.string (⟨#[]⟩ : ByteArray), .int .i64 0, .int .i64 0]) ?_ 0 _ rfl; refine bx ?_; exact BK440.out) Try.underlying31 rfl (by kernel_rfl)) rfl ?_
  exact ⟨exq, bw HB.out⟩


/-! ### spec_l5Slot: function 99 -/
def spec_l5Slot.f (k : Nat) (s0_0 : List Int) (s0_1 : Int) : Option (ByteArray × Int) := (spec_l1Rd_of.f k s0_0 s0_1 (([(⟨#[115, 49]⟩ : ByteArray), (⟨#[115, 49]⟩ : ByteArray), (⟨#[115, 50]⟩ : ByteArray), (⟨#[115, 51]⟩ : ByteArray), (⟨#[107, 101, 103]⟩ : ByteArray)] : List ByteArray))).bind fun bt197 => (some (bt197.1, bt197.2))
theorem spec_l5Slot.mono : ∀ a0 a1 k, LeO (spec_l5Slot.f k a0 a1) (spec_l5Slot.f (k + 1) a0 a1) := by
 intro a0 a1 k
 unfold spec_l5Slot.f
 repeat' first
   | (with_reducible exact spec_l1Rd_of.mono _ _ _ _)
   | (with_reducible exact LeO.refl _)
   | (with_reducible exact LeO.none _)
   | (with_reducible refine LeO.ite ?_ ?_)
   | (with_reducible refine LeO.bind ?_ (fun _ => ?_))
   | exact spec_l1Rd_of.mono _ _ _ _
   | exact LeO.none _
   | refine LeO.ite ?_ ?_
   | refine LeO.bind ?_ (fun _ => ?_)
set_option maxHeartbeats 8000000 in
set_option maxRecDepth 100000 in
theorem spec_l5Slot.calls (k : Nat) (g : Nat) (s0_0 : List Int) (s0_1 : Int) (r1 : ByteArray) (r2 : Int) (w0 w : World) (hI : IsS107 w0 w g s0_0 s0_1) (hB : Below w0.heap.size w0 w) (h : spec_l5Slot.f k s0_0 s0_1 = some (r1, r2)) :
  Calls Try.prog 99 #[.pointer (some ⟨g, 0, none⟩)] w fun e w' => e = .returned (.string r1) ∧ IsS107 w0 w' g s0_0 r2 ∧ Below w0.heap.size w0 w' ∧ KeepBut w w' g none := by
 have HI0 := Aside0.mk hI
 have HK := Aside0.mk (KeepBut.refl w g none)
 have HL := Aside0.mk hB.size
 clear hI
 have HW0 := Aside0.mk hB.size
 have HB := Aside0.mk hB
 clear hB
 have H : ((spec_l1Rd_of.f k s0_0 s0_1 (([(⟨#[115, 49]⟩ : ByteArray), (⟨#[115, 49]⟩ : ByteArray), (⟨#[115, 50]⟩ : ByteArray), (⟨#[115, 51]⟩ : ByteArray), (⟨#[107, 101, 103]⟩ : ByteArray)] : List ByteArray))).bind fun bt197 => (some (bt197.1, bt197.2))) = some (r1, r2) := h
 clear h
 obtain ⟨y194, hy194⟩ : ∃ y_ : List ByteArray, y_ = (([(⟨#[115, 49]⟩ : ByteArray), (⟨#[115, 49]⟩ : ByteArray), (⟨#[115, 50]⟩ : ByteArray), (⟨#[115, 51]⟩ : ByteArray), (⟨#[107, 101, 103]⟩ : ByteArray)] : List ByteArray)) := ⟨_, rfl⟩
 replace H : ((spec_l1Rd_of.f k s0_0 s0_1 y194).bind fun bt197 => (some (bt197.1, bt197.2))) = some (r1, r2) := by first | (rw [hy194]; with_reducible exact H) | (have H2_ := (Option.bind_some _ _).symm.trans H; rw [hy194]; with_reducible exact H2_) | (have H2_ := (Option.bind_some _ _).symm.trans H; with_reducible exact H2_) | with_reducible exact H | (rw [hy194]; exact H) | exact H
 have Ny194 := Aside0.mk hy194
 clear hy194
 replace H := Option.bind_eq_some_iff.mp H
 obtain ⟨⟨t197, t198⟩, A20, H⟩ := H
 replace H : (some (t197, t198)) = some (r1, r2) := H
 have A2 := Aside0.mk A20
 clear A20
 simp only [Option.some.injEq, Prod.mk.injEq] at H
 obtain ⟨rfl, rfl⟩ := H
 go_enter Try.func99, Try.ntmps99
 go_wp2_with (first | ((with_reducible refine gate_dst (N := 4) rfl ?_); refine Kd.R_lit Kd.string _ 9 ?hg (N := 4) ?hd (xs := ([(⟨#[115, 49]⟩ : ByteArray), (⟨#[115, 49]⟩ : ByteArray), (⟨#[115, 50]⟩ : ByteArray), (⟨#[115, 51]⟩ : ByteArray), (⟨#[107, 101, 103]⟩ : ByteArray)] : List ByteArray)) (inner := [.string (⟨#[115, 49]⟩ : ByteArray), .string (⟨#[115, 49]⟩ : ByteArray), .string (⟨#[115, 50]⟩ : ByteArray), .string (⟨#[115, 51]⟩ : ByteArray), .string (⟨#[107, 101, 103]⟩ : ByteArray)]) (ok := fun _ => True) (okp := fun _ => True) ?hr ?hp (fun _ hk => hk) trivial (Below.refl _ _) (Nat.le_refl _) (by simp) ?_; (case hd => rfl); (case hg => rfl); (case hr => first | (go_simp; done) | (go_simp; rfl)); (case hp => exact (Reps.one (show Kd.M Kd.string _ _ _ (⟨#[115, 49]⟩ : ByteArray) [.string (⟨#[115, 49]⟩ : ByteArray)] from rfl) (Reps.one (show Kd.M Kd.string _ _ _ (⟨#[115, 49]⟩ : ByteArray) [.string (⟨#[115, 49]⟩ : ByteArray)] from rfl) (Reps.one (show Kd.M Kd.string _ _ _ (⟨#[115, 50]⟩ : ByteArray) [.string (⟨#[115, 50]⟩ : ByteArray)] from rfl) (Reps.one (show Kd.M Kd.string _ _ _ (⟨#[115, 51]⟩ : ByteArray) [.string (⟨#[115, 51]⟩ : ByteArray)] from rfl) (Reps.one (show Kd.M Kd.string _ _ _ (⟨#[107, 101, 103]⟩ : ByteArray) [.string (⟨#[107, 101, 103]⟩ : ByteArray)] from rfl) (Reps.none _ _))))))); intro v195 w3 ho4 hb hg_ hnew_; clear hg_ hnew_; (first | rw [← Ny194.out] at ho4 | (simp only [Int.reduceToNat] at ho4; rw [← Ny194.out] at ho4)); have n0_ := Aside0.mk (Kd.R_lower ho4 (keep_size (w := w) (g := g) (row := none) (kb HK.out))); have n1_ := Aside0.mk (IsS107.below (ib HI0.out) hb); have n2_ := kt HK (KeepBut.of_below hb g none); have n3_ := bsi HB hb; clear HI0; clear HK; clear HB; have HO196 := n0_; have HI0 := n1_; have HK := n2_; have HB := n3_; clear n0_ n1_ n2_ n3_; clear hb ho4; obtain ⟨Ao5, co5, eo5⟩ := Kd.R_slice HO196.out; subst eo5) | ((with_reducible refine gate_callee (f := 80) rfl ?_); refine goesL_ (some 5) rfl rfl Try.func80 (by kernel_rfl) rfl #[.pointer (some ⟨g, 0, none⟩), .slice Ao5 y194.length co5] rfl mxp ?_; (with_reducible refine (spec_l1Rd_of.calls k g s0_0 s0_1 _ _ y194 t197 t198 w0 _ ?side1 ?side2 ?side3 ?side4 ?side5 A2.out).mono ?_); (case side1 => exact ib HI0.out); (case side2 => exact bi HB.out); (case side3 => exact cx (Kd.R_reads' HO196.out).2.2); (case side4 => exact (Kd.R_reads' HO196.out).2.1); (case side5 => exact far_slice (IsS107.own_ne HI0.out HO196.out (by decide))); rintro e w6 ⟨rfl, hi, hb, hk⟩; refine ⟨_, rfl, ?_⟩; have n0_ := Aside0.mk (Kd.R_mono (Kd.R_keep (IsS107.apart (show IsS107 w0 _ g s0_0 s0_1 from ib HI0.out) (rx HO196.out) (by decide)) hk (fun _ h => h.2)) (fun _ h => h.1)); have n1_ := kt HK hk; have n2_ := Aside0.mk (hb); have n3_ := Aside0.mk (hi); clear HO196; clear HK; clear HB; clear HI0; have HO196 := n0_; have HK := n1_; have HB := n2_; have HI0 := n3_; clear n0_ n1_ n2_ n3_; (try clear hb); (try clear hb2); (try clear hk); (try clear hi)))
 go_ret
 exact ⟨exq, ib HI0.out, bi HB.out, kb HK.out⟩

end Go.Proofs.Ytdkologncoofdaa.P
