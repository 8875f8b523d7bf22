-- Made by wip/tools/myprint.py (this session's program, over the kit's print) out of the translation.
import Derived.Test.YtdkologncoofdaaPx0
import Derived.Test.YtdkologncoofdaaPx4
namespace Go.Proofs.Ytdkologncoofdaa.P
open Go.RowKit Go.Proofs.YtdkologncoofdaaW.PrintWords Go.Proofs.YtdkologncoofdaaW.PrintLast Go.Proofs.YtdkologncoofdaaW.PrintMore
attribute [local go_sem] max2_int min2_int max_two min_two max_three min_three max_four min_four   -- for this text's walks alone
set_option linter.unusedVariables false
set_option linter.unusedSimpArgs false

/-! ### impl_RecEnd: function 19 -/
def impl_RecEnd.f (k : Nat) (a0 : ByteArray) : Option (Int) := (some (([(⟨#[]⟩ : ByteArray), (⟨#[103, 111, 111, 100]⟩ : ByteArray), (⟨#[115, 97, 118, 101, 100]⟩ : ByteArray), (⟨#[115, 99, 114, 97, 112, 112, 101, 100]⟩ : ByteArray)] : List ByteArray) : List ByteArray)).bind fun y102 => (if 1 ≤ (y102.length : Int) then ((slices_Index_string_string.f k (y102.drop 1) a0).bind fun t109 => (some (wrap64 (t109 + 1)))) else (none))
theorem impl_RecEnd.mono : ∀ a0 k, LeO (impl_RecEnd.f k a0) (impl_RecEnd.f (k + 1) a0) := by
  intro a0 k
  unfold impl_RecEnd.f
  repeat' first
      | (with_reducible exact slices_Index_string_string.mono _ _ _)
      | (with_reducible exact LeO.refl _)
      | (with_reducible exact LeO.none _)
      | (with_reducible refine LeO.ite ?_ ?_)
      | (with_reducible refine LeO.bind ?_ (fun _ => ?_))
      | exact slices_Index_string_string.mono _ _ _
      | exact LeO.none _
      | refine LeO.ite ?_ ?_
      | refine LeO.bind ?_ (fun _ => ?_)
set_option maxHeartbeats 8000000 in
set_option maxRecDepth 100000 in
theorem impl_RecEnd.calls (k : Nat) (a0 : ByteArray) (r : Int) (w : World) (h : impl_RecEnd.f k a0 = some r) :
    Calls Try.prog 19 #[.string a0] w fun e w' => e = .returned (.int .i64 r) ∧ Below w.heap.size w w' := by
  have HB := Aside0.mk (Below.refl w.heap.size w)
  have H : ((some (([(⟨#[]⟩ : ByteArray), (⟨#[103, 111, 111, 100]⟩ : ByteArray), (⟨#[115, 97, 118, 101, 100]⟩ : ByteArray), (⟨#[115, 99, 114, 97, 112, 112, 101, 100]⟩ : ByteArray)] : List ByteArray) : List ByteArray)).bind fun y102 => (if 1 ≤ (y102.length : Int) then ((slices_Index_string_string.f k (y102.drop 1) a0).bind fun t109 => (some (wrap64 (t109 + 1)))) else (none))) = some r := h
  clear h
  obtain ⟨y102, hy102⟩ : ∃ y_ : List ByteArray, y_ = (([(⟨#[]⟩ : ByteArray), (⟨#[103, 111, 111, 100]⟩ : ByteArray), (⟨#[115, 97, 118, 101, 100]⟩ : ByteArray), (⟨#[115, 99, 114, 97, 112, 112, 101, 100]⟩ : ByteArray)] : List ByteArray)) := ⟨_, rfl⟩
  replace H : (if 1 ≤ (y102.length : Int) then ((slices_Index_string_string.f k (y102.drop 1) a0).bind fun t109 => (some (wrap64 (t109 + 1)))) else (none)) = some r := by first | (rw [hy102]; with_reducible exact H) | (have H2_ := (Option.bind_some _ _).symm.trans H; rw [hy102]; with_reducible exact H2_) | (have H2_ := (Option.bind_some _ _).symm.trans H; with_reducible exact H2_) | with_reducible exact H | (rw [hy102]; exact H) | exact H
  have Ny102 := Aside0.mk hy102
  clear hy102
  by_cases c2 : 1 ≤ (y102.length : Int)
  · rw [if_pos c2] at H
    have c2b0 := eq_true c2
    have c2b1 : decide (1 ≤ (y102.length : Int)) = true := decide_eq_true c2
    clear c2
    obtain ⟨y105, hy105⟩ : ∃ y_ : List ByteArray, y_ = (y102.drop 1) := ⟨_, rfl⟩
    replace H : ((slices_Index_string_string.f k y105 a0).bind fun t109 => (some (wrap64 (t109 + 1)))) = some r := by first | (rw [hy105]; with_reducible exact H) | (have H2_ := (Option.bind_some _ _).symm.trans H; rw [hy105]; with_reducible exact H2_) | (have H2_ := (Option.bind_some _ _).symm.trans H; with_reducible exact H2_) | with_reducible exact H | (rw [hy105]; exact H) | exact H
    have Ny105 := Aside0.mk hy105
    clear hy105
    replace H := Option.bind_eq_some_iff.mp H
    obtain ⟨t109, A30, H⟩ := H
    replace H : (some (wrap64 (t109 + 1))) = some r := H
    have A3 := Aside0.mk A30
    clear A30
    obtain rfl := Option.some.inj H
    go_enter Try.func19, Try.ntmps19
    go_wp2_with (first | ((with_reducible refine gate_dst (N := 3) rfl ?_); refine Kd.R_lit Kd.string _ 9 ?hg (N := 3) ?hd (xs := ([(⟨#[]⟩ : ByteArray), (⟨#[103, 111, 111, 100]⟩ : ByteArray), (⟨#[115, 97, 118, 101, 100]⟩ : ByteArray), (⟨#[115, 99, 114, 97, 112, 112, 101, 100]⟩ : ByteArray)] : List ByteArray)) (inner := [.string (⟨#[]⟩ : ByteArray), .string (⟨#[103, 111, 111, 100]⟩ : ByteArray), .string (⟨#[115, 97, 118, 101, 100]⟩ : ByteArray), .string (⟨#[115, 99, 114, 97, 112, 112, 101, 100]⟩ : ByteArray)]) (ok := fun _ => True) (okp := fun _ => True) ?hr ?hp (fun _ hk => hk) trivial (Below.refl _ _) (Nat.le_refl _) (by simp) ?_; (case hd => rfl); (case hg => rfl); (case hr => first | (go_simp; done) | (go_simp; rfl)); (case hp => exact (Reps.one (show Kd.M Kd.string _ _ _ (⟨#[]⟩ : ByteArray) [.string (⟨#[]⟩ : ByteArray)] from rfl) (Reps.one (show Kd.M Kd.string _ _ _ (⟨#[103, 111, 111, 100]⟩ : ByteArray) [.string (⟨#[103, 111, 111, 100]⟩ : ByteArray)] from rfl) (Reps.one (show Kd.M Kd.string _ _ _ (⟨#[115, 97, 118, 101, 100]⟩ : ByteArray) [.string (⟨#[115, 97, 118, 101, 100]⟩ : ByteArray)] from rfl) (Reps.one (show Kd.M Kd.string _ _ _ (⟨#[115, 99, 114, 97, 112, 112, 101, 100]⟩ : ByteArray) [.string (⟨#[115, 99, 114, 97, 112, 112, 101, 100]⟩ : ByteArray)] from rfl) (Reps.none _ _)))))); intro v103 w4 ho5 hb hg_ hnew_; clear hg_ hnew_; (first | rw [← Ny102.out] at ho5 | (simp only [Int.reduceToNat] at ho5; rw [← Ny102.out] at ho5)); have n0_ := Aside0.mk (Kd.R_lower ho5 (below_size (by repeat (first | (with_reducible first | exact HB.out | apply below_alloc | apply pw_below_drewN | apply below_drew1) | exact HB.out)))); have n1_ := Aside0.mk (below_step (by repeat (first | (with_reducible first | exact HB.out | apply below_alloc | apply pw_below_drewN | apply below_drew1) | exact HB.out)) hb); clear HB; have HO104 := n0_; have HB := n1_; clear n0_ n1_; clear hb ho5; obtain ⟨Ao7, co7, eo7⟩ := Kd.R_slice HO104.out; subst eo7; have q6 : (1 : Int) ≤ ((y102.length : Int) : Int) := of_decide_eq_true (by first | (with_reducible assumption) | assumption); obtain ⟨i06, hi06, _, hsz6, _⟩ := info_parts info9; have hroom6 : y102.length ≤ co7 := (Kd.R_reads' HO104.out).2.1; have hC6 : Kd.C Kd.string _ Ao7 y102.length y102 := (Kd.R_reads' HO104.out).2.2; have hcut6 := cut_from (P := Try.prog) 32 9 .i64 Try.underlying32 hi06 1 hsz6 Ao7 y102.length co7 1 (by omega) q6; have hr6 := Kd.C_drop (m := (1 : Int).toNat) (c := co7) hC6 (by omega) hroom6; obtain ⟨A6, hA6⟩ : ∃ A1, A1 = (if co7 = (1 : Int).toNat then Ao7 else (Ao7 : Option Addr).map (·.add ((1 : Int).toNat * 1))) := ⟨_, rfl⟩; obtain ⟨c6, hc6⟩ : ∃ c1, c1 = co7 - (1 : Int).toNat := ⟨_, rfl⟩; have hy6 : y105.length = y102.length - (1 : Int).toNat := (by rw [Ny105.out, List.length_drop] <;> omega); rw [show (y102).drop (1 : Int).toNat = y105 from Ny105.out.symm] at hr6; replace hr6 : Kd.C Kd.string _ A6 y105.length y105 := (by rw [hA6]; exact hr6); rw [← hy6, ← hA6, ← hc6] at hcut6; have HR108 := Aside0.mk hr6; have HC108 := Aside0.mk (show y105.length ≤ c6 from by rw [hy6, hc6]; exact Nat.sub_le_sub_right hroom6 _); clear hr6 hC6 hroom6 hi06 hsz6 hc6; have KY6 := Aside0.mk hy6; have KA6 := Aside0.mk hA6; clear hy6 hA6; have KL6 := Aside0.mk (show 1 ≤ y102.length from by omega); replace q6 := eq_true q6) | ((with_reducible refine gate_callee (f := 61) rfl ?_); refine goesL_ (some 6) rfl rfl Try.func61 (by kernel_rfl) rfl #[.slice A6 y105.length c6, .string a0] rfl (by (try simp only [List.map_toArray, List.map_cons, List.map_nil]); first | done | rfl | (simp only [List.length_drop, List.length_take]; rfl)) ?_; (with_reducible refine (slices_Index_string_string.calls k _ _ y105 a0 t109 _ ?side1 ?side2 A3.out).mono ?_); (case side1 => repeat (first | exact (by repeat (first | (with_reducible exact HR108.out) | (with_reducible refine Kd.C_alloc ?_ _) | (with_reducible refine Kd.C_drewN ?_ _) | (with_reducible refine Kd.C_drew ?_) | exact HR108.out)) | (with_reducible refine Kd.C_alloc ?_ _) | (with_reducible refine Kd.C_drewN ?_ _) | (with_reducible refine Kd.C_drew ?_))); (case side2 => exact HC108.out); rintro e w' ⟨rfl, ⟨nd, rfl⟩⟩; refine ⟨_, rfl, ?_⟩))
    go_ret
    exact ⟨by first | rfl | (simp [errW_none, errW_some] <;> rfl) | (simp [*, errW_none, errW_some] <;> rfl), by repeat (first | (with_reducible first | exact HB.out | apply below_alloc | apply pw_below_drewN | apply below_drew1) | exact HB.out)⟩
  · rw [if_neg c2] at H
    exact absurd H (by simp)

end Go.Proofs.Ytdkologncoofdaa.P
