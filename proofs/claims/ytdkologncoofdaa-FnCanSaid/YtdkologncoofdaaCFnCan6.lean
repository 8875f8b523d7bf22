/- Part 6 of the texts that the law FnCan reaches: contracts of the functions and plain lemmas. -/
import Derived.Test.YtdkologncoofdaaCFnCan2
import Derived.Test.YtdkologncoofdaaCFnCan3
import Derived.Test.YtdkologncoofdaaCFnCan4
import Derived.Test.YtdkologncoofdaaCFnCan5
import Derived.Maps.OwnOps
import Derived.Maps.OwnSet
import Derived.Maps.RangeWalk
import Derived.Laws.EntriesVeiled
import Derived.WalkSpells
import Derived.StillTailTactics
-- XWalk
namespace Go
open Go.Maps (Keyed)
theorem plainElem_bool_inv {H : Type} {P : Program} {e : TypeId} (he : P.underlying e = some .bool) {v : Value} {z : DataW H × List MemPlace} (h : plainElem P e v = some z) : ∃ x, v = .bool x ∧ z = (.lit (.bool x), []) := by
  cases v <;> simp [plainElem, he] at h
  exact ⟨_, rfl, h.symm⟩
/-- 'm[k]' (without 'ok') at bools. -/
theorem wpList_lookup_own_bool {H : Type} {P : Program} (w : World) {ops : Array Oper} {rest : List Oper} {o : Oper} {a : Act} {Q : Exit → Act → World → Prop}
    (hg : o.guard = none) (m x : Operand) (t : TypeId) (hop : o.op = Op.lookup t m x false)
    (k e : TypeId) (K : Keyed P k) (ht : P.underlying t = some (.map k e)) (he : P.underlying e = some .bool) (hz : (zeroValue e).run P w = .ok (.bool false) w) (b n : Nat) (D : DataW H)
    (hm : a.eval m = .map (some b)) (hown : w.ownsMap P k (plainElem P e) b n D) (key : Value) (kl : Lit) (hx : a.eval x = key) (hkey : keyOf P k key = some kl)
    (hK : ∀ c : Bool, D.atKey kl (.lit (.bool false)) = .lit (.bool c) → wpList P ops Q rest (a.put o.dst (.bool c)) w) :
    wpList P ops Q (o :: rest) a w := by
  refine wpList_plain hg fun K' hK' => ?_
  obtain ⟨v, ps, hrun, hv⟩ := hown.lookup K ht hz (plainElem_bool he false) hkey
  obtain ⟨c, rfl, hc⟩ := plainElem_bool_inv he hv
  simp only [Prod.mk.injEq] at hc
  unfold Oper.wp
  simp [execOp, hop, hm, hx, hrun, Result.andThen]
  exact hK' _ _ (hK c hc.1)
end Go
namespace Go.Proofs.Ytdkologncoofdaa.P
open Go.RowKit Go.Proofs.YtdkologncoofdaaW.PrintWords Go.Proofs.YtdkologncoofdaaW.PrintLast
set_option linter.unusedVariables false
set_option linter.unusedSimpArgs false

theorem zero4 (w : World) : (zeroValue 4).run Try.prog w = .ok (.bool false) w := by kernel_rfl
theorem law9 : Maps.Keyed Try.prog 9 := Maps.string_keyed Try.underlying9

/-- What a walk leans on: the recipe came in; the map, and the three cells that the walk's function captures. -/
structure Seat (w0 W : World) (bS bR bW B : Nat) (A : Option Addr) (c n : Nat) : Prop where
  below : Below w0.heap.size w0 W
  new : w0.heap.size ≤ B
  s : W.heap[bS]? = some (.cells #[.map (some B)] 90 (0, 0))
  r : W.heap[bR]? = some (.cells #[.slice A n c] 26 (0, 0))
  f : W.heap[bW]? = some (.cells #[.func (.func 97) #[] #[.pointer (some ⟨bS, 0, none⟩), .pointer (some ⟨bR, 0, none⟩), .pointer (some ⟨bW, 0, none⟩)]] 110 (0, 0))
theorem blk_ne_map {W : World} {P : Program} {k : TypeId} {RR : Value → Option (DataW Unit × List MemPlace)} {b g m : Nat} {D : DataW Unit} {cs : Array Value} {t : TypeId} {fr : Nat × Nat} (h : W.ownsMap P k RR b m D) (hg : W.heap[g]? = some (.cells cs t fr)) : g ≠ b := by
  rintro rfl
  obtain ⟨es, clock, hb, _⟩ := h
  rw [hb] at hg
  cases hg
theorem Seat.grown {w0 W W' : World} {bS bR bW B : Nat} {A : Option Addr} {c n m : Nat} {D : DataW Unit} (h : Seat w0 W bS bR bW B A c n) (ho : W.ownsMap Try.prog 9 (plainElem Try.prog 4) B m D) {row : Option Nat} (hrow : row = none ∨ row = some B) (hg : W.grownBy W' row) : Seat w0 W' bS bR bW B A c n := by
  have hne : ∀ {g : Nat} {cs : Array Value} {t : TypeId} {fr : Nat × Nat}, W.heap[g]? = some (.cells cs t fr) → some g ≠ row := by
    intro g cs t fr hg'
    rcases hrow with rfl | rfl
    · simp
    · intro e; exact blk_ne_map ho hg' (Option.some.inj e)
  refine ⟨h.below.grown hg h.below.size (fun k hk => ?_), h.new, ?_, ?_, ?_⟩
  · rcases hrow with rfl | rfl
    · cases hk
    · cases hk; exact h.new
  · exact blk_grown h.s hg (hne h.s)
  · exact blk_grown h.r hg (hne h.r)
  · exact blk_grown h.f hg (hne h.f)
theorem grown_none {w w1 : World} (h : Below w.heap.size w w1) : w.grownBy w1 none := grown_of_below h none

theorem nm_small (s : ByteArray) (h : nmOk s = true) : s.size ≤ maxLen := by
  unfold nmOk at h
  simp only [Bool.and_eq_true, inB_iff] at h
  unfold maxLen
  omega
theorem small_names (l : List S39) (hok : recOk l = true) (n : ByteArray) (h0 : ¬ atOf l n < 0) : (rd_T39 l (atOf l n)).f6.size ≤ maxLen ∧ (rd_T39 l (atOf l n)).f7.size ≤ maxLen := by
  have hr := atOf_range l n
  obtain ⟨i, hi⟩ := Int.eq_ofNat_of_zero_le (show 0 ≤ atOf l n by omega)
  have h := recOk_at l hok i (by omega)
  unfold okAt phOk at h
  simp only [Bool.and_eq_true] at h
  rw [hi]
  exact ⟨nm_small _ h.1.1.1.1.2, nm_small _ h.1.1.1.2⟩

set_option maxHeartbeats 8000000 in
set_option maxRecDepth 100000 in
theorem walk_calls (l : List S39) (hok : recOk l = true) (w0 : World) (A : Option Addr) (c : Nat) (hr : Kd.C k39 w0 A l.length l) (hc : l.length ≤ c) (bS bR bW B : Nat) (d : Nat) :
    ∀ (n : ByteArray) (W : World) (D : DataW Unit) (m : Nat) (S : List UInt8 → Bool), rk l n < d → n.size ≤ maxLen → Seat w0 W bS bR bW B A c l.length → W.ownsMap Try.prog 9 (plainElem Try.prog 4) B m D → Sat D S → Closed l S (rk l n + 1) → m + 2 ^ d ≤ 1000000 →
    Calls Try.prog 97 #[.string n, .pointer (some ⟨bS, 0, none⟩), .pointer (some ⟨bR, 0, none⟩), .pointer (some ⟨bW, 0, none⟩)] W
      fun e w' => e = .returned (.tuple #[]) ∧ ∃ (D' : DataW Unit) (m' : Nat), w'.ownsMap Try.prog 9 (plainElem Try.prog 4) B m' D' ∧ Sat D' (fun x => S x || R l n x) ∧ m' + 1 ≤ m + 2 ^ d ∧ W.grownBy w' (some B) := by
  induction d with
  | zero => intro n W D m S hd; omega
  | succ d ih =>
    intro n W D m S hd hn hs ho hsat hC hm
    have hkey : keyOf Try.prog 9 (.string n) = some (.string (ltr n)) := Go.WideMaps.keyOf_string_mk Try.underlying9 hn
    have hm2 : m < maxLen := by have : 1 ≤ 2 ^ (d + 1) := Nat.one_le_two_pow; unfold maxLen; omega
    have cS : W.cell? ⟨bS, 0, none⟩ = some (.map (some B)) := (blk_cell hs.s 0).trans rfl
    have HS := Aside0.mk hs
    have HO := Aside0.mk ho
    have HSat := Aside0.mk hsat
    have HC := Aside0.mk hC
    have HR := Aside0.mk hr
    have hu26 := Try.underlying26
    have hu39 := Try.underlying39
    clear hs ho hsat hC hr
    have hp : 1 ≤ 2 ^ d := Nat.one_le_two_pow
    cases hS : S (ltr n) with
    | true =>
      have H0 := Aside0.mk hS
      clear hS
      go_enter Try.func97, Try.ntmps97
      go_wp2_with (at_lookup; refine wpList_lookup_own_bool (H := Unit) _ rfl _ _ 90 rfl 9 4 law9 Try.underlying90 Try.underlying4 (zero4 _) B m D rfl HO.out _ _ rfl hkey ?_; intro cc hat; rw [sat_at HSat.out, H0.out] at hat; cases hat)
      go_frame
      refine bodyPost_ret (v := .tuple #[]) (results_none rfl _ _ _) rfl ?_
      refine ⟨rfl, D, m, HO.out, sat_of HSat.out (fun x => ?_), by rw [Nat.pow_succ]; omega, grown_of_below (Below.refl _ _) _⟩
      cases hx : R l n x with
      | false => simp
      | true => rw [closed_R l hok S (rk l n) n (Nat.le_refl _) HC.out H0.out x hx]; rfl
    | false =>
      have H0 := Aside0.mk hS
      clear hS
      by_cases h0 : atOf l n < 0
      · have h0b : decide (0 ≤ atOf l n) = false := decide_eq_false (by omega)
        go_enter Try.func97, Try.ntmps97
        go_wp2_with (first | (at_lookup; refine wpList_lookup_own_bool (H := Unit) _ rfl _ _ 90 rfl 9 4 law9 Try.underlying90 Try.underlying4 (zero4 _) B m D rfl HO.out _ _ rfl hkey ?_; intro cc hat; rw [sat_at HSat.out, H0.out] at hat; cases hat) | (at_mapUpdate; refine wpList_mapUpdate_own (H := Unit) _ rfl _ _ _ 90 rfl 9 4 law9 Try.underlying90 (plainElem Try.prog 4) B m D rfl HO.out hm2 _ _ _ rfl rfl hkey (.lit (.bool true)) [] (plainElem_bool Try.underlying4 true) ?_; intro w1 hown1 hg1; have HS1 := Aside0.mk (HS.out.grown HO.out (.inr rfl) hg1); have cR1 : w1.cell? ⟨bR, 0, none⟩ = some (.slice A l.length c) := (blk_cell HS1.out.r 0).trans rfl; have HO1 := Aside0.mk hown1; have HG1 := Aside0.mk hg1; clear hown1 hg1) | (go_at_call 69; refine (impl_at.calls _ _ l n (atOf l n) _ (Kd.C_below HR.out HS1.out.below) hc rfl).mono ?_; rintro e w2 ⟨rfl, hb⟩))
        go_end0
        have e2 := World.grownBy.andThen HG1.out (grown_none hb) (fun j hj => by cases hj)
        refine ⟨rfl, _, _, HO1.out.kept (grown_none hb) (by simp), sat_of (sat_put HSat.out HO.out.isMap (ltr n)) (fun x => ?_), by rw [Nat.pow_succ]; omega, e2⟩
        rw [R_step l hok n x, show decide (atOf l n < 0) = true from decide_eq_true h0]
        simp
      · have h0b : decide (0 ≤ atOf l n) = true := decide_eq_true (by omega)
        have H00 := Aside0.mk h0
        have h0c : 0 ≤ atOf l n := by omega
        have hlt : atOf l n < (l.length : Int) := (atOf_range l n).2
        obtain ⟨ad, e, x0, x1, x2, x3, x4, x5, x6, x7⟩ := at_T39 HR.out (atOf l n) h0c hlt
        cases e
        have HX6 := Aside0.mk x6
        have HX7 := Aside0.mk x7
        clear x0 x1 x2 x3 x4 x5 x6 x7
        go_enter Try.func97, Try.ntmps97
        go_wp2_with (first | (at_lookup; refine wpList_lookup_own_bool (H := Unit) _ rfl _ _ 90 rfl 9 4 law9 Try.underlying90 Try.underlying4 (zero4 _) B m D rfl HO.out _ _ rfl hkey ?_; intro cc hat; rw [sat_at HSat.out, H0.out] at hat; cases hat) | (at_mapUpdate; refine wpList_mapUpdate_own (H := Unit) _ rfl _ _ _ 90 rfl 9 4 law9 Try.underlying90 (plainElem Try.prog 4) B m D rfl HO.out hm2 _ _ _ rfl rfl hkey (.lit (.bool true)) [] (plainElem_bool Try.underlying4 true) ?_; intro w1 hown1 hg1; have HS1 := Aside0.mk (HS.out.grown HO.out (.inr rfl) hg1); have cR1 : w1.cell? ⟨bR, 0, none⟩ = some (.slice (some ad) l.length c) := (blk_cell HS1.out.r 0).trans rfl; have HO1 := Aside0.mk hown1; have HG1 := Aside0.mk hg1; clear hown1 hg1) | (go_at_call 69; refine (impl_at.calls _ _ l n (atOf l n) _ (Kd.C_below HR.out HS1.out.below) hc rfl).mono ?_; rintro e w2 ⟨rfl, hb⟩; have HB2 := Aside0.mk hb; have HS2 := Aside0.mk (HS1.out.grown HO1.out (.inl rfl) (grown_none hb)); have HO2 := Aside0.mk (HO1.out.kept (grown_none hb) (by simp)); have cR2 : w2.cell? ⟨bR, 0, none⟩ = some (.slice (some ad) l.length c) := (blk_cell HS2.out.r 0).trans rfl; have cF2 : w2.cell? ⟨bW, 0, none⟩ = some (.func (.func 97) #[] #[.pointer (some ⟨bS, 0, none⟩), .pointer (some ⟨bR, 0, none⟩), .pointer (some ⟨bW, 0, none⟩)]) := (blk_cell HS2.out.f 0).trans rfl; have c6 := (HS2.out.below.cell (World.block_lt_of_cell? w0 _ HX6.out)).trans HX6.out; have h0t := eq_true h0c; have hltt := eq_true hlt; clear hb))
        go_still_tail 6, (by kernel_rfl)
        change wpList _ _ _ _ _ w2.drew
        obtain ⟨w3, hw3⟩ : ∃ w3, w3 = w2.drew := ⟨_, rfl⟩
        rw [← hw3]
        have hb3 : Below w2.heap.size w2 w3 := by rw [hw3]; exact (Below.refl _ _).drew
        clear hw3 cR1 cR2 cF2 c6
        have HS3 := Aside0.mk (HS2.out.grown HO2.out (.inl rfl) (grown_none hb3))
        have HO3 := Aside0.mk (HO2.out.kept (grown_none hb3) (by simp))
        have HG3 := Aside0.mk (World.grownBy.andThen (World.grownBy.andThen HG1.out (grown_none HB2.out) (fun j hj => by cases hj)) (grown_none hb3) (fun j hj => by cases hj))
        have hx := ok_ref l hok n (Int.not_lt.mpr H00.out)
        have hsat1 := sat_put HSat.out HO.out.isMap (ltr n)
        have hcl1 := closed_add l S n HC.out
        have hz := small_names l hok n (Int.not_lt.mpr H00.out)
        have hcall := ih (rd_T39 l (atOf l n)).f6 w3 _ (m + 1) _ (by omega) hz.1 HS3.out HO3.out hsat1 (fun q hq hk => hcl1 q hq (by omega)) (by rw [Nat.pow_succ] at hm; omega)
        have HI := Aside0.mk ih
        have HX := Aside0.mk hx
        have HC1 := Aside0.mk hcl1
        have HZ := Aside0.mk hz
        clear ih hsat1 hcl1 hx hz hb3 HB2 HS1 HO1 HG1 HS2 HO2
        go_wp2_with (go_at_call 97; refine hcall.mono ?_; rintro e w4 ⟨rfl, D2, m2, hown2, hsat2, hm2', hg2⟩; have HS4 := Aside0.mk (HS3.out.grown HO3.out (.inr rfl) hg2); have HO4 := Aside0.mk hown2; have HSat2 := Aside0.mk hsat2; have HG4 := Aside0.mk (World.grownBy.andThen HG3.out hg2 (fun j hj => .inr (by cases hj; rfl))); have cR4 : w4.cell? ⟨bR, 0, none⟩ = some (.slice (some ad) l.length c) := (blk_cell HS4.out.r 0).trans rfl; have cF4 : w4.cell? ⟨bW, 0, none⟩ = some (.func (.func 97) #[] #[.pointer (some ⟨bS, 0, none⟩), .pointer (some ⟨bR, 0, none⟩), .pointer (some ⟨bW, 0, none⟩)]) := (blk_cell HS4.out.f 0).trans rfl; have c7 := (HS4.out.below.cell (World.block_lt_of_cell? w0 _ HX7.out)).trans HX7.out; clear hown2 hsat2 hg2 hcall)
        go_still_tail 6, (by kernel_rfl)
        change wpList _ _ _ _ _ w4.drew
        obtain ⟨w5, hw5⟩ : ∃ w5, w5 = w4.drew := ⟨_, rfl⟩
        rw [← hw5]
        have hb5 : Below w4.heap.size w4 w5 := by rw [hw5]; exact (Below.refl _ _).drew
        clear hw5 cR4 cF4 c7
        have HS5 := Aside0.mk (HS4.out.grown HO4.out (.inl rfl) (grown_none hb5))
        have HO5 := Aside0.mk (HO4.out.kept (grown_none hb5) (by simp))
        have HG5 := Aside0.mk (World.grownBy.andThen HG4.out (grown_none hb5) (fun j hj => by cases hj))
        have hcall2 := HI.out (rd_T39 l (atOf l n)).f7 w5 _ m2 _ (by have := HX.out; omega) HZ.out.2 HS5.out HO5.out HSat2.out (fun q hq hk => closed_union l hok _ (rd_T39 l (atOf l n)).f6 (rk l n) HC1.out q hq (by have := HX.out; omega)) (by rw [Nat.pow_succ] at hm; omega)
        clear hb5 HS3 HO3 HG3 HS4 HO4 HG4
        go_wp2_with (go_at_call 97; refine hcall2.mono ?_; rintro e w6 ⟨rfl, D3, m3, hown3, hsat3, hm3, hg3⟩; clear hcall2)
        go_end0
        refine ⟨rfl, D3, m3, hown3, sat_of hsat3 (fun x => ?_), by rw [Nat.pow_succ]; omega, World.grownBy.andThen HG5.out hg3 (fun j hj => .inr (by cases hj; rfl))⟩
        rw [R_step l hok n x, show decide (atOf l n < 0) = false from decide_eq_false (Int.not_lt.mpr H00.out)]
        simp [Bool.or_assoc]

end Go.Proofs.Ytdkologncoofdaa.P
-- XReach
namespace Go.Proofs.Ytdkologncoofdaa.P
open Go.RowKit Go.Proofs.YtdkologncoofdaaW.PrintWords Go.Proofs.YtdkologncoofdaaW.PrintLast
set_option linter.unusedVariables false
set_option linter.unusedSimpArgs false
set_option maxHeartbeats 8000000
set_option maxRecDepth 100000

/-- The world in which 'reach' calls its walk. -/
def reachW (w : World) (A : Option Addr) (c n : Nat) : World :=
  (((w.alloc (Obj.cells #[Value.slice A n c] 26)).alloc (Obj.map #[] 0)).alloc (Obj.cells #[Value.map (some (w.heap.size + 1))] 90)).alloc
    (Obj.cells #[Value.func (Fn.func 97) #[] #[Value.pointer (some { block := w.heap.size + 1 + 1, off := 0 }), Value.pointer (some { block := w.heap.size, off := 0 }), Value.pointer (some { block := w.heap.size + 1 + 1 + 1, off := 0 })]] 110)
theorem reachW_below (w : World) (A : Option Addr) (c n : Nat) : Below w.heap.size w (reachW w A c n) := by
  unfold reachW
  refine Below.alloc (Below.alloc (Below.alloc (Below.alloc (Below.refl _ _) ?_ _) ?_ _) ?_ _) ?_ _ <;> simp <;> omega
theorem alloc_at (w : World) (o : Obj) (b : Nat) (h : b = w.heap.size) : (w.alloc o).heap[b]? = some o := by
  subst h; simp only [World.alloc, Array.getElem?_push_size]
theorem alloc_old (w : World) (o : Obj) (b : Nat) (x : Obj) (h : w.heap[b]? = some x) : (w.alloc o).heap[b]? = some x := by
  have hlt : b < w.heap.size := (Array.getElem?_eq_some_iff.mp h).1
  simp only [World.alloc]
  rw [Array.getElem?_push_lt hlt]
  exact (Array.getElem?_eq_some_iff.mp h).2 ▸ rfl
theorem reachW_seat (w : World) (A : Option Addr) (c n : Nat) : Seat w (reachW w A c n) (w.heap.size + 1 + 1) w.heap.size (w.heap.size + 1 + 1 + 1) (w.heap.size + 1) A c n := by
  refine ⟨reachW_below w A c n, by omega, ?_, ?_, ?_⟩
  · unfold reachW; exact alloc_old _ _ _ _ (alloc_at _ _ _ (by simp))
  · unfold reachW; exact alloc_old _ _ _ _ (alloc_old _ _ _ _ (alloc_old _ _ _ _ (alloc_at _ _ _ rfl)))
  · unfold reachW; exact alloc_at _ _ _ (by simp)
theorem reachW_owns {H : Type} (w : World) (A : Option Addr) (c n : Nat) : (reachW w A c n).ownsMap Try.prog 9 (plainElem (H := H) Try.prog 4) (w.heap.size + 1) 0 (.map []) := by
  have h := World.ownsMap_made (w.alloc (Obj.cells #[Value.slice A n c] 26)) Try.prog 9 (plainElem (H := H) Try.prog 4)
  have e : (w.alloc (Obj.cells #[Value.slice A n c] 26)).heap.size = w.heap.size + 1 := by simp
  rw [e] at h
  unfold reachW
  refine h.kept (grown_none ?_) (by simp)
  refine Below.alloc (Below.alloc (Below.refl _ _) ?_ _) ?_ _ <;> simp
theorem rk_lt (l : List S39) (hok : recOk l = true) (n : ByteArray) : rk l n < 13 := by
  have h : inB (l.length : Int) 1 12 = true := by
    unfold recOk at hok
    simp only [Bool.and_eq_true] at hok
    exact hok.1
  rw [inB_iff] at h
  have := atOf_range l n
  unfold rk
  split <;> omega
theorem reach_calls (l : List S39) (hok : recOk l = true) (w : World) (A : Option Addr) (c : Nat) (hr : Kd.C k39 w A l.length l) (hc : l.length ≤ c) (n : ByteArray) (hn : n.size ≤ maxLen) :
    Calls Try.prog 70 #[.slice A l.length c, .string n] w fun e w' => ∃ (B : Nat) (D : DataW Unit) (m : Nat), e = .returned (.map (some B)) ∧ w.heap.size ≤ B ∧ w'.ownsMap Try.prog 9 (plainElem Try.prog 4) B m D ∧ Sat D (R l n) ∧ m ≤ 8192 ∧ Below w.heap.size w w' := by
  have hmm := @run_makeMap Try.prog
  have hcall := walk_calls l hok w A c hr hc _ _ _ _ 13 n (reachW w A c l.length) _ 0 _ (rk_lt l hok n) hn (reachW_seat w A c l.length) (reachW_owns w A c l.length) sat_empty (fun q h => by cases h) (by decide)
  unfold reachW at hcall
  have HS := Aside0.mk (reachW_seat w A c l.length)
  have HO := Aside0.mk (reachW_owns (H := Unit) w A c l.length)
  clear hr
  go_enter Try.func70, Try.ntmps70
  go_wp2_with (go_at_call 97; refine hcall.mono ?_; rintro e w2 ⟨rfl, D2, m2, hown2, hsat2, hm2, hg2⟩; have HS2 := Aside0.mk (HS.out.grown HO.out (.inr rfl) hg2); have HO2 := Aside0.mk hown2; have HSat2 := Aside0.mk hsat2; have cS2 : w2.cell? ⟨w.heap.size + 1 + 1, 0, none⟩ = some (.map (some (w.heap.size + 1))) := (blk_cell HS2.out.s 0).trans rfl; clear hcall hown2 hsat2 hg2)
  go_ret
  refine ⟨_, D2, m2, rfl, by omega, HO2.out, sat_of HSat2.out (fun x => by simp), by omega, HS2.out.below⟩

end Go.Proofs.Ytdkologncoofdaa.P
-- XCan
namespace Go.Proofs.Ytdkologncoofdaa.P
open Go.RowKit Go.Proofs.YtdkologncoofdaaW.PrintWords Go.Proofs.YtdkologncoofdaaW.PrintLast
set_option linter.unusedVariables false
set_option linter.unusedSimpArgs false
def impl_RecCan.f (_k : Nat) (l : List S39) (a : ByteArray) (e : Int) : Option Bool := some (canOf l a e)
theorem impl_RecCan.mono : ∀ a0 a1 a2 k, LeO (impl_RecCan.f k a0 a1 a2) (impl_RecCan.f (k + 1) a0 a1 a2) := fun _ _ _ _ => LeO.refl _

theorem keyOf_string_inv {key : Value} {kl : Lit} (h : keyOf Try.prog 9 key = some kl) : ∃ x, key = .string x ∧ kl = .string (ltr x) := by
  rw [keyOf_string Try.underlying9] at h
  cases key <;> simp [mapKey, Try.underlying9] at h
  exact ⟨_, rfl, h.2.symm⟩

/-- The step over a set of strings: the element is 'true'. -/
theorem wpList_next_sat (w : World) {ops : Array Oper} {rest : List Oper} {o : Oper} {a : Act} {Q : Exit → Act → World → Prop} (hg : o.guard = none) (it : Operand) (hop : o.op = Op.next it false)
    (b r n : Nat) (D : DataW Unit) (S : List UInt8 → Bool) (hS : Sat D S) (left : Lit → Bool) (cnt : Nat)
    (hit : a.eval it = .pointer (some ⟨r, 0, none⟩)) (h : w.ranges Try.prog 9 (plainElem Try.prog 4) b r n D left cnt)
    (hDone : cnt = 0 → (∀ kl, left kl = false) → wpList Try.prog ops Q rest (a.put o.dst (.tuple #[.bool false])) w)
    (hMore : ∀ (x : ByteArray) (w' : World) (cnt' : Nat), S (ltr x) = true → left (.string (ltr x)) = true → w'.ranges Try.prog 9 (plainElem Try.prog 4) b r n D (fun z => left z && !z.sameKey (.string (ltr x))) cnt' → cnt' < cnt →
      w.grownBy w' (some r) → w'.heap.size = w.heap.size → (Instr.entry (.pointer (some ⟨r, 0, none⟩))).run Try.prog w' = .ok (.tuple #[.string x, .bool true]) w' → wpList Try.prog ops Q rest (a.put o.dst (.tuple #[.bool true, .string x, .bool true])) w') :
    wpList Try.prog ops Q (o :: rest) a w :=
  wpList_next_ranges (α := ByteArray) (β := Bool) w hg it hop 9 law9 (plainElem Try.prog 4) Value.string Value.bool (fun key kl h => by obtain ⟨x, e, _⟩ := keyOf_string_inv h; exact ⟨x, e⟩) (fun v y h => by obtain ⟨c, e, _⟩ := plainElem_bool_inv Try.underlying4 h; exact ⟨c, e⟩) b r n D left cnt hit h hDone
    (fun x cx kl y w7 cnt7 hkey hlk hv hat hrg7 hlt7 hg7 hs7 hen => by
      obtain ⟨x', ex, ekl⟩ := keyOf_string_inv hkey
      cases ex
      subst ekl
      have hhas : Maps.has D (.string (ltr x)) = true := by
        cases hh : Maps.has D (.string (ltr x)) with
        | true => rfl
        | false =>
          have h1 := hat (.lit (.bool true))
          have h2 := hat (.lit (.bool false))
          rw [Maps.atKey_of_not_has hh] at h1 h2
          rw [← h2] at h1
          cases h1
      have hSx : S (ltr x) = true := by rw [← hS.1]; exact hhas
      obtain ⟨c, ec, ey⟩ := plainElem_bool_inv Try.underlying4 hv
      cases ec
      have h1 := hat (.lit (.bool true))
      have h9 := hS.2 (ltr x) (.lit (.bool true)) hSx
      rw [h9, ey] at h1
      have hct : cx = true := by
        have h2 : (DataW.lit (H := Unit) (Lit.bool true)) = .lit (.bool cx) := h1
        simp only [DataW.lit.injEq, Lit.bool.injEq] at h2
        exact h2.symm
      subst hct
      exact hMore x w7 cnt7 hSx hlk hrg7 hlt7 hg7 hs7 hen)

set_option maxHeartbeats 8000000 in
set_option maxRecDepth 100000 in
theorem impl_RecCan.calls (k : Nat) (A0 : Option Addr) (c0 : Nat) (l0 : List (S39)) (a1 : ByteArray) (a2 : Int) (r : Bool) (w : World) (hr0 : Kd.C k39 w A0 l0.length l0) (hc0 : l0.length ≤ c0) (h : impl_RecCan.f k l0 a1 a2 = some r) :
    Calls Try.prog 25 #[.slice A0 l0.length c0, .string a1, .int .i64 a2] w fun e w' => e = .returned (.bool r) ∧ Below w.heap.size w w' := by
  obtain rfl := Option.some.inj h
  clear h
  have HR := Aside0.mk hr0
  have HC := Aside0.mk hc0
  clear hr0 hc0
  cases hok : recOk l0 with
  | false =>
    have e : canOf l0 a1 a2 = false := by simp [canOf, hok]
    rw [e]
    clear e
    have HK := Aside0.mk hok
    clear hok
    go_enter Try.func25, Try.ntmps25
    go_wp2_with (go_at_call 36; refine (impl_RecOk.calls 80 _ _ l0 _ _ HR.out HC.out (impl_ok l0 80 (Nat.le_refl _))).mono ?_; rw [HK.out]; rintro e w1 ⟨rfl, hb⟩)
    go_ret
    exact ⟨rfl, hb⟩
  | true =>
    have HK := Aside0.mk hok
    cases hin : inB a2 1 3 with
    | false =>
      have e : canOf l0 a1 a2 = false := by simp [canOf, hin]
      rw [e]
      clear e
      have HI := Aside0.mk hin
      clear hok hin
      go_enter Try.func25, Try.ntmps25
      go_wp2_with (first | (go_at_call 36; refine (impl_RecOk.calls 80 _ _ l0 _ _ HR.out HC.out (impl_ok l0 80 (Nat.le_refl _))).mono ?_; rw [HK.out]; rintro e w1 ⟨rfl, hb⟩; have HB := Aside0.mk hb; clear hb) | (go_at_call 68; refine (impl_in.calls _ _ _ _ _ (impl_in' _ _ _)).mono ?_; rw [HI.out]; rintro e w2 ⟨rfl, hb2⟩))
      go_ret
      exact ⟨rfl, below_then HB.out HB.out.size hb2.below⟩
    | true =>
      have HI := Aside0.mk hin
      have he := inB_iff.mp hin
      by_cases h0 : atOf l0 a1 < 0
      · have e : canOf l0 a1 a2 = (endOf a1 == a2) := by simp [canOf, hin, hok, canB, h0]
        rw [e]
        have h0t := decide_eq_true h0
        have H0 := Aside0.mk h0
        clear e hok hin he h0
        go_enter Try.func25, Try.ntmps25
        go_wp2_with (first | (go_at_call 36; refine (impl_RecOk.calls 80 _ _ l0 _ _ HR.out HC.out (impl_ok l0 80 (Nat.le_refl _))).mono ?_; rw [HK.out]; rintro e w1 ⟨rfl, hb⟩; have HB := Aside0.mk hb; clear hb) | (go_at_call 68; refine (impl_in.calls _ _ _ _ _ (impl_in' _ _ _)).mono ?_; rw [HI.out]; rintro e w2 ⟨rfl, hb2⟩; have HB2 := Aside0.mk (below_then HB.out HB.out.size hb2.below); clear hb2) | (go_at_call 69; refine (impl_at.calls _ _ l0 a1 (atOf l0 a1) _ (Kd.C_below HR.out HB2.out) HC.out rfl).mono ?_; rintro e w3 ⟨rfl, hb3⟩; have HB3 := Aside0.mk (below_then HB2.out HB2.out.size hb3); clear hb3) | (go_at_call 19; refine (impl_RecEnd.calls 4 a1 _ _ (impl_end a1 0)).mono ?_; rintro e w4 ⟨rfl, hb4⟩; have HB4 := Aside0.mk (below_then HB3.out HB3.out.size hb4); clear hb4))
        go_ret
        exact ⟨rfl, HB4.out⟩
      · have e : canOf l0 a1 a2 = canB l0 12 a1 a2 := by simp [canOf, hin, hok]
        rw [e]
        have hsm := at_small l0 hok a1 h0
        have hn : a1.size ≤ maxLen := by unfold maxLen; omega
        have hiff := canB_iff l0 hok a2 he.1 12 a1 (by have := rk_lt l0 hok a1; omega)
        have h0t : decide (atOf l0 a1 < 0) = false := decide_eq_false h0
        have HF := Aside0.mk hiff
        clear e hin he h0 hsm hiff
        generalize hcan : canB l0 12 a1 a2 = cb at *
        clear hcan
        go_enter Try.func25, Try.ntmps25
        go_wp2_with (first | (go_at_call 36; refine (impl_RecOk.calls 80 _ _ l0 _ _ HR.out HC.out (impl_ok l0 80 (Nat.le_refl _))).mono ?_; rw [HK.out]; rintro e w1 ⟨rfl, hb⟩; have HB := Aside0.mk hb; clear hb) | (go_at_call 68; refine (impl_in.calls _ _ _ _ _ (impl_in' _ _ _)).mono ?_; rw [HI.out]; rintro e w2 ⟨rfl, hb2⟩; have HB2 := Aside0.mk (below_then HB.out HB.out.size hb2.below); clear hb2) | (go_at_call 69; refine (impl_at.calls _ _ l0 a1 (atOf l0 a1) _ (Kd.C_below HR.out HB2.out) HC.out rfl).mono ?_; rintro e w3 ⟨rfl, hb3⟩; have HB3 := Aside0.mk (below_then HB2.out HB2.out.size hb3); clear hb3) | (go_at_call 70; refine (reach_calls l0 HK.out _ A0 c0 (Kd.C_below HR.out HB3.out) HC.out a1 hn).mono ?_; rintro e w4 ⟨B, D, m, rfl, hnew, hown, hsat, hm, hb4⟩; have HB4 := Aside0.mk (below_then HB3.out HB3.out.size hb4); have HO := Aside0.mk hown; have HS := Aside0.mk hsat; have HN := Aside0.mk hnew; clear hb4 hown hsat hnew) | (at_range; refine wpList_range_own _ rfl _ 90 rfl 9 4 law9 Try.underlying90 _ B m D rfl HO.out ?_; intro w5 hrg5 hg5 hs5))
        go_frame
        have HP := Aside0.mk hg5
        have hb5 : Below w.heap.size w w5 := HB4.out.grown hg5 HB4.out.size (fun k hk => by cases hk)
        have HB5 := Aside0.mk hb5
        have hsz4 := HB4.out.size
        have hBne : w4.heap.size ≠ B := hrg5.ne
        have HR5 := Aside0.mk hrg5
        clear hg5 hb5 hrg5
        go_loopw [7] (fun _ wr => ∃ (left : Lit → Bool) (cnt : Nat), wr.ranges Try.prog 9 (plainElem Try.prog 4) B w4.heap.size m D left cnt ∧ Aside0 (Below w.heap.size w wr) ∧ Aside0 (∀ q : ByteArray, Maps.has D (.string (ltr q)) = true → left (.string (ltr q)) = false → endOf q ≠ a2))
          (fun _ wr => wr.rangeLeft B w4.heap.size)
        case atStart => exact ⟨_, _, HR5.out, HB5, ⟨fun q h1 h2 => by rw [h1] at h2; cases h2⟩⟩
        case round =>
          obtain ⟨left, cnt, hrg, HB6, HQ⟩ := hrel
          go_wp2_with (first
            | (at_next; refine wpList_next_sat _ rfl _ rfl B w4.heap.size m D _ HS.out left cnt rfl hrg ?_ ?_))
          · intro hc0 hl0
            have hall : cb = false := by
              cases cb with
              | false => rfl
              | true =>
                obtain ⟨q, hq, hqe⟩ := HF.out.mp rfl
                exact absurd hqe (HQ.out q (by rw [HS.out.1]; exact hq) (hl0 _))
            have HA := Aside0.mk hall
            clear hl0 hall
            go_wp2
            go_ret
            exact ⟨by rw [HA.out]; rfl, HB6.out⟩
          · intro x w7 cnt7 hSx hlk hrg7 hlt7 hg7 hs7 hen
            have HH := Aside0.mk hSx
            have hb7 : Below w.heap.size w w7 := HB6.out.grown hg7 HB6.out.size (fun k hk => by cases hk; exact hsz4)
            have HB7 := Aside0.mk hb7
            have HR7 := Aside0.mk hrg7
            have HG := Aside0.mk hrg
            clear hb7 hSx hlk hg7 hrg7 hrg
            by_cases hend : endOf x = a2
            · have hcb : cb = true := HF.out.mpr ⟨x, HH.out, hend⟩
              have HE := Aside0.mk hend
              have HCB := Aside0.mk hcb
              have hbe : (endOf x == a2) = true := by simp [hend]
              clear hend hcb
              go_wp2_with (go_at_call 19; refine (impl_RecEnd.calls 4 x _ _ (impl_end x 0)).mono ?_; rintro e w8 ⟨rfl, hb8⟩; have HB8 := Aside0.mk (below_then HB7.out HB7.out.size hb8); clear hb8)
              go_ret
              exact ⟨by rw [HCB.out]; rfl, HB8.out⟩
            · have HE := Aside0.mk hend
              have hbe : (endOf x == a2) = false := by simp [hend]
              clear hend
              go_wp2_with (go_at_call 19; refine (impl_RecEnd.calls 4 x _ _ (impl_end x 0)).mono ?_; rintro e w8 ⟨rfl, hb8⟩; have HB8 := Aside0.mk (below_then HB7.out HB7.out.size hb8); have HR8 := Aside0.mk (HR7.out.kept (grown_none hb8) (by simp) (by simp)); clear hb8)
              go_roundw
              case rel =>
                refine ⟨_, cnt7, HR8.out, HB8, ⟨fun q h1 h2 => ?_⟩⟩
                cases hl : left (.string (ltr q)) with
                | false => exact HQ.out q h1 hl
                | true =>
                  rw [hl] at h2
                  have h3 : (Lit.string (ltr q)).sameKey (.string (ltr x)) = true := by simpa using h2
                  have h4 : ltr q = ltr x := by simpa [Lit.sameKey] using h3
                  rw [ltr_inj h4]
                  exact HE.out
              case measure => rw [HR8.out.left_eq, HG.out.left_eq]; exact hlt7

end Go.Proofs.Ytdkologncoofdaa.P
-- Px57
namespace Go.Proofs.Ytdkologncoofdaa.P
open Go.RowKit Go.Proofs.YtdkologncoofdaaW.PrintWords Go.Proofs.YtdkologncoofdaaW.PrintLast Go.Proofs.YtdkologncoofdaaW.PrintMore
attribute [local go_sem] max2_int min2_int max_two min_two max_three min_three max_four min_four   -- for this text's walks alone
set_option linter.unusedVariables false
set_option linter.unusedSimpArgs false

/-! ### laws_FnCan: function 12 -/
mutual
def laws_FnCan.j0 : Nat → List (S39) → ByteArray → Int → Bool → Bool → Option (Bool)
  | 0, _, _, _, _, _ => none
  | k + 1, x3, x4, x5, x6, x35 => if x35 = true then (some false) else ((spec_RecOk.f k x3).bind fun t611 => (if t611 = true then (laws_FnCan.l0 k x3 x4 x5 x6 false false 1) else (some (!x6))))
def laws_FnCan.l0 : Nat → List (S39) → ByteArray → Int → Bool → Bool → Bool → Int → Option (Bool)
  | 0, _, _, _, _, _, _, _ => none
  | k + 1, x3, x4, x5, x6, x7, x8, x9 => if x9 ≤ 3 then (if x7 = true then (if x8 = true then (laws_FnCan.l0 k x3 x4 x5 x6 true true (wrap64 (x9 + 1))) else (if x9 = x5 then ((laws_wReach.f k x3 x4 (⟨#[103, 111, 111, 100]⟩ : ByteArray)).bind fun t612 => (if t612 = true then (if x9 = 1 then (laws_FnCan.l0 k x3 x4 x5 x6 true true (wrap64 (x9 + 1))) else ((laws_wReach.f k x3 x4 (⟨#[115, 97, 118, 101, 100]⟩ : ByteArray)).bind fun t613 => (if t613 = true then (if x9 = 2 then (laws_FnCan.l0 k x3 x4 x5 x6 true true (wrap64 (x9 + 1))) else ((laws_wReach.f k x3 x4 (⟨#[115, 99, 114, 97, 112, 112, 101, 100]⟩ : ByteArray)).bind fun t614 => (if t614 = true then (laws_FnCan.l0 k x3 x4 x5 x6 true (x9 == 3) (wrap64 (x9 + 1))) else (laws_FnCan.l0 k x3 x4 x5 x6 true false (wrap64 (x9 + 1)))))) else ((laws_wReach.f k x3 x4 (⟨#[115, 99, 114, 97, 112, 112, 101, 100]⟩ : ByteArray)).bind fun t615 => (if t615 = true then (laws_FnCan.l0 k x3 x4 x5 x6 true (x9 == 3) (wrap64 (x9 + 1))) else (laws_FnCan.l0 k x3 x4 x5 x6 true false (wrap64 (x9 + 1)))))))) else ((laws_wReach.f k x3 x4 (⟨#[115, 97, 118, 101, 100]⟩ : ByteArray)).bind fun t616 => (if t616 = true then (if x9 = 2 then (laws_FnCan.l0 k x3 x4 x5 x6 true true (wrap64 (x9 + 1))) else ((laws_wReach.f k x3 x4 (⟨#[115, 99, 114, 97, 112, 112, 101, 100]⟩ : ByteArray)).bind fun t617 => (if t617 = true then (laws_FnCan.l0 k x3 x4 x5 x6 true (x9 == 3) (wrap64 (x9 + 1))) else (laws_FnCan.l0 k x3 x4 x5 x6 true false (wrap64 (x9 + 1)))))) else ((laws_wReach.f k x3 x4 (⟨#[115, 99, 114, 97, 112, 112, 101, 100]⟩ : ByteArray)).bind fun t618 => (if t618 = true then (laws_FnCan.l0 k x3 x4 x5 x6 true (x9 == 3) (wrap64 (x9 + 1))) else (laws_FnCan.l0 k x3 x4 x5 x6 true false (wrap64 (x9 + 1))))))))) else (laws_FnCan.l0 k x3 x4 x5 x6 true false (wrap64 (x9 + 1))))) else (if 0 < (x3.length : Int) then ((impl_RecCan.f k x3 ((rd_T39 x3 0).f0) x9).bind fun t620 => (if x8 = true then (laws_FnCan.l0 k x3 x4 x5 x6 t620 true (wrap64 (x9 + 1))) else (if x9 = x5 then ((laws_wReach.f k x3 x4 (⟨#[103, 111, 111, 100]⟩ : ByteArray)).bind fun t621 => (if t621 = true then (if x9 = 1 then (laws_FnCan.l0 k x3 x4 x5 x6 t620 true (wrap64 (x9 + 1))) else ((laws_wReach.f k x3 x4 (⟨#[115, 97, 118, 101, 100]⟩ : ByteArray)).bind fun t622 => (if t622 = true then (if x9 = 2 then (laws_FnCan.l0 k x3 x4 x5 x6 t620 true (wrap64 (x9 + 1))) else ((laws_wReach.f k x3 x4 (⟨#[115, 99, 114, 97, 112, 112, 101, 100]⟩ : ByteArray)).bind fun t623 => (if t623 = true then (laws_FnCan.l0 k x3 x4 x5 x6 t620 (x9 == 3) (wrap64 (x9 + 1))) else (laws_FnCan.l0 k x3 x4 x5 x6 t620 false (wrap64 (x9 + 1)))))) else ((laws_wReach.f k x3 x4 (⟨#[115, 99, 114, 97, 112, 112, 101, 100]⟩ : ByteArray)).bind fun t624 => (if t624 = true then (laws_FnCan.l0 k x3 x4 x5 x6 t620 (x9 == 3) (wrap64 (x9 + 1))) else (laws_FnCan.l0 k x3 x4 x5 x6 t620 false (wrap64 (x9 + 1)))))))) else ((laws_wReach.f k x3 x4 (⟨#[115, 97, 118, 101, 100]⟩ : ByteArray)).bind fun t625 => (if t625 = true then (if x9 = 2 then (laws_FnCan.l0 k x3 x4 x5 x6 t620 true (wrap64 (x9 + 1))) else ((laws_wReach.f k x3 x4 (⟨#[115, 99, 114, 97, 112, 112, 101, 100]⟩ : ByteArray)).bind fun t626 => (if t626 = true then (laws_FnCan.l0 k x3 x4 x5 x6 t620 (x9 == 3) (wrap64 (x9 + 1))) else (laws_FnCan.l0 k x3 x4 x5 x6 t620 false (wrap64 (x9 + 1)))))) else ((laws_wReach.f k x3 x4 (⟨#[115, 99, 114, 97, 112, 112, 101, 100]⟩ : ByteArray)).bind fun t627 => (if t627 = true then (laws_FnCan.l0 k x3 x4 x5 x6 t620 (x9 == 3) (wrap64 (x9 + 1))) else (laws_FnCan.l0 k x3 x4 x5 x6 t620 false (wrap64 (x9 + 1))))))))) else (laws_FnCan.l0 k x3 x4 x5 x6 t620 false (wrap64 (x9 + 1)))))) else (none))) else (if x7 = true then (some (x6 == x8)) else (some false))
end
def laws_FnCan.f (k : Nat) (l0 : List Int) : Option (Bool) := if (l0.length : Int) > 1048576 then (some true) else ((spec_DrawRecCan.f k l0).bind fun bt602 => ((impl_RecCan.f k bt602.1 bt602.2.1 bt602.2.2).bind fun t607 => ((spec_RecCan.f k bt602.1 bt602.2.1 bt602.2.2).bind fun t608 => (if (t607 != t608) = true then (laws_FnCan.j0 k bt602.1 bt602.2.1 bt602.2.2 t607 true) else ((impl_RecEnd.f k bt602.2.1).bind fun t609 => ((spec_RecEnd.f bt602.2.1).bind fun t610 => (laws_FnCan.j0 k bt602.1 bt602.2.1 bt602.2.2 t607 (t609 != t610))))))))
theorem laws_FnCan.mono_l : ∀ k, (∀ y0 y1 y2 y3 y4, LeO (laws_FnCan.j0 k y0 y1 y2 y3 y4) (laws_FnCan.j0 (k + 1) y0 y1 y2 y3 y4)) ∧ (∀ y0 y1 y2 y3 y4 y5 y6, LeO (laws_FnCan.l0 k y0 y1 y2 y3 y4 y5 y6) (laws_FnCan.l0 (k + 1) y0 y1 y2 y3 y4 y5 y6))
  | 0 => ⟨fun _ _ _ _ _ r h => by simp [laws_FnCan.j0] at h, fun _ _ _ _ _ _ _ r h => by simp [laws_FnCan.l0] at h⟩
  | k + 1 => by
    obtain ⟨ih0, ih1⟩ := laws_FnCan.mono_l k
    refine ⟨?_, ?_⟩
    · intro y0 y1 y2 y3 y4
      unfold laws_FnCan.j0
      repeat' first
      | (with_reducible exact ih0 _ _ _ _ _)
      | (with_reducible exact ih1 _ _ _ _ _ _ _)
      | (with_reducible exact impl_RecCan.mono _ _ _ _)
      | (with_reducible exact impl_RecEnd.mono _ _)
      | (with_reducible exact laws_wReach.mono _ _ _ _)
      | (with_reducible exact spec_DrawRecCan.mono _ _)
      | (with_reducible exact spec_RecCan.mono _ _ _ _)
      | (with_reducible exact spec_RecOk.mono _ _)
      | (with_reducible exact LeO.refl _)
      | (with_reducible exact LeO.none _)
      | (with_reducible refine LeO.ite ?_ ?_)
      | (with_reducible refine LeO.bind ?_ (fun _ => ?_))
      | exact ih0 _ _ _ _ _
      | exact ih1 _ _ _ _ _ _ _
      | exact impl_RecCan.mono _ _ _ _
      | exact impl_RecEnd.mono _ _
      | exact laws_wReach.mono _ _ _ _
      | exact spec_DrawRecCan.mono _ _
      | exact spec_RecCan.mono _ _ _ _
      | exact spec_RecOk.mono _ _
      | exact LeO.none _
      | refine LeO.ite ?_ ?_
      | refine LeO.bind ?_ (fun _ => ?_)
    · intro y0 y1 y2 y3 y4 y5 y6
      unfold laws_FnCan.l0
      repeat' first
      | (with_reducible exact ih0 _ _ _ _ _)
      | (with_reducible exact ih1 _ _ _ _ _ _ _)
      | (with_reducible exact impl_RecCan.mono _ _ _ _)
      | (with_reducible exact impl_RecEnd.mono _ _)
      | (with_reducible exact laws_wReach.mono _ _ _ _)
      | (with_reducible exact spec_DrawRecCan.mono _ _)
      | (with_reducible exact spec_RecCan.mono _ _ _ _)
      | (with_reducible exact spec_RecOk.mono _ _)
      | (with_reducible exact LeO.refl _)
      | (with_reducible exact LeO.none _)
      | (with_reducible refine LeO.ite ?_ ?_)
      | (with_reducible refine LeO.bind ?_ (fun _ => ?_))
      | exact ih0 _ _ _ _ _
      | exact ih1 _ _ _ _ _ _ _
      | exact impl_RecCan.mono _ _ _ _
      | exact impl_RecEnd.mono _ _
      | exact laws_wReach.mono _ _ _ _
      | exact spec_DrawRecCan.mono _ _
      | exact spec_RecCan.mono _ _ _ _
      | exact spec_RecOk.mono _ _
      | exact LeO.none _
      | refine LeO.ite ?_ ?_
      | refine LeO.bind ?_ (fun _ => ?_)
theorem laws_FnCan.mono : ∀ a0 k, LeO (laws_FnCan.f k a0) (laws_FnCan.f (k + 1) a0) := by
  intro a0 k
  obtain ⟨ih0, ih1⟩ := laws_FnCan.mono_l k
  unfold laws_FnCan.f
  repeat' first
      | (with_reducible exact ih0 _ _ _ _ _)
      | (with_reducible exact ih1 _ _ _ _ _ _ _)
      | (with_reducible exact impl_RecCan.mono _ _ _ _)
      | (with_reducible exact impl_RecEnd.mono _ _)
      | (with_reducible exact laws_wReach.mono _ _ _ _)
      | (with_reducible exact spec_DrawRecCan.mono _ _)
      | (with_reducible exact spec_RecCan.mono _ _ _ _)
      | (with_reducible exact spec_RecOk.mono _ _)
      | (with_reducible exact LeO.refl _)
      | (with_reducible exact LeO.none _)
      | (with_reducible refine LeO.ite ?_ ?_)
      | (with_reducible refine LeO.bind ?_ (fun _ => ?_))
      | exact ih0 _ _ _ _ _
      | exact ih1 _ _ _ _ _ _ _
      | exact impl_RecCan.mono _ _ _ _
      | exact impl_RecEnd.mono _ _
      | exact laws_wReach.mono _ _ _ _
      | exact spec_DrawRecCan.mono _ _
      | exact spec_RecCan.mono _ _ _ _
      | exact spec_RecOk.mono _ _
      | exact LeO.none _
      | refine LeO.ite ?_ ?_
      | refine LeO.bind ?_ (fun _ => ?_)
set_option maxHeartbeats 8000000 in
set_option maxRecDepth 100000 in
theorem laws_FnCan.calls (k : Nat) (A0 : Option Addr) (c0 : Nat) (l0 : List Int) (r : Bool) (w : World) (hr0 : Kd.C (Kd.int .u8) w A0 l0.length l0) (hc0 : l0.length ≤ c0) (h : laws_FnCan.f k l0 = some r) :
    Calls Try.prog 12 #[.slice A0 l0.length c0] w fun e w' => e = .returned (.bool r) ∧ Below w.heap.size w w' := by
  have HR0 := Aside0.mk hr0
  have HC0 := Aside0.mk hc0
  clear hr0 hc0
  have HB := Aside0.mk (Below.refl w.heap.size w)
  have H : (if (l0.length : Int) > 1048576 then (some true) else ((spec_DrawRecCan.f k l0).bind fun bt602 => ((impl_RecCan.f k bt602.1 bt602.2.1 bt602.2.2).bind fun t607 => ((spec_RecCan.f k bt602.1 bt602.2.1 bt602.2.2).bind fun t608 => (if (t607 != t608) = true then (laws_FnCan.j0 k bt602.1 bt602.2.1 bt602.2.2 t607 true) else ((impl_RecEnd.f k bt602.2.1).bind fun t609 => ((spec_RecEnd.f bt602.2.1).bind fun t610 => (laws_FnCan.j0 k bt602.1 bt602.2.1 bt602.2.2 t607 (t609 != t610))))))))) = some r := h
  clear h
  by_cases c2 : (l0.length : Int) > 1048576
  · rw [if_pos c2] at H
    have c2b0 : decide (1048576 < (l0.length : Int)) = true := decide_eq_true c2
    have c2b1 : decide (1048576 < l0.length) = true := decide_eq_true (by omega)
    clear c2
    obtain rfl := Option.some.inj H
    go_enter Try.func12, Try.ntmps12
    go_wp2
    go_ret
    exact ⟨exq, bw HB.out⟩
  · rw [if_neg c2] at H
    have c2b0 : decide (1048576 < (l0.length : Int)) = false := decide_eq_false c2
    have c2b1 : decide (1048576 < l0.length) = false := decide_eq_false (by omega)
    clear c2
    replace H := Option.bind_eq_some_iff.mp H
    obtain ⟨⟨t602, t603, t604⟩, A30, H⟩ := H
    replace H : ((impl_RecCan.f k t602 t603 t604).bind fun t607 => ((spec_RecCan.f k t602 t603 t604).bind fun t608 => (if (t607 != t608) = true then (laws_FnCan.j0 k t602 t603 t604 t607 true) else ((impl_RecEnd.f k t603).bind fun t609 => ((spec_RecEnd.f t603).bind fun t610 => (laws_FnCan.j0 k t602 t603 t604 t607 (t609 != t610))))))) = some r := H
    have A3 := Aside0.mk A30
    clear A30
    replace H := Option.bind_eq_some_iff.mp H
    obtain ⟨t607, A40, H⟩ := H
    replace H : ((spec_RecCan.f k t602 t603 t604).bind fun t608 => (if (t607 != t608) = true then (laws_FnCan.j0 k t602 t603 t604 t607 true) else ((impl_RecEnd.f k t603).bind fun t609 => ((spec_RecEnd.f t603).bind fun t610 => (laws_FnCan.j0 k t602 t603 t604 t607 (t609 != t610)))))) = some r := H
    have A4 := Aside0.mk A40
    clear A40
    have HC5 := Aside0.mk H
    clear H
    go_enter Try.func12, Try.ntmps12
    go_upto_region 5 with (first | ((with_reducible refine gate_callee (f := 44) rfl ?_); refine goesL_ (some 15) rfl rfl Try.func44 (by kernel_rfl) rfl #[.slice A0 l0.length c0] rfl mxp ?_; (with_reducible refine (spec_DrawRecCan.calls k _ _ l0 t602 t603 t604 _ ?side1 ?side2 A3.out).mono ?_); (case side1 => exact cx HR0.out); (case side2 => exact HC0.out); rintro e w6 ⟨v605, rfl, ho0, hb⟩; refine ⟨_, rfl, ?_⟩; have n0_ := Aside0.mk (Kd.R_lower ho0 (below_size (bw HB.out))); have n1_ := bs HB hb; clear HB; have HO606 := n0_; have HB := n1_; clear n0_ n1_; (try clear hb); (try clear hb2); (try clear hk); (try clear hi); (try clear ho0); obtain ⟨Ao7, co7, eo7⟩ := Kd.R_slice HO606.out; subst eo7) | ((with_reducible refine gate_callee (f := 25) rfl ?_); refine goesL_ (some 22) rfl rfl Try.func25 (by kernel_rfl) rfl #[.slice Ao7 t602.length co7, .string t603, .int .i64 t604] rfl mxp ?_; (with_reducible refine (impl_RecCan.calls k _ _ t602 t603 t604 t607 _ ?side1 ?side2 A4.out).mono ?_); (case side1 => exact cx (Kd.R_reads' HO606.out).2.2); (case side2 => exact (Kd.R_reads' HO606.out).2.1); rintro e w8 ⟨rfl, hb⟩; refine ⟨_, rfl, ?_⟩; have n0_ := Aside0.mk (Kd.R_below (rx HO606.out) hb); have n1_ := bs HB hb; clear HO606; clear HB; have HO606 := n0_; have HB := n1_; clear n0_ n1_; (try clear hb); (try clear hb2); (try clear hk); (try clear hi)))
    (try simp only [Act.put, List.setIfInBounds_toArray, List.set_cons_zero, List.set_cons_succ])
    go_cut [35] (fun v35 wc => ∃ (kq : Nat) (x35_4 : Bool), v35 = .bool x35_4 ∧ Aside0 (laws_FnCan.j0 kq t602 t603 t604 t607 x35_4 = some r) ∧ Aside0 (kq ≤ k) ∧ Aside0 (Kd.R k39 39 wc w.heap.size (fun _ => True) (.slice Ao7 t602.length co7) t602) ∧ Aside0 (Below w.heap.size w wc))
    case first =>
      have H := HC5.out
      clear HC5
      replace H := Option.bind_eq_some_iff.mp H
      obtain ⟨t608, A90, H⟩ := H
      replace H : (if (t607 != t608) = true then (laws_FnCan.j0 k t602 t603 t604 t607 true) else ((impl_RecEnd.f k t603).bind fun t609 => ((spec_RecEnd.f t603).bind fun t610 => (laws_FnCan.j0 k t602 t603 t604 t607 (t609 != t610))))) = some r := H
      have A9 := Aside0.mk A90
      clear A90
      by_cases c10 : (t607 != t608) = true
      · rw [if_pos c10] at H
        have c10b0 : (t607 != t608) = true := c10
        (try (have c10b1 : decide (t607 = t608) = false := by simpa using c10))
        (try (have c10b2 : (t607 == t608) = false := by simpa using c10))
        (try (have c10b3 : ¬ (t607 = t608) := by simpa using c10))
        clear c10
        (first | rw [c10b0] | (simp only [i64_w, i32_w]; rw [c10b0]) | skip)
        have H' := Aside0.mk H
        clear H
        go_wp2_with (first | ((with_reducible refine gate_callee (f := 41) rfl ?_); refine goesL_ (some 27) rfl rfl Try.func41 (by kernel_rfl) rfl #[.slice Ao7 t602.length co7, .string t603, .int .i64 t604] rfl mxp ?_; (with_reducible refine (spec_RecCan.calls k _ _ t602 t603 t604 t608 _ ?side1 ?side2 A9.out).mono ?_); (case side1 => exact cx (Kd.R_reads' HO606.out).2.2); (case side2 => exact (Kd.R_reads' HO606.out).2.1); rintro e w11 ⟨rfl, hb⟩; refine ⟨_, rfl, ?_⟩; have n0_ := Aside0.mk (Kd.R_below (rx HO606.out) hb); have n1_ := bs HB hb; clear HO606; clear HB; have HO606 := n0_; have HB := n1_; clear n0_ n1_; (try clear hb); (try clear hb2); (try clear hk); (try clear hi)))
        go_meet
        case rel => exact ⟨_, (true), (by first | rfl | (simp; done) | (simp [*]; done)), H', ⟨by first | omega | exact Nat.le_refl _⟩, ⟨by refine rx ?_; exact HO606.out⟩, (hbw HB)⟩
      · rw [if_neg c10] at H
        have c10b0 : (t607 != t608) = false := by simpa using c10
        (try (have c10b1 : decide (t607 = t608) = true := by simpa using c10))
        (try (have c10b2 : (t607 == t608) = true := by simpa using c10))
        clear c10
        (first | rw [c10b0] | (simp only [i64_w, i32_w]; rw [c10b0]) | skip)
        replace H := Option.bind_eq_some_iff.mp H
        obtain ⟨t609, A120, H⟩ := H
        replace H : ((spec_RecEnd.f t603).bind fun t610 => (laws_FnCan.j0 k t602 t603 t604 t607 (t609 != t610))) = some r := H
        have A12 := Aside0.mk A120
        clear A120
        replace H := Option.bind_eq_some_iff.mp H
        obtain ⟨t610, A130, H⟩ := H
        replace H : (laws_FnCan.j0 k t602 t603 t604 t607 (t609 != t610)) = some r := H
        have A13 := Aside0.mk A130
        clear A130
        have H' := Aside0.mk H
        clear H
        go_wp2_with (first | ((with_reducible refine gate_callee (f := 41) rfl ?_); refine goesL_ (some 27) rfl rfl Try.func41 (by kernel_rfl) rfl #[.slice Ao7 t602.length co7, .string t603, .int .i64 t604] rfl mxp ?_; (with_reducible refine (spec_RecCan.calls k _ _ t602 t603 t604 t608 _ ?side1 ?side2 A9.out).mono ?_); (case side1 => exact cx (Kd.R_reads' HO606.out).2.2); (case side2 => exact (Kd.R_reads' HO606.out).2.1); rintro e w14 ⟨rfl, hb⟩; refine ⟨_, rfl, ?_⟩; have n0_ := Aside0.mk (Kd.R_below (rx HO606.out) hb); have n1_ := bs HB hb; clear HO606; clear HB; have HO606 := n0_; have HB := n1_; clear n0_ n1_; (try clear hb); (try clear hb2); (try clear hk); (try clear hi)) | (go_at_call 19; (with_reducible refine (impl_RecEnd.calls k t603 t609 _ A12.out).mono ?_); rintro e w15 ⟨rfl, hb⟩; have n0_ := Aside0.mk (Kd.R_below (rx HO606.out) hb); have n1_ := bs HB hb; clear HO606; clear HB; have HO606 := n0_; have HB := n1_; clear n0_ n1_; (try clear hb); (try clear hb2); (try clear hk); (try clear hi)) | (go_at_call 18; (with_reducible refine (spec_RecEnd.calls t603 t610 _ A13.out).mono ?_); rintro e w' ⟨rfl, ⟨nd, rfl⟩⟩))
        go_meet
        case rel => exact ⟨_, ((t609 != t610)), (by first | rfl | (simp; done) | (simp [*]; done)), H', ⟨by first | omega | exact Nat.le_refl _⟩, ⟨by refine rx ?_; exact HO606.out⟩, (hbw HB)⟩
    case rest =>
      clear HC5
      try clear c1
      try clear c2
      try clear c2b0
      try clear c2b1
      try clear p2
      try clear c4
      try clear c10
      try clear c10b0
      try clear c10b1
      try clear c10b2
      try clear c12
      obtain ⟨kq, x35_4, rfl, HA, HJ4, HO_3, HB⟩ := hcut
      cases kq with
      | zero => exact absurd HA.out (by simp [laws_FnCan.j0])
      | succ kj4 =>
        have H := HA.out
        clear HA
        simp only [laws_FnCan.j0] at H
        by_cases c16 : x35_4 = true
        · subst c16
          have H1 : (some false) = some r := by rw [if_pos rfl] at H; exact H
          clear H
          have H := H1
          clear H1
          obtain rfl := Option.some.inj H
          go_wp2
          go_ret
          exact ⟨exq, bw HB.out⟩
        · replace c16 := Bool.eq_false_iff.mpr c16
          subst c16
          have H1 : ((spec_RecOk.f kj4 t602).bind fun t611 => (if t611 = true then (laws_FnCan.l0 kj4 t602 t603 t604 t607 false false 1) else (some (!t607)))) = some r := by rw [if_neg (show ¬ (false = true) by decide)] at H; exact H
          clear H
          have H := H1
          clear H1
          replace H := Option.bind_eq_some_iff.mp H
          obtain ⟨t611, A170, H⟩ := H
          replace H : (if t611 = true then (laws_FnCan.l0 kj4 t602 t603 t604 t607 false false 1) else (some (!t607))) = some r := H
          have A17 := Aside0.mk A170
          clear A170
          by_cases c18 : t611 = true
          · subst c18
            have H1 : (laws_FnCan.l0 kj4 t602 t603 t604 t607 false false 1) = some r := by rw [if_pos rfl] at H; exact H
            clear H
            have H := H1
            clear H1
            have H' := Aside0.mk H
            clear H
            go_wp2_with (first | ((with_reducible refine gate_callee (f := 24) rfl ?_); refine goesL_ (some 37) rfl rfl Try.func24 (by kernel_rfl) rfl #[.slice Ao7 t602.length co7] rfl mxp ?_; (with_reducible refine (spec_RecOk.calls kj4 _ _ t602 true _ ?side1 ?side2 A17.out).mono ?_); (case side1 => exact cx (Kd.R_reads' HO_3.out).2.2); (case side2 => exact (Kd.R_reads' HO_3.out).2.1); rintro e w19 ⟨rfl, hb⟩; refine ⟨_, rfl, ?_⟩; have n0_ := Aside0.mk (Kd.R_below (rx HO_3.out) hb); have n1_ := bs HB hb; clear HO_3; clear HB; have HO_3 := n0_; have HB := n1_; clear n0_ n1_; (try clear hb); (try clear hb2); (try clear hk); (try clear hi)))
            go_loopg [7, 8, 9] kj4 (fun kq v7 v8 v9 w' => ∃ (x7_2 : Bool) (x8_2 : Bool) (x9_2 : Int), v7 = .bool x7_2 ∧ v8 = .bool x8_2 ∧ v9 = .int .i64 x9_2 ∧ Aside0 (laws_FnCan.l0 kq t602 t603 t604 t607 x7_2 x8_2 x9_2 = some r) ∧ Aside0 (kq ≤ kj4) ∧ Aside0 (Kd.R k39 39 w' w.heap.size (fun _ => True) (.slice Ao7 t602.length co7) t602) ∧ Aside0 (Below w.heap.size w w'))
            case atStart => exact ⟨(false), (false), (1), (by first | rfl | (simp; done) | (simp [*]; done)), (by first | rfl | (simp; done) | (simp [*]; done)), (by first | rfl | (simp; done) | (simp [*]; done)), H', ⟨Nat.le_refl _⟩, ⟨by refine rx ?_; exact HO_3.out⟩, (hbw HB)⟩
            case round =>
              clear H'
              try clear c1
              try clear c2
              try clear c2b0
              try clear c2b1
              try clear p2
              try clear c4
              try clear c10
              try clear c10b0
              try clear c10b1
              try clear c10b2
              try clear c12
              try clear c16
              try clear c18
              try clear p2
              obtain ⟨x7_2, x8_2, x9_2, rfl, rfl, rfl, HA, HK2, HO_3, HB⟩ := hrel
              cases gk with
              | zero => exact absurd HA.out (by simp [laws_FnCan.l0])
              | succ k2 =>
                have H := HA.out
                clear HA
                simp only [laws_FnCan.l0] at H
                by_cases c20 : x9_2 ≤ 3
                · rw [if_pos c20] at H
                  have c20b0 : decide (x9_2 ≤ 3) = true := decide_eq_true c20
                  clear c20
                  by_cases c21 : x7_2 = true
                  · subst c21
                    have H1 : (if x8_2 = true then (laws_FnCan.l0 k2 t602 t603 t604 t607 true true (wrap64 (x9_2 + 1))) else (if x9_2 = t604 then ((laws_wReach.f k2 t602 t603 (⟨#[103, 111, 111, 100]⟩ : ByteArray)).bind fun t612 => (if t612 = true then (if x9_2 = 1 then (laws_FnCan.l0 k2 t602 t603 t604 t607 true true (wrap64 (x9_2 + 1))) else ((laws_wReach.f k2 t602 t603 (⟨#[115, 97, 118, 101, 100]⟩ : ByteArray)).bind fun t613 => (if t613 = true then (if x9_2 = 2 then (laws_FnCan.l0 k2 t602 t603 t604 t607 true true (wrap64 (x9_2 + 1))) else ((laws_wReach.f k2 t602 t603 (⟨#[115, 99, 114, 97, 112, 112, 101, 100]⟩ : ByteArray)).bind fun t614 => (if t614 = true then (laws_FnCan.l0 k2 t602 t603 t604 t607 true (x9_2 == 3) (wrap64 (x9_2 + 1))) else (laws_FnCan.l0 k2 t602 t603 t604 t607 true false (wrap64 (x9_2 + 1)))))) else ((laws_wReach.f k2 t602 t603 (⟨#[115, 99, 114, 97, 112, 112, 101, 100]⟩ : ByteArray)).bind fun t615 => (if t615 = true then (laws_FnCan.l0 k2 t602 t603 t604 t607 true (x9_2 == 3) (wrap64 (x9_2 + 1))) else (laws_FnCan.l0 k2 t602 t603 t604 t607 true false (wrap64 (x9_2 + 1)))))))) else ((laws_wReach.f k2 t602 t603 (⟨#[115, 97, 118, 101, 100]⟩ : ByteArray)).bind fun t616 => (if t616 = true then (if x9_2 = 2 then (laws_FnCan.l0 k2 t602 t603 t604 t607 true true (wrap64 (x9_2 + 1))) else ((laws_wReach.f k2 t602 t603 (⟨#[115, 99, 114, 97, 112, 112, 101, 100]⟩ : ByteArray)).bind fun t617 => (if t617 = true then (laws_FnCan.l0 k2 t602 t603 t604 t607 true (x9_2 == 3) (wrap64 (x9_2 + 1))) else (laws_FnCan.l0 k2 t602 t603 t604 t607 true false (wrap64 (x9_2 + 1)))))) else ((laws_wReach.f k2 t602 t603 (⟨#[115, 99, 114, 97, 112, 112, 101, 100]⟩ : ByteArray)).bind fun t618 => (if t618 = true then (laws_FnCan.l0 k2 t602 t603 t604 t607 true (x9_2 == 3) (wrap64 (x9_2 + 1))) else (laws_FnCan.l0 k2 t602 t603 t604 t607 true false (wrap64 (x9_2 + 1))))))))) else (laws_FnCan.l0 k2 t602 t603 t604 t607 true false (wrap64 (x9_2 + 1))))) = some r := by rw [if_pos rfl] at H; exact H
                    clear H
                    have H := H1
                    clear H1
                    by_cases c22 : x8_2 = true
                    · subst c22
                      have H1 : (laws_FnCan.l0 k2 t602 t603 t604 t607 true true (wrap64 (x9_2 + 1))) = some r := by rw [if_pos rfl] at H; exact H
                      clear H
                      have H := H1
                      clear H1
                      have H' := Aside0.mk H
                      clear H
                      go_wp2
                      go_roundg k2
                      case measure => have := HJ4.out; have := HK2.out; omega
                      case rel => exact ⟨(true), (true), (wrap64 (x9_2 + 1)), (by first | rfl | (simp; done) | (simp [*]; done)), (by first | rfl | (simp; done) | (simp [*]; done)), (by first | rfl | (simp; done) | (simp [*]; done)), H', ⟨by have := HJ4.out; have := HK2.out; omega⟩, ⟨by refine rx ?_; exact HO_3.out⟩, (hbw HB)⟩
                    · replace c22 := Bool.eq_false_iff.mpr c22
                      subst c22
                      have H1 : (if x9_2 = t604 then ((laws_wReach.f k2 t602 t603 (⟨#[103, 111, 111, 100]⟩ : ByteArray)).bind fun t612 => (if t612 = true then (if x9_2 = 1 then (laws_FnCan.l0 k2 t602 t603 t604 t607 true true (wrap64 (x9_2 + 1))) else ((laws_wReach.f k2 t602 t603 (⟨#[115, 97, 118, 101, 100]⟩ : ByteArray)).bind fun t613 => (if t613 = true then (if x9_2 = 2 then (laws_FnCan.l0 k2 t602 t603 t604 t607 true true (wrap64 (x9_2 + 1))) else ((laws_wReach.f k2 t602 t603 (⟨#[115, 99, 114, 97, 112, 112, 101, 100]⟩ : ByteArray)).bind fun t614 => (if t614 = true then (laws_FnCan.l0 k2 t602 t603 t604 t607 true (x9_2 == 3) (wrap64 (x9_2 + 1))) else (laws_FnCan.l0 k2 t602 t603 t604 t607 true false (wrap64 (x9_2 + 1)))))) else ((laws_wReach.f k2 t602 t603 (⟨#[115, 99, 114, 97, 112, 112, 101, 100]⟩ : ByteArray)).bind fun t615 => (if t615 = true then (laws_FnCan.l0 k2 t602 t603 t604 t607 true (x9_2 == 3) (wrap64 (x9_2 + 1))) else (laws_FnCan.l0 k2 t602 t603 t604 t607 true false (wrap64 (x9_2 + 1)))))))) else ((laws_wReach.f k2 t602 t603 (⟨#[115, 97, 118, 101, 100]⟩ : ByteArray)).bind fun t616 => (if t616 = true then (if x9_2 = 2 then (laws_FnCan.l0 k2 t602 t603 t604 t607 true true (wrap64 (x9_2 + 1))) else ((laws_wReach.f k2 t602 t603 (⟨#[115, 99, 114, 97, 112, 112, 101, 100]⟩ : ByteArray)).bind fun t617 => (if t617 = true then (laws_FnCan.l0 k2 t602 t603 t604 t607 true (x9_2 == 3) (wrap64 (x9_2 + 1))) else (laws_FnCan.l0 k2 t602 t603 t604 t607 true false (wrap64 (x9_2 + 1)))))) else ((laws_wReach.f k2 t602 t603 (⟨#[115, 99, 114, 97, 112, 112, 101, 100]⟩ : ByteArray)).bind fun t618 => (if t618 = true then (laws_FnCan.l0 k2 t602 t603 t604 t607 true (x9_2 == 3) (wrap64 (x9_2 + 1))) else (laws_FnCan.l0 k2 t602 t603 t604 t607 true false (wrap64 (x9_2 + 1))))))))) else (laws_FnCan.l0 k2 t602 t603 t604 t607 true false (wrap64 (x9_2 + 1)))) = some r := by rw [if_neg (show ¬ (false = true) by decide)] at H; exact H
                      clear H
                      have H := H1
                      clear H1
                      by_cases c23 : x9_2 = t604
                      · rw [if_pos c23] at H
                        have c23b0 : (x9_2 == t604) = true := beq_iff_eq.mpr c23
                        have c23b1 : (x9_2 != t604) = false := bne_eq_false_iff_eq.mpr c23
                        clear c23
                        replace H := Option.bind_eq_some_iff.mp H
                        obtain ⟨t612, A240, H⟩ := H
                        replace H : (if t612 = true then (if x9_2 = 1 then (laws_FnCan.l0 k2 t602 t603 t604 t607 true true (wrap64 (x9_2 + 1))) else ((laws_wReach.f k2 t602 t603 (⟨#[115, 97, 118, 101, 100]⟩ : ByteArray)).bind fun t613 => (if t613 = true then (if x9_2 = 2 then (laws_FnCan.l0 k2 t602 t603 t604 t607 true true (wrap64 (x9_2 + 1))) else ((laws_wReach.f k2 t602 t603 (⟨#[115, 99, 114, 97, 112, 112, 101, 100]⟩ : ByteArray)).bind fun t614 => (if t614 = true then (laws_FnCan.l0 k2 t602 t603 t604 t607 true (x9_2 == 3) (wrap64 (x9_2 + 1))) else (laws_FnCan.l0 k2 t602 t603 t604 t607 true false (wrap64 (x9_2 + 1)))))) else ((laws_wReach.f k2 t602 t603 (⟨#[115, 99, 114, 97, 112, 112, 101, 100]⟩ : ByteArray)).bind fun t615 => (if t615 = true then (laws_FnCan.l0 k2 t602 t603 t604 t607 true (x9_2 == 3) (wrap64 (x9_2 + 1))) else (laws_FnCan.l0 k2 t602 t603 t604 t607 true false (wrap64 (x9_2 + 1)))))))) else ((laws_wReach.f k2 t602 t603 (⟨#[115, 97, 118, 101, 100]⟩ : ByteArray)).bind fun t616 => (if t616 = true then (if x9_2 = 2 then (laws_FnCan.l0 k2 t602 t603 t604 t607 true true (wrap64 (x9_2 + 1))) else ((laws_wReach.f k2 t602 t603 (⟨#[115, 99, 114, 97, 112, 112, 101, 100]⟩ : ByteArray)).bind fun t617 => (if t617 = true then (laws_FnCan.l0 k2 t602 t603 t604 t607 true (x9_2 == 3) (wrap64 (x9_2 + 1))) else (laws_FnCan.l0 k2 t602 t603 t604 t607 true false (wrap64 (x9_2 + 1)))))) else ((laws_wReach.f k2 t602 t603 (⟨#[115, 99, 114, 97, 112, 112, 101, 100]⟩ : ByteArray)).bind fun t618 => (if t618 = true then (laws_FnCan.l0 k2 t602 t603 t604 t607 true (x9_2 == 3) (wrap64 (x9_2 + 1))) else (laws_FnCan.l0 k2 t602 t603 t604 t607 true false (wrap64 (x9_2 + 1)))))))) = some r := H
                        have A24 := Aside0.mk A240
                        clear A240
                        by_cases c25 : t612 = true
                        · subst c25
                          have H1 : (if x9_2 = 1 then (laws_FnCan.l0 k2 t602 t603 t604 t607 true true (wrap64 (x9_2 + 1))) else ((laws_wReach.f k2 t602 t603 (⟨#[115, 97, 118, 101, 100]⟩ : ByteArray)).bind fun t613 => (if t613 = true then (if x9_2 = 2 then (laws_FnCan.l0 k2 t602 t603 t604 t607 true true (wrap64 (x9_2 + 1))) else ((laws_wReach.f k2 t602 t603 (⟨#[115, 99, 114, 97, 112, 112, 101, 100]⟩ : ByteArray)).bind fun t614 => (if t614 = true then (laws_FnCan.l0 k2 t602 t603 t604 t607 true (x9_2 == 3) (wrap64 (x9_2 + 1))) else (laws_FnCan.l0 k2 t602 t603 t604 t607 true false (wrap64 (x9_2 + 1)))))) else ((laws_wReach.f k2 t602 t603 (⟨#[115, 99, 114, 97, 112, 112, 101, 100]⟩ : ByteArray)).bind fun t615 => (if t615 = true then (laws_FnCan.l0 k2 t602 t603 t604 t607 true (x9_2 == 3) (wrap64 (x9_2 + 1))) else (laws_FnCan.l0 k2 t602 t603 t604 t607 true false (wrap64 (x9_2 + 1)))))))) = some r := by rw [if_pos rfl] at H; exact H
                          clear H
                          have H := H1
                          clear H1
                          by_cases c26 : x9_2 = 1
                          · rw [if_pos c26] at H
                            have c26b0 : (x9_2 == 1) = true := beq_iff_eq.mpr c26
                            have c26b1 : (x9_2 != 1) = false := bne_eq_false_iff_eq.mpr c26
                            clear c26
                            have H' := Aside0.mk H
                            clear H
                            go_wp2_with (first | (go_at_call 45; (with_reducible refine (laws_wReach.calls k2 _ _ t602 t603 (⟨#[103, 111, 111, 100]⟩ : ByteArray) true _ ?side1 ?side2 A24.out).mono ?_); (case side1 => exact cx (Kd.R_reads' HO_3.out).2.2); (case side2 => exact (Kd.R_reads' HO_3.out).2.1); rintro e w' ⟨rfl, ⟨nd, rfl⟩⟩))
                            go_roundg k2
                            case measure => have := HJ4.out; have := HK2.out; omega
                            case rel => exact ⟨(true), (true), (wrap64 (x9_2 + 1)), (by first | rfl | (simp; done) | (simp [*]; done)), (by first | rfl | (simp; done) | (simp [*]; done)), (by first | rfl | (simp; done) | (simp [*]; done)), H', ⟨by have := HJ4.out; have := HK2.out; omega⟩, ⟨by refine rx ?_; exact HO_3.out⟩, (hbw HB)⟩
                          · rw [if_neg c26] at H
                            have c26b0 : (x9_2 == 1) = false := beq_eq_false_iff_ne.mpr c26
                            have c26b1 : (x9_2 != 1) = true := bne_iff_ne.mpr c26
                            replace H := Option.bind_eq_some_iff.mp H
                            obtain ⟨t613, A270, H⟩ := H
                            replace H : (if t613 = true then (if x9_2 = 2 then (laws_FnCan.l0 k2 t602 t603 t604 t607 true true (wrap64 (x9_2 + 1))) else ((laws_wReach.f k2 t602 t603 (⟨#[115, 99, 114, 97, 112, 112, 101, 100]⟩ : ByteArray)).bind fun t614 => (if t614 = true then (laws_FnCan.l0 k2 t602 t603 t604 t607 true (x9_2 == 3) (wrap64 (x9_2 + 1))) else (laws_FnCan.l0 k2 t602 t603 t604 t607 true false (wrap64 (x9_2 + 1)))))) else ((laws_wReach.f k2 t602 t603 (⟨#[115, 99, 114, 97, 112, 112, 101, 100]⟩ : ByteArray)).bind fun t615 => (if t615 = true then (laws_FnCan.l0 k2 t602 t603 t604 t607 true (x9_2 == 3) (wrap64 (x9_2 + 1))) else (laws_FnCan.l0 k2 t602 t603 t604 t607 true false (wrap64 (x9_2 + 1)))))) = some r := H
                            have A27 := Aside0.mk A270
                            clear A270
                            by_cases c28 : t613 = true
                            · subst c28
                              have H1 : (if x9_2 = 2 then (laws_FnCan.l0 k2 t602 t603 t604 t607 true true (wrap64 (x9_2 + 1))) else ((laws_wReach.f k2 t602 t603 (⟨#[115, 99, 114, 97, 112, 112, 101, 100]⟩ : ByteArray)).bind fun t614 => (if t614 = true then (laws_FnCan.l0 k2 t602 t603 t604 t607 true (x9_2 == 3) (wrap64 (x9_2 + 1))) else (laws_FnCan.l0 k2 t602 t603 t604 t607 true false (wrap64 (x9_2 + 1)))))) = some r := by rw [if_pos rfl] at H; exact H
                              clear H
                              have H := H1
                              clear H1
                              by_cases c29 : x9_2 = 2
                              · rw [if_pos c29] at H
                                have c29b0 : (x9_2 == 2) = true := beq_iff_eq.mpr c29
                                have c29b1 : (x9_2 != 2) = false := bne_eq_false_iff_eq.mpr c29
                                clear c29
                                have H' := Aside0.mk H
                                clear H
                                go_wp2_with (first | (go_at_call 45; (with_reducible refine (laws_wReach.calls k2 _ _ t602 t603 (⟨#[103, 111, 111, 100]⟩ : ByteArray) true _ ?side1 ?side2 A24.out).mono ?_); (case side1 => exact cx (Kd.R_reads' HO_3.out).2.2); (case side2 => exact (Kd.R_reads' HO_3.out).2.1); rintro e w' ⟨rfl, ⟨nd, rfl⟩⟩) | (go_at_call 45; (with_reducible refine (laws_wReach.calls k2 _ _ t602 t603 (⟨#[115, 97, 118, 101, 100]⟩ : ByteArray) true _ ?side1 ?side2 A27.out).mono ?_); (case side1 => exact cx (Kd.R_reads' HO_3.out).2.2); (case side2 => exact (Kd.R_reads' HO_3.out).2.1); rintro e w' ⟨rfl, ⟨nd, rfl⟩⟩))
                                go_roundg k2
                                case measure => have := HJ4.out; have := HK2.out; omega
                                case rel => exact ⟨(true), (true), (wrap64 (x9_2 + 1)), (by first | rfl | (simp; done) | (simp [*]; done)), (by first | rfl | (simp; done) | (simp [*]; done)), (by first | rfl | (simp; done) | (simp [*]; done)), H', ⟨by have := HJ4.out; have := HK2.out; omega⟩, ⟨by refine rx ?_; exact HO_3.out⟩, (hbw HB)⟩
                              · rw [if_neg c29] at H
                                have c29b0 : (x9_2 == 2) = false := beq_eq_false_iff_ne.mpr c29
                                have c29b1 : (x9_2 != 2) = true := bne_iff_ne.mpr c29
                                replace H := Option.bind_eq_some_iff.mp H
                                obtain ⟨t614, A300, H⟩ := H
                                replace H : (if t614 = true then (laws_FnCan.l0 k2 t602 t603 t604 t607 true (x9_2 == 3) (wrap64 (x9_2 + 1))) else (laws_FnCan.l0 k2 t602 t603 t604 t607 true false (wrap64 (x9_2 + 1)))) = some r := H
                                have A30 := Aside0.mk A300
                                clear A300
                                by_cases c31 : t614 = true
                                · subst c31
                                  have H1 : (laws_FnCan.l0 k2 t602 t603 t604 t607 true (x9_2 == 3) (wrap64 (x9_2 + 1))) = some r := by rw [if_pos rfl] at H; exact H
                                  clear H
                                  have H := H1
                                  clear H1
                                  have H' := Aside0.mk H
                                  clear H
                                  go_wp2_with (first | (go_at_call 45; (with_reducible refine (laws_wReach.calls k2 _ _ t602 t603 (⟨#[103, 111, 111, 100]⟩ : ByteArray) true _ ?side1 ?side2 A24.out).mono ?_); (case side1 => exact cx (Kd.R_reads' HO_3.out).2.2); (case side2 => exact (Kd.R_reads' HO_3.out).2.1); rintro e w' ⟨rfl, ⟨nd, rfl⟩⟩) | (go_at_call 45; (with_reducible refine (laws_wReach.calls k2 _ _ t602 t603 (⟨#[115, 97, 118, 101, 100]⟩ : ByteArray) true _ ?side1 ?side2 A27.out).mono ?_); (case side1 => exact cx (Kd.R_reads' HO_3.out).2.2); (case side2 => exact (Kd.R_reads' HO_3.out).2.1); rintro e w' ⟨rfl, ⟨nd, rfl⟩⟩) | (go_at_call 45; (with_reducible refine (laws_wReach.calls k2 _ _ t602 t603 (⟨#[115, 99, 114, 97, 112, 112, 101, 100]⟩ : ByteArray) true _ ?side1 ?side2 A30.out).mono ?_); (case side1 => exact cx (Kd.R_reads' HO_3.out).2.2); (case side2 => exact (Kd.R_reads' HO_3.out).2.1); rintro e w' ⟨rfl, ⟨nd, rfl⟩⟩))
                                  go_roundg k2
                                  case measure => have := HJ4.out; have := HK2.out; omega
                                  case rel => exact ⟨(true), ((x9_2 == 3)), (wrap64 (x9_2 + 1)), (by first | rfl | (simp; done) | (simp [*]; done)), (by first | rfl | (simp; done) | (simp [*]; done)), (by first | rfl | (simp; done) | (simp [*]; done)), H', ⟨by have := HJ4.out; have := HK2.out; omega⟩, ⟨by refine rx ?_; exact HO_3.out⟩, (hbw HB)⟩
                                · replace c31 := Bool.eq_false_iff.mpr c31
                                  subst c31
                                  have H1 : (laws_FnCan.l0 k2 t602 t603 t604 t607 true false (wrap64 (x9_2 + 1))) = some r := by rw [if_neg (show ¬ (false = true) by decide)] at H; exact H
                                  clear H
                                  have H := H1
                                  clear H1
                                  have H' := Aside0.mk H
                                  clear H
                                  go_wp2_with (first | (go_at_call 45; (with_reducible refine (laws_wReach.calls k2 _ _ t602 t603 (⟨#[103, 111, 111, 100]⟩ : ByteArray) true _ ?side1 ?side2 A24.out).mono ?_); (case side1 => exact cx (Kd.R_reads' HO_3.out).2.2); (case side2 => exact (Kd.R_reads' HO_3.out).2.1); rintro e w' ⟨rfl, ⟨nd, rfl⟩⟩) | (go_at_call 45; (with_reducible refine (laws_wReach.calls k2 _ _ t602 t603 (⟨#[115, 97, 118, 101, 100]⟩ : ByteArray) true _ ?side1 ?side2 A27.out).mono ?_); (case side1 => exact cx (Kd.R_reads' HO_3.out).2.2); (case side2 => exact (Kd.R_reads' HO_3.out).2.1); rintro e w' ⟨rfl, ⟨nd, rfl⟩⟩) | (go_at_call 45; (with_reducible refine (laws_wReach.calls k2 _ _ t602 t603 (⟨#[115, 99, 114, 97, 112, 112, 101, 100]⟩ : ByteArray) false _ ?side1 ?side2 A30.out).mono ?_); (case side1 => exact cx (Kd.R_reads' HO_3.out).2.2); (case side2 => exact (Kd.R_reads' HO_3.out).2.1); rintro e w' ⟨rfl, ⟨nd, rfl⟩⟩))
                                  go_roundg k2
                                  case measure => have := HJ4.out; have := HK2.out; omega
                                  case rel => exact ⟨(true), (false), (wrap64 (x9_2 + 1)), (by first | rfl | (simp; done) | (simp [*]; done)), (by first | rfl | (simp; done) | (simp [*]; done)), (by first | rfl | (simp; done) | (simp [*]; done)), H', ⟨by have := HJ4.out; have := HK2.out; omega⟩, ⟨by refine rx ?_; exact HO_3.out⟩, (hbw HB)⟩
                            · replace c28 := Bool.eq_false_iff.mpr c28
                              subst c28
                              have H1 : ((laws_wReach.f k2 t602 t603 (⟨#[115, 99, 114, 97, 112, 112, 101, 100]⟩ : ByteArray)).bind fun t615 => (if t615 = true then (laws_FnCan.l0 k2 t602 t603 t604 t607 true (x9_2 == 3) (wrap64 (x9_2 + 1))) else (laws_FnCan.l0 k2 t602 t603 t604 t607 true false (wrap64 (x9_2 + 1))))) = some r := by rw [if_neg (show ¬ (false = true) by decide)] at H; exact H
                              clear H
                              have H := H1
                              clear H1
                              replace H := Option.bind_eq_some_iff.mp H
                              obtain ⟨t615, A320, H⟩ := H
                              replace H : (if t615 = true then (laws_FnCan.l0 k2 t602 t603 t604 t607 true (x9_2 == 3) (wrap64 (x9_2 + 1))) else (laws_FnCan.l0 k2 t602 t603 t604 t607 true false (wrap64 (x9_2 + 1)))) = some r := H
                              have A32 := Aside0.mk A320
                              clear A320
                              by_cases c33 : t615 = true
                              · subst c33
                                have H1 : (laws_FnCan.l0 k2 t602 t603 t604 t607 true (x9_2 == 3) (wrap64 (x9_2 + 1))) = some r := by rw [if_pos rfl] at H; exact H
                                clear H
                                have H := H1
                                clear H1
                                have H' := Aside0.mk H
                                clear H
                                go_wp2_with (first | (go_at_call 45; (with_reducible refine (laws_wReach.calls k2 _ _ t602 t603 (⟨#[103, 111, 111, 100]⟩ : ByteArray) true _ ?side1 ?side2 A24.out).mono ?_); (case side1 => exact cx (Kd.R_reads' HO_3.out).2.2); (case side2 => exact (Kd.R_reads' HO_3.out).2.1); rintro e w' ⟨rfl, ⟨nd, rfl⟩⟩) | (go_at_call 45; (with_reducible refine (laws_wReach.calls k2 _ _ t602 t603 (⟨#[115, 97, 118, 101, 100]⟩ : ByteArray) false _ ?side1 ?side2 A27.out).mono ?_); (case side1 => exact cx (Kd.R_reads' HO_3.out).2.2); (case side2 => exact (Kd.R_reads' HO_3.out).2.1); rintro e w' ⟨rfl, ⟨nd, rfl⟩⟩) | (go_at_call 45; (with_reducible refine (laws_wReach.calls k2 _ _ t602 t603 (⟨#[115, 99, 114, 97, 112, 112, 101, 100]⟩ : ByteArray) true _ ?side1 ?side2 A32.out).mono ?_); (case side1 => exact cx (Kd.R_reads' HO_3.out).2.2); (case side2 => exact (Kd.R_reads' HO_3.out).2.1); rintro e w' ⟨rfl, ⟨nd, rfl⟩⟩))
                                go_roundg k2
                                case measure => have := HJ4.out; have := HK2.out; omega
                                case rel => exact ⟨(true), ((x9_2 == 3)), (wrap64 (x9_2 + 1)), (by first | rfl | (simp; done) | (simp [*]; done)), (by first | rfl | (simp; done) | (simp [*]; done)), (by first | rfl | (simp; done) | (simp [*]; done)), H', ⟨by have := HJ4.out; have := HK2.out; omega⟩, ⟨by refine rx ?_; exact HO_3.out⟩, (hbw HB)⟩
                              · replace c33 := Bool.eq_false_iff.mpr c33
                                subst c33
                                have H1 : (laws_FnCan.l0 k2 t602 t603 t604 t607 true false (wrap64 (x9_2 + 1))) = some r := by rw [if_neg (show ¬ (false = true) by decide)] at H; exact H
                                clear H
                                have H := H1
                                clear H1
                                have H' := Aside0.mk H
                                clear H
                                go_wp2_with (first | (go_at_call 45; (with_reducible refine (laws_wReach.calls k2 _ _ t602 t603 (⟨#[103, 111, 111, 100]⟩ : ByteArray) true _ ?side1 ?side2 A24.out).mono ?_); (case side1 => exact cx (Kd.R_reads' HO_3.out).2.2); (case side2 => exact (Kd.R_reads' HO_3.out).2.1); rintro e w' ⟨rfl, ⟨nd, rfl⟩⟩) | (go_at_call 45; (with_reducible refine (laws_wReach.calls k2 _ _ t602 t603 (⟨#[115, 97, 118, 101, 100]⟩ : ByteArray) false _ ?side1 ?side2 A27.out).mono ?_); (case side1 => exact cx (Kd.R_reads' HO_3.out).2.2); (case side2 => exact (Kd.R_reads' HO_3.out).2.1); rintro e w' ⟨rfl, ⟨nd, rfl⟩⟩) | (go_at_call 45; (with_reducible refine (laws_wReach.calls k2 _ _ t602 t603 (⟨#[115, 99, 114, 97, 112, 112, 101, 100]⟩ : ByteArray) false _ ?side1 ?side2 A32.out).mono ?_); (case side1 => exact cx (Kd.R_reads' HO_3.out).2.2); (case side2 => exact (Kd.R_reads' HO_3.out).2.1); rintro e w' ⟨rfl, ⟨nd, rfl⟩⟩))
                                go_roundg k2
                                case measure => have := HJ4.out; have := HK2.out; omega
                                case rel => exact ⟨(true), (false), (wrap64 (x9_2 + 1)), (by first | rfl | (simp; done) | (simp [*]; done)), (by first | rfl | (simp; done) | (simp [*]; done)), (by first | rfl | (simp; done) | (simp [*]; done)), H', ⟨by have := HJ4.out; have := HK2.out; omega⟩, ⟨by refine rx ?_; exact HO_3.out⟩, (hbw HB)⟩
                        · replace c25 := Bool.eq_false_iff.mpr c25
                          subst c25
                          have H1 : ((laws_wReach.f k2 t602 t603 (⟨#[115, 97, 118, 101, 100]⟩ : ByteArray)).bind fun t616 => (if t616 = true then (if x9_2 = 2 then (laws_FnCan.l0 k2 t602 t603 t604 t607 true true (wrap64 (x9_2 + 1))) else ((laws_wReach.f k2 t602 t603 (⟨#[115, 99, 114, 97, 112, 112, 101, 100]⟩ : ByteArray)).bind fun t617 => (if t617 = true then (laws_FnCan.l0 k2 t602 t603 t604 t607 true (x9_2 == 3) (wrap64 (x9_2 + 1))) else (laws_FnCan.l0 k2 t602 t603 t604 t607 true false (wrap64 (x9_2 + 1)))))) else ((laws_wReach.f k2 t602 t603 (⟨#[115, 99, 114, 97, 112, 112, 101, 100]⟩ : ByteArray)).bind fun t618 => (if t618 = true then (laws_FnCan.l0 k2 t602 t603 t604 t607 true (x9_2 == 3) (wrap64 (x9_2 + 1))) else (laws_FnCan.l0 k2 t602 t603 t604 t607 true false (wrap64 (x9_2 + 1))))))) = some r := by rw [if_neg (show ¬ (false = true) by decide)] at H; exact H
                          clear H
                          have H := H1
                          clear H1
                          replace H := Option.bind_eq_some_iff.mp H
                          obtain ⟨t616, A340, H⟩ := H
                          replace H : (if t616 = true then (if x9_2 = 2 then (laws_FnCan.l0 k2 t602 t603 t604 t607 true true (wrap64 (x9_2 + 1))) else ((laws_wReach.f k2 t602 t603 (⟨#[115, 99, 114, 97, 112, 112, 101, 100]⟩ : ByteArray)).bind fun t617 => (if t617 = true then (laws_FnCan.l0 k2 t602 t603 t604 t607 true (x9_2 == 3) (wrap64 (x9_2 + 1))) else (laws_FnCan.l0 k2 t602 t603 t604 t607 true false (wrap64 (x9_2 + 1)))))) else ((laws_wReach.f k2 t602 t603 (⟨#[115, 99, 114, 97, 112, 112, 101, 100]⟩ : ByteArray)).bind fun t618 => (if t618 = true then (laws_FnCan.l0 k2 t602 t603 t604 t607 true (x9_2 == 3) (wrap64 (x9_2 + 1))) else (laws_FnCan.l0 k2 t602 t603 t604 t607 true false (wrap64 (x9_2 + 1)))))) = some r := H
                          have A34 := Aside0.mk A340
                          clear A340
                          by_cases c35 : t616 = true
                          · subst c35
                            have H1 : (if x9_2 = 2 then (laws_FnCan.l0 k2 t602 t603 t604 t607 true true (wrap64 (x9_2 + 1))) else ((laws_wReach.f k2 t602 t603 (⟨#[115, 99, 114, 97, 112, 112, 101, 100]⟩ : ByteArray)).bind fun t617 => (if t617 = true then (laws_FnCan.l0 k2 t602 t603 t604 t607 true (x9_2 == 3) (wrap64 (x9_2 + 1))) else (laws_FnCan.l0 k2 t602 t603 t604 t607 true false (wrap64 (x9_2 + 1)))))) = some r := by rw [if_pos rfl] at H; exact H
                            clear H
                            have H := H1
                            clear H1
                            by_cases c36 : x9_2 = 2
                            · rw [if_pos c36] at H
                              have c36b0 : (x9_2 == 2) = true := beq_iff_eq.mpr c36
                              have c36b1 : (x9_2 != 2) = false := bne_eq_false_iff_eq.mpr c36
                              clear c36
                              have H' := Aside0.mk H
                              clear H
                              go_wp2_with (first | (go_at_call 45; (with_reducible refine (laws_wReach.calls k2 _ _ t602 t603 (⟨#[103, 111, 111, 100]⟩ : ByteArray) false _ ?side1 ?side2 A24.out).mono ?_); (case side1 => exact cx (Kd.R_reads' HO_3.out).2.2); (case side2 => exact (Kd.R_reads' HO_3.out).2.1); rintro e w' ⟨rfl, ⟨nd, rfl⟩⟩) | (go_at_call 45; (with_reducible refine (laws_wReach.calls k2 _ _ t602 t603 (⟨#[115, 97, 118, 101, 100]⟩ : ByteArray) true _ ?side1 ?side2 A34.out).mono ?_); (case side1 => exact cx (Kd.R_reads' HO_3.out).2.2); (case side2 => exact (Kd.R_reads' HO_3.out).2.1); rintro e w' ⟨rfl, ⟨nd, rfl⟩⟩))
                              go_roundg k2
                              case measure => have := HJ4.out; have := HK2.out; omega
                              case rel => exact ⟨(true), (true), (wrap64 (x9_2 + 1)), (by first | rfl | (simp; done) | (simp [*]; done)), (by first | rfl | (simp; done) | (simp [*]; done)), (by first | rfl | (simp; done) | (simp [*]; done)), H', ⟨by have := HJ4.out; have := HK2.out; omega⟩, ⟨by refine rx ?_; exact HO_3.out⟩, (hbw HB)⟩
                            · rw [if_neg c36] at H
                              have c36b0 : (x9_2 == 2) = false := beq_eq_false_iff_ne.mpr c36
                              have c36b1 : (x9_2 != 2) = true := bne_iff_ne.mpr c36
                              replace H := Option.bind_eq_some_iff.mp H
                              obtain ⟨t617, A370, H⟩ := H
                              replace H : (if t617 = true then (laws_FnCan.l0 k2 t602 t603 t604 t607 true (x9_2 == 3) (wrap64 (x9_2 + 1))) else (laws_FnCan.l0 k2 t602 t603 t604 t607 true false (wrap64 (x9_2 + 1)))) = some r := H
                              have A37 := Aside0.mk A370
                              clear A370
                              by_cases c38 : t617 = true
                              · subst c38
                                have H1 : (laws_FnCan.l0 k2 t602 t603 t604 t607 true (x9_2 == 3) (wrap64 (x9_2 + 1))) = some r := by rw [if_pos rfl] at H; exact H
                                clear H
                                have H := H1
                                clear H1
                                have H' := Aside0.mk H
                                clear H
                                go_wp2_with (first | (go_at_call 45; (with_reducible refine (laws_wReach.calls k2 _ _ t602 t603 (⟨#[103, 111, 111, 100]⟩ : ByteArray) false _ ?side1 ?side2 A24.out).mono ?_); (case side1 => exact cx (Kd.R_reads' HO_3.out).2.2); (case side2 => exact (Kd.R_reads' HO_3.out).2.1); rintro e w' ⟨rfl, ⟨nd, rfl⟩⟩) | (go_at_call 45; (with_reducible refine (laws_wReach.calls k2 _ _ t602 t603 (⟨#[115, 97, 118, 101, 100]⟩ : ByteArray) true _ ?side1 ?side2 A34.out).mono ?_); (case side1 => exact cx (Kd.R_reads' HO_3.out).2.2); (case side2 => exact (Kd.R_reads' HO_3.out).2.1); rintro e w' ⟨rfl, ⟨nd, rfl⟩⟩) | (go_at_call 45; (with_reducible refine (laws_wReach.calls k2 _ _ t602 t603 (⟨#[115, 99, 114, 97, 112, 112, 101, 100]⟩ : ByteArray) true _ ?side1 ?side2 A37.out).mono ?_); (case side1 => exact cx (Kd.R_reads' HO_3.out).2.2); (case side2 => exact (Kd.R_reads' HO_3.out).2.1); rintro e w' ⟨rfl, ⟨nd, rfl⟩⟩))
                                go_roundg k2
                                case measure => have := HJ4.out; have := HK2.out; omega
                                case rel => exact ⟨(true), ((x9_2 == 3)), (wrap64 (x9_2 + 1)), (by first | rfl | (simp; done) | (simp [*]; done)), (by first | rfl | (simp; done) | (simp [*]; done)), (by first | rfl | (simp; done) | (simp [*]; done)), H', ⟨by have := HJ4.out; have := HK2.out; omega⟩, ⟨by refine rx ?_; exact HO_3.out⟩, (hbw HB)⟩
                              · replace c38 := Bool.eq_false_iff.mpr c38
                                subst c38
                                have H1 : (laws_FnCan.l0 k2 t602 t603 t604 t607 true false (wrap64 (x9_2 + 1))) = some r := by rw [if_neg (show ¬ (false = true) by decide)] at H; exact H
                                clear H
                                have H := H1
                                clear H1
                                have H' := Aside0.mk H
                                clear H
                                go_wp2_with (first | (go_at_call 45; (with_reducible refine (laws_wReach.calls k2 _ _ t602 t603 (⟨#[103, 111, 111, 100]⟩ : ByteArray) false _ ?side1 ?side2 A24.out).mono ?_); (case side1 => exact cx (Kd.R_reads' HO_3.out).2.2); (case side2 => exact (Kd.R_reads' HO_3.out).2.1); rintro e w' ⟨rfl, ⟨nd, rfl⟩⟩) | (go_at_call 45; (with_reducible refine (laws_wReach.calls k2 _ _ t602 t603 (⟨#[115, 97, 118, 101, 100]⟩ : ByteArray) true _ ?side1 ?side2 A34.out).mono ?_); (case side1 => exact cx (Kd.R_reads' HO_3.out).2.2); (case side2 => exact (Kd.R_reads' HO_3.out).2.1); rintro e w' ⟨rfl, ⟨nd, rfl⟩⟩) | (go_at_call 45; (with_reducible refine (laws_wReach.calls k2 _ _ t602 t603 (⟨#[115, 99, 114, 97, 112, 112, 101, 100]⟩ : ByteArray) false _ ?side1 ?side2 A37.out).mono ?_); (case side1 => exact cx (Kd.R_reads' HO_3.out).2.2); (case side2 => exact (Kd.R_reads' HO_3.out).2.1); rintro e w' ⟨rfl, ⟨nd, rfl⟩⟩))
                                go_roundg k2
                                case measure => have := HJ4.out; have := HK2.out; omega
                                case rel => exact ⟨(true), (false), (wrap64 (x9_2 + 1)), (by first | rfl | (simp; done) | (simp [*]; done)), (by first | rfl | (simp; done) | (simp [*]; done)), (by first | rfl | (simp; done) | (simp [*]; done)), H', ⟨by have := HJ4.out; have := HK2.out; omega⟩, ⟨by refine rx ?_; exact HO_3.out⟩, (hbw HB)⟩
                          · replace c35 := Bool.eq_false_iff.mpr c35
                            subst c35
                            have H1 : ((laws_wReach.f k2 t602 t603 (⟨#[115, 99, 114, 97, 112, 112, 101, 100]⟩ : ByteArray)).bind fun t618 => (if t618 = true then (laws_FnCan.l0 k2 t602 t603 t604 t607 true (x9_2 == 3) (wrap64 (x9_2 + 1))) else (laws_FnCan.l0 k2 t602 t603 t604 t607 true false (wrap64 (x9_2 + 1))))) = some r := by rw [if_neg (show ¬ (false = true) by decide)] at H; exact H
                            clear H
                            have H := H1
                            clear H1
                            replace H := Option.bind_eq_some_iff.mp H
                            obtain ⟨t618, A390, H⟩ := H
                            replace H : (if t618 = true then (laws_FnCan.l0 k2 t602 t603 t604 t607 true (x9_2 == 3) (wrap64 (x9_2 + 1))) else (laws_FnCan.l0 k2 t602 t603 t604 t607 true false (wrap64 (x9_2 + 1)))) = some r := H
                            have A39 := Aside0.mk A390
                            clear A390
                            by_cases c40 : t618 = true
                            · subst c40
                              have H1 : (laws_FnCan.l0 k2 t602 t603 t604 t607 true (x9_2 == 3) (wrap64 (x9_2 + 1))) = some r := by rw [if_pos rfl] at H; exact H
                              clear H
                              have H := H1
                              clear H1
                              have H' := Aside0.mk H
                              clear H
                              go_wp2_with (first | (go_at_call 45; (with_reducible refine (laws_wReach.calls k2 _ _ t602 t603 (⟨#[103, 111, 111, 100]⟩ : ByteArray) false _ ?side1 ?side2 A24.out).mono ?_); (case side1 => exact cx (Kd.R_reads' HO_3.out).2.2); (case side2 => exact (Kd.R_reads' HO_3.out).2.1); rintro e w' ⟨rfl, ⟨nd, rfl⟩⟩) | (go_at_call 45; (with_reducible refine (laws_wReach.calls k2 _ _ t602 t603 (⟨#[115, 97, 118, 101, 100]⟩ : ByteArray) false _ ?side1 ?side2 A34.out).mono ?_); (case side1 => exact cx (Kd.R_reads' HO_3.out).2.2); (case side2 => exact (Kd.R_reads' HO_3.out).2.1); rintro e w' ⟨rfl, ⟨nd, rfl⟩⟩) | (go_at_call 45; (with_reducible refine (laws_wReach.calls k2 _ _ t602 t603 (⟨#[115, 99, 114, 97, 112, 112, 101, 100]⟩ : ByteArray) true _ ?side1 ?side2 A39.out).mono ?_); (case side1 => exact cx (Kd.R_reads' HO_3.out).2.2); (case side2 => exact (Kd.R_reads' HO_3.out).2.1); rintro e w' ⟨rfl, ⟨nd, rfl⟩⟩))
                              go_roundg k2
                              case measure => have := HJ4.out; have := HK2.out; omega
                              case rel => exact ⟨(true), ((x9_2 == 3)), (wrap64 (x9_2 + 1)), (by first | rfl | (simp; done) | (simp [*]; done)), (by first | rfl | (simp; done) | (simp [*]; done)), (by first | rfl | (simp; done) | (simp [*]; done)), H', ⟨by have := HJ4.out; have := HK2.out; omega⟩, ⟨by refine rx ?_; exact HO_3.out⟩, (hbw HB)⟩
                            · replace c40 := Bool.eq_false_iff.mpr c40
                              subst c40
                              have H1 : (laws_FnCan.l0 k2 t602 t603 t604 t607 true false (wrap64 (x9_2 + 1))) = some r := by rw [if_neg (show ¬ (false = true) by decide)] at H; exact H
                              clear H
                              have H := H1
                              clear H1
                              have H' := Aside0.mk H
                              clear H
                              go_wp2_with (first | (go_at_call 45; (with_reducible refine (laws_wReach.calls k2 _ _ t602 t603 (⟨#[103, 111, 111, 100]⟩ : ByteArray) false _ ?side1 ?side2 A24.out).mono ?_); (case side1 => exact cx (Kd.R_reads' HO_3.out).2.2); (case side2 => exact (Kd.R_reads' HO_3.out).2.1); rintro e w' ⟨rfl, ⟨nd, rfl⟩⟩) | (go_at_call 45; (with_reducible refine (laws_wReach.calls k2 _ _ t602 t603 (⟨#[115, 97, 118, 101, 100]⟩ : ByteArray) false _ ?side1 ?side2 A34.out).mono ?_); (case side1 => exact cx (Kd.R_reads' HO_3.out).2.2); (case side2 => exact (Kd.R_reads' HO_3.out).2.1); rintro e w' ⟨rfl, ⟨nd, rfl⟩⟩) | (go_at_call 45; (with_reducible refine (laws_wReach.calls k2 _ _ t602 t603 (⟨#[115, 99, 114, 97, 112, 112, 101, 100]⟩ : ByteArray) false _ ?side1 ?side2 A39.out).mono ?_); (case side1 => exact cx (Kd.R_reads' HO_3.out).2.2); (case side2 => exact (Kd.R_reads' HO_3.out).2.1); rintro e w' ⟨rfl, ⟨nd, rfl⟩⟩))
                              go_roundg k2
                              case measure => have := HJ4.out; have := HK2.out; omega
                              case rel => exact ⟨(true), (false), (wrap64 (x9_2 + 1)), (by first | rfl | (simp; done) | (simp [*]; done)), (by first | rfl | (simp; done) | (simp [*]; done)), (by first | rfl | (simp; done) | (simp [*]; done)), H', ⟨by have := HJ4.out; have := HK2.out; omega⟩, ⟨by refine rx ?_; exact HO_3.out⟩, (hbw HB)⟩
                      · rw [if_neg c23] at H
                        have c23b0 : (x9_2 == t604) = false := beq_eq_false_iff_ne.mpr c23
                        have c23b1 : (x9_2 != t604) = true := bne_iff_ne.mpr c23
                        have H' := Aside0.mk H
                        clear H
                        go_wp2
                        go_roundg k2
                        case measure => have := HJ4.out; have := HK2.out; omega
                        case rel => exact ⟨(true), (false), (wrap64 (x9_2 + 1)), (by first | rfl | (simp; done) | (simp [*]; done)), (by first | rfl | (simp; done) | (simp [*]; done)), (by first | rfl | (simp; done) | (simp [*]; done)), H', ⟨by have := HJ4.out; have := HK2.out; omega⟩, ⟨by refine rx ?_; exact HO_3.out⟩, (hbw HB)⟩
                  · replace c21 := Bool.eq_false_iff.mpr c21
                    subst c21
                    have H1 : (if 0 < (t602.length : Int) then ((impl_RecCan.f k2 t602 ((rd_T39 t602 0).f0) x9_2).bind fun t620 => (if x8_2 = true then (laws_FnCan.l0 k2 t602 t603 t604 t607 t620 true (wrap64 (x9_2 + 1))) else (if x9_2 = t604 then ((laws_wReach.f k2 t602 t603 (⟨#[103, 111, 111, 100]⟩ : ByteArray)).bind fun t621 => (if t621 = true then (if x9_2 = 1 then (laws_FnCan.l0 k2 t602 t603 t604 t607 t620 true (wrap64 (x9_2 + 1))) else ((laws_wReach.f k2 t602 t603 (⟨#[115, 97, 118, 101, 100]⟩ : ByteArray)).bind fun t622 => (if t622 = true then (if x9_2 = 2 then (laws_FnCan.l0 k2 t602 t603 t604 t607 t620 true (wrap64 (x9_2 + 1))) else ((laws_wReach.f k2 t602 t603 (⟨#[115, 99, 114, 97, 112, 112, 101, 100]⟩ : ByteArray)).bind fun t623 => (if t623 = true then (laws_FnCan.l0 k2 t602 t603 t604 t607 t620 (x9_2 == 3) (wrap64 (x9_2 + 1))) else (laws_FnCan.l0 k2 t602 t603 t604 t607 t620 false (wrap64 (x9_2 + 1)))))) else ((laws_wReach.f k2 t602 t603 (⟨#[115, 99, 114, 97, 112, 112, 101, 100]⟩ : ByteArray)).bind fun t624 => (if t624 = true then (laws_FnCan.l0 k2 t602 t603 t604 t607 t620 (x9_2 == 3) (wrap64 (x9_2 + 1))) else (laws_FnCan.l0 k2 t602 t603 t604 t607 t620 false (wrap64 (x9_2 + 1)))))))) else ((laws_wReach.f k2 t602 t603 (⟨#[115, 97, 118, 101, 100]⟩ : ByteArray)).bind fun t625 => (if t625 = true then (if x9_2 = 2 then (laws_FnCan.l0 k2 t602 t603 t604 t607 t620 true (wrap64 (x9_2 + 1))) else ((laws_wReach.f k2 t602 t603 (⟨#[115, 99, 114, 97, 112, 112, 101, 100]⟩ : ByteArray)).bind fun t626 => (if t626 = true then (laws_FnCan.l0 k2 t602 t603 t604 t607 t620 (x9_2 == 3) (wrap64 (x9_2 + 1))) else (laws_FnCan.l0 k2 t602 t603 t604 t607 t620 false (wrap64 (x9_2 + 1)))))) else ((laws_wReach.f k2 t602 t603 (⟨#[115, 99, 114, 97, 112, 112, 101, 100]⟩ : ByteArray)).bind fun t627 => (if t627 = true then (laws_FnCan.l0 k2 t602 t603 t604 t607 t620 (x9_2 == 3) (wrap64 (x9_2 + 1))) else (laws_FnCan.l0 k2 t602 t603 t604 t607 t620 false (wrap64 (x9_2 + 1))))))))) else (laws_FnCan.l0 k2 t602 t603 t604 t607 t620 false (wrap64 (x9_2 + 1)))))) else (none)) = some r := by rw [if_neg (show ¬ (false = true) by decide)] at H; exact H
                    clear H
                    have H := H1
                    clear H1
                    by_cases c41 : 0 < (t602.length : Int)
                    · rw [if_pos c41] at H
                      have c41b0 : decide (0 < (t602.length : Int)) = true := decide_eq_true c41
                      have c41b1 : decide (0 < t602.length) = true := decide_eq_true (by omega)
                      clear c41
                      replace H := Option.bind_eq_some_iff.mp H
                      obtain ⟨t620, A420, H⟩ := H
                      replace H : (if x8_2 = true then (laws_FnCan.l0 k2 t602 t603 t604 t607 t620 true (wrap64 (x9_2 + 1))) else (if x9_2 = t604 then ((laws_wReach.f k2 t602 t603 (⟨#[103, 111, 111, 100]⟩ : ByteArray)).bind fun t621 => (if t621 = true then (if x9_2 = 1 then (laws_FnCan.l0 k2 t602 t603 t604 t607 t620 true (wrap64 (x9_2 + 1))) else ((laws_wReach.f k2 t602 t603 (⟨#[115, 97, 118, 101, 100]⟩ : ByteArray)).bind fun t622 => (if t622 = true then (if x9_2 = 2 then (laws_FnCan.l0 k2 t602 t603 t604 t607 t620 true (wrap64 (x9_2 + 1))) else ((laws_wReach.f k2 t602 t603 (⟨#[115, 99, 114, 97, 112, 112, 101, 100]⟩ : ByteArray)).bind fun t623 => (if t623 = true then (laws_FnCan.l0 k2 t602 t603 t604 t607 t620 (x9_2 == 3) (wrap64 (x9_2 + 1))) else (laws_FnCan.l0 k2 t602 t603 t604 t607 t620 false (wrap64 (x9_2 + 1)))))) else ((laws_wReach.f k2 t602 t603 (⟨#[115, 99, 114, 97, 112, 112, 101, 100]⟩ : ByteArray)).bind fun t624 => (if t624 = true then (laws_FnCan.l0 k2 t602 t603 t604 t607 t620 (x9_2 == 3) (wrap64 (x9_2 + 1))) else (laws_FnCan.l0 k2 t602 t603 t604 t607 t620 false (wrap64 (x9_2 + 1)))))))) else ((laws_wReach.f k2 t602 t603 (⟨#[115, 97, 118, 101, 100]⟩ : ByteArray)).bind fun t625 => (if t625 = true then (if x9_2 = 2 then (laws_FnCan.l0 k2 t602 t603 t604 t607 t620 true (wrap64 (x9_2 + 1))) else ((laws_wReach.f k2 t602 t603 (⟨#[115, 99, 114, 97, 112, 112, 101, 100]⟩ : ByteArray)).bind fun t626 => (if t626 = true then (laws_FnCan.l0 k2 t602 t603 t604 t607 t620 (x9_2 == 3) (wrap64 (x9_2 + 1))) else (laws_FnCan.l0 k2 t602 t603 t604 t607 t620 false (wrap64 (x9_2 + 1)))))) else ((laws_wReach.f k2 t602 t603 (⟨#[115, 99, 114, 97, 112, 112, 101, 100]⟩ : ByteArray)).bind fun t627 => (if t627 = true then (laws_FnCan.l0 k2 t602 t603 t604 t607 t620 (x9_2 == 3) (wrap64 (x9_2 + 1))) else (laws_FnCan.l0 k2 t602 t603 t604 t607 t620 false (wrap64 (x9_2 + 1))))))))) else (laws_FnCan.l0 k2 t602 t603 t604 t607 t620 false (wrap64 (x9_2 + 1))))) = some r := H
                      have A42 := Aside0.mk A420
                      clear A420
                      by_cases c43 : x8_2 = true
                      · subst c43
                        have H1 : (laws_FnCan.l0 k2 t602 t603 t604 t607 t620 true (wrap64 (x9_2 + 1))) = some r := by rw [if_pos rfl] at H; exact H
                        clear H
                        have H := H1
                        clear H1
                        have H' := Aside0.mk H
                        clear H
                        have p619 : 0 ≤ (0 : Int) := (by omega)
                        have q619 : 0 < (t602.length : Int) := of_decide_eq_true (by first | (with_reducible assumption) | assumption)
                        obtain ⟨ad619, e619, hx619_0, hx619_1, hx619_2, hx619_3, hx619_4, hx619_5, hx619_6, hx619_7⟩ := at_T39 (Kd.R_reads' HO_3.out).2.2 0 p619 q619
                        cases e619
                        have qi619 : (0 < t602.length) = True := eq_true (by omega)
                        (try rw [show ((0 : Int)).toNat = 0 from rfl] at hx619_0)
                        (try rw [show 0 * 8 = 0 from rfl] at hx619_0)
                        (try rw [Addr.add_zero'] at hx619_0)
                        (try rw [show ((0 : Int)).toNat = 0 from rfl] at hx619_1)
                        (try rw [show 0 * 8 = 0 from rfl] at hx619_1)
                        (try rw [Addr.add_zero'] at hx619_1)
                        (try rw [show ((0 : Int)).toNat = 0 from rfl] at hx619_2)
                        (try rw [show 0 * 8 = 0 from rfl] at hx619_2)
                        (try rw [Addr.add_zero'] at hx619_2)
                        (try rw [show ((0 : Int)).toNat = 0 from rfl] at hx619_3)
                        (try rw [show 0 * 8 = 0 from rfl] at hx619_3)
                        (try rw [Addr.add_zero'] at hx619_3)
                        (try rw [show ((0 : Int)).toNat = 0 from rfl] at hx619_4)
                        (try rw [show 0 * 8 = 0 from rfl] at hx619_4)
                        (try rw [Addr.add_zero'] at hx619_4)
                        (try rw [show ((0 : Int)).toNat = 0 from rfl] at hx619_5)
                        (try rw [show 0 * 8 = 0 from rfl] at hx619_5)
                        (try rw [Addr.add_zero'] at hx619_5)
                        (try rw [show ((0 : Int)).toNat = 0 from rfl] at hx619_6)
                        (try rw [show 0 * 8 = 0 from rfl] at hx619_6)
                        (try rw [Addr.add_zero'] at hx619_6)
                        (try rw [show ((0 : Int)).toNat = 0 from rfl] at hx619_7)
                        (try rw [show 0 * 8 = 0 from rfl] at hx619_7)
                        (try rw [Addr.add_zero'] at hx619_7)
                        replace p619 := eq_true p619
                        replace q619 := eq_true q619
                        go_wp2_with (first | (go_at_call 25; (with_reducible refine (impl_RecCan.calls k2 _ _ t602 ((rd_T39 t602 0).f0) x9_2 t620 _ ?side1 ?side2 A42.out).mono ?_); (case side1 => exact cx (Kd.R_reads' HO_3.out).2.2); (case side2 => exact (Kd.R_reads' HO_3.out).2.1); rintro e w44 ⟨rfl, hb⟩; have n0_ := Aside0.mk (Kd.R_below (rx HO_3.out) hb); have n1_ := bs HB hb; clear HO_3; clear HB; have HO_3 := n0_; have HB := n1_; clear n0_ n1_; (try clear hb); (try clear hb2); (try clear hk); (try clear hi)))
                        go_roundg k2
                        case measure => have := HJ4.out; have := HK2.out; omega
                        case rel => exact ⟨(t620), (true), (wrap64 (x9_2 + 1)), (by first | rfl | (simp; done) | (simp [*]; done)), (by first | rfl | (simp; done) | (simp [*]; done)), (by first | rfl | (simp; done) | (simp [*]; done)), H', ⟨by have := HJ4.out; have := HK2.out; omega⟩, ⟨by refine rx ?_; exact HO_3.out⟩, (hbw HB)⟩
                      · replace c43 := Bool.eq_false_iff.mpr c43
                        subst c43
                        have H1 : (if x9_2 = t604 then ((laws_wReach.f k2 t602 t603 (⟨#[103, 111, 111, 100]⟩ : ByteArray)).bind fun t621 => (if t621 = true then (if x9_2 = 1 then (laws_FnCan.l0 k2 t602 t603 t604 t607 t620 true (wrap64 (x9_2 + 1))) else ((laws_wReach.f k2 t602 t603 (⟨#[115, 97, 118, 101, 100]⟩ : ByteArray)).bind fun t622 => (if t622 = true then (if x9_2 = 2 then (laws_FnCan.l0 k2 t602 t603 t604 t607 t620 true (wrap64 (x9_2 + 1))) else ((laws_wReach.f k2 t602 t603 (⟨#[115, 99, 114, 97, 112, 112, 101, 100]⟩ : ByteArray)).bind fun t623 => (if t623 = true then (laws_FnCan.l0 k2 t602 t603 t604 t607 t620 (x9_2 == 3) (wrap64 (x9_2 + 1))) else (laws_FnCan.l0 k2 t602 t603 t604 t607 t620 false (wrap64 (x9_2 + 1)))))) else ((laws_wReach.f k2 t602 t603 (⟨#[115, 99, 114, 97, 112, 112, 101, 100]⟩ : ByteArray)).bind fun t624 => (if t624 = true then (laws_FnCan.l0 k2 t602 t603 t604 t607 t620 (x9_2 == 3) (wrap64 (x9_2 + 1))) else (laws_FnCan.l0 k2 t602 t603 t604 t607 t620 false (wrap64 (x9_2 + 1)))))))) else ((laws_wReach.f k2 t602 t603 (⟨#[115, 97, 118, 101, 100]⟩ : ByteArray)).bind fun t625 => (if t625 = true then (if x9_2 = 2 then (laws_FnCan.l0 k2 t602 t603 t604 t607 t620 true (wrap64 (x9_2 + 1))) else ((laws_wReach.f k2 t602 t603 (⟨#[115, 99, 114, 97, 112, 112, 101, 100]⟩ : ByteArray)).bind fun t626 => (if t626 = true then (laws_FnCan.l0 k2 t602 t603 t604 t607 t620 (x9_2 == 3) (wrap64 (x9_2 + 1))) else (laws_FnCan.l0 k2 t602 t603 t604 t607 t620 false (wrap64 (x9_2 + 1)))))) else ((laws_wReach.f k2 t602 t603 (⟨#[115, 99, 114, 97, 112, 112, 101, 100]⟩ : ByteArray)).bind fun t627 => (if t627 = true then (laws_FnCan.l0 k2 t602 t603 t604 t607 t620 (x9_2 == 3) (wrap64 (x9_2 + 1))) else (laws_FnCan.l0 k2 t602 t603 t604 t607 t620 false (wrap64 (x9_2 + 1))))))))) else (laws_FnCan.l0 k2 t602 t603 t604 t607 t620 false (wrap64 (x9_2 + 1)))) = some r := by rw [if_neg (show ¬ (false = true) by decide)] at H; exact H
                        clear H
                        have H := H1
                        clear H1
                        by_cases c45 : x9_2 = t604
                        · rw [if_pos c45] at H
                          have c45b0 : (x9_2 == t604) = true := beq_iff_eq.mpr c45
                          have c45b1 : (x9_2 != t604) = false := bne_eq_false_iff_eq.mpr c45
                          clear c45
                          replace H := Option.bind_eq_some_iff.mp H
                          obtain ⟨t621, A460, H⟩ := H
                          replace H : (if t621 = true then (if x9_2 = 1 then (laws_FnCan.l0 k2 t602 t603 t604 t607 t620 true (wrap64 (x9_2 + 1))) else ((laws_wReach.f k2 t602 t603 (⟨#[115, 97, 118, 101, 100]⟩ : ByteArray)).bind fun t622 => (if t622 = true then (if x9_2 = 2 then (laws_FnCan.l0 k2 t602 t603 t604 t607 t620 true (wrap64 (x9_2 + 1))) else ((laws_wReach.f k2 t602 t603 (⟨#[115, 99, 114, 97, 112, 112, 101, 100]⟩ : ByteArray)).bind fun t623 => (if t623 = true then (laws_FnCan.l0 k2 t602 t603 t604 t607 t620 (x9_2 == 3) (wrap64 (x9_2 + 1))) else (laws_FnCan.l0 k2 t602 t603 t604 t607 t620 false (wrap64 (x9_2 + 1)))))) else ((laws_wReach.f k2 t602 t603 (⟨#[115, 99, 114, 97, 112, 112, 101, 100]⟩ : ByteArray)).bind fun t624 => (if t624 = true then (laws_FnCan.l0 k2 t602 t603 t604 t607 t620 (x9_2 == 3) (wrap64 (x9_2 + 1))) else (laws_FnCan.l0 k2 t602 t603 t604 t607 t620 false (wrap64 (x9_2 + 1)))))))) else ((laws_wReach.f k2 t602 t603 (⟨#[115, 97, 118, 101, 100]⟩ : ByteArray)).bind fun t625 => (if t625 = true then (if x9_2 = 2 then (laws_FnCan.l0 k2 t602 t603 t604 t607 t620 true (wrap64 (x9_2 + 1))) else ((laws_wReach.f k2 t602 t603 (⟨#[115, 99, 114, 97, 112, 112, 101, 100]⟩ : ByteArray)).bind fun t626 => (if t626 = true then (laws_FnCan.l0 k2 t602 t603 t604 t607 t620 (x9_2 == 3) (wrap64 (x9_2 + 1))) else (laws_FnCan.l0 k2 t602 t603 t604 t607 t620 false (wrap64 (x9_2 + 1)))))) else ((laws_wReach.f k2 t602 t603 (⟨#[115, 99, 114, 97, 112, 112, 101, 100]⟩ : ByteArray)).bind fun t627 => (if t627 = true then (laws_FnCan.l0 k2 t602 t603 t604 t607 t620 (x9_2 == 3) (wrap64 (x9_2 + 1))) else (laws_FnCan.l0 k2 t602 t603 t604 t607 t620 false (wrap64 (x9_2 + 1)))))))) = some r := H
                          have A46 := Aside0.mk A460
                          clear A460
                          by_cases c47 : t621 = true
                          · subst c47
                            have H1 : (if x9_2 = 1 then (laws_FnCan.l0 k2 t602 t603 t604 t607 t620 true (wrap64 (x9_2 + 1))) else ((laws_wReach.f k2 t602 t603 (⟨#[115, 97, 118, 101, 100]⟩ : ByteArray)).bind fun t622 => (if t622 = true then (if x9_2 = 2 then (laws_FnCan.l0 k2 t602 t603 t604 t607 t620 true (wrap64 (x9_2 + 1))) else ((laws_wReach.f k2 t602 t603 (⟨#[115, 99, 114, 97, 112, 112, 101, 100]⟩ : ByteArray)).bind fun t623 => (if t623 = true then (laws_FnCan.l0 k2 t602 t603 t604 t607 t620 (x9_2 == 3) (wrap64 (x9_2 + 1))) else (laws_FnCan.l0 k2 t602 t603 t604 t607 t620 false (wrap64 (x9_2 + 1)))))) else ((laws_wReach.f k2 t602 t603 (⟨#[115, 99, 114, 97, 112, 112, 101, 100]⟩ : ByteArray)).bind fun t624 => (if t624 = true then (laws_FnCan.l0 k2 t602 t603 t604 t607 t620 (x9_2 == 3) (wrap64 (x9_2 + 1))) else (laws_FnCan.l0 k2 t602 t603 t604 t607 t620 false (wrap64 (x9_2 + 1)))))))) = some r := by rw [if_pos rfl] at H; exact H
                            clear H
                            have H := H1
                            clear H1
                            by_cases c48 : x9_2 = 1
                            · rw [if_pos c48] at H
                              have c48b0 : (x9_2 == 1) = true := beq_iff_eq.mpr c48
                              have c48b1 : (x9_2 != 1) = false := bne_eq_false_iff_eq.mpr c48
                              clear c48
                              have H' := Aside0.mk H
                              clear H
                              have p619 : 0 ≤ (0 : Int) := (by omega)
                              have q619 : 0 < (t602.length : Int) := of_decide_eq_true (by first | (with_reducible assumption) | assumption)
                              obtain ⟨ad619, e619, hx619_0, hx619_1, hx619_2, hx619_3, hx619_4, hx619_5, hx619_6, hx619_7⟩ := at_T39 (Kd.R_reads' HO_3.out).2.2 0 p619 q619
                              cases e619
                              have qi619 : (0 < t602.length) = True := eq_true (by omega)
                              (try rw [show ((0 : Int)).toNat = 0 from rfl] at hx619_0)
                              (try rw [show 0 * 8 = 0 from rfl] at hx619_0)
                              (try rw [Addr.add_zero'] at hx619_0)
                              (try rw [show ((0 : Int)).toNat = 0 from rfl] at hx619_1)
                              (try rw [show 0 * 8 = 0 from rfl] at hx619_1)
                              (try rw [Addr.add_zero'] at hx619_1)
                              (try rw [show ((0 : Int)).toNat = 0 from rfl] at hx619_2)
                              (try rw [show 0 * 8 = 0 from rfl] at hx619_2)
                              (try rw [Addr.add_zero'] at hx619_2)
                              (try rw [show ((0 : Int)).toNat = 0 from rfl] at hx619_3)
                              (try rw [show 0 * 8 = 0 from rfl] at hx619_3)
                              (try rw [Addr.add_zero'] at hx619_3)
                              (try rw [show ((0 : Int)).toNat = 0 from rfl] at hx619_4)
                              (try rw [show 0 * 8 = 0 from rfl] at hx619_4)
                              (try rw [Addr.add_zero'] at hx619_4)
                              (try rw [show ((0 : Int)).toNat = 0 from rfl] at hx619_5)
                              (try rw [show 0 * 8 = 0 from rfl] at hx619_5)
                              (try rw [Addr.add_zero'] at hx619_5)
                              (try rw [show ((0 : Int)).toNat = 0 from rfl] at hx619_6)
                              (try rw [show 0 * 8 = 0 from rfl] at hx619_6)
                              (try rw [Addr.add_zero'] at hx619_6)
                              (try rw [show ((0 : Int)).toNat = 0 from rfl] at hx619_7)
                              (try rw [show 0 * 8 = 0 from rfl] at hx619_7)
                              (try rw [Addr.add_zero'] at hx619_7)
                              replace p619 := eq_true p619
                              replace q619 := eq_true q619
                              go_wp2_with (first | (go_at_call 25; (with_reducible refine (impl_RecCan.calls k2 _ _ t602 ((rd_T39 t602 0).f0) x9_2 t620 _ ?side1 ?side2 A42.out).mono ?_); (case side1 => exact cx (Kd.R_reads' HO_3.out).2.2); (case side2 => exact (Kd.R_reads' HO_3.out).2.1); rintro e w49 ⟨rfl, hb⟩; have n0_ := Aside0.mk (Kd.R_below (rx HO_3.out) hb); have n1_ := bs HB hb; clear HO_3; clear HB; have HO_3 := n0_; have HB := n1_; clear n0_ n1_; (try clear hb); (try clear hb2); (try clear hk); (try clear hi)) | (go_at_call 45; (with_reducible refine (laws_wReach.calls k2 _ _ t602 t603 (⟨#[103, 111, 111, 100]⟩ : ByteArray) true _ ?side1 ?side2 A46.out).mono ?_); (case side1 => exact cx (Kd.R_reads' HO_3.out).2.2); (case side2 => exact (Kd.R_reads' HO_3.out).2.1); rintro e w' ⟨rfl, ⟨nd, rfl⟩⟩))
                              go_roundg k2
                              case measure => have := HJ4.out; have := HK2.out; omega
                              case rel => exact ⟨(t620), (true), (wrap64 (x9_2 + 1)), (by first | rfl | (simp; done) | (simp [*]; done)), (by first | rfl | (simp; done) | (simp [*]; done)), (by first | rfl | (simp; done) | (simp [*]; done)), H', ⟨by have := HJ4.out; have := HK2.out; omega⟩, ⟨by refine rx ?_; exact HO_3.out⟩, (hbw HB)⟩
                            · rw [if_neg c48] at H
                              have c48b0 : (x9_2 == 1) = false := beq_eq_false_iff_ne.mpr c48
                              have c48b1 : (x9_2 != 1) = true := bne_iff_ne.mpr c48
                              replace H := Option.bind_eq_some_iff.mp H
                              obtain ⟨t622, A500, H⟩ := H
                              replace H : (if t622 = true then (if x9_2 = 2 then (laws_FnCan.l0 k2 t602 t603 t604 t607 t620 true (wrap64 (x9_2 + 1))) else ((laws_wReach.f k2 t602 t603 (⟨#[115, 99, 114, 97, 112, 112, 101, 100]⟩ : ByteArray)).bind fun t623 => (if t623 = true then (laws_FnCan.l0 k2 t602 t603 t604 t607 t620 (x9_2 == 3) (wrap64 (x9_2 + 1))) else (laws_FnCan.l0 k2 t602 t603 t604 t607 t620 false (wrap64 (x9_2 + 1)))))) else ((laws_wReach.f k2 t602 t603 (⟨#[115, 99, 114, 97, 112, 112, 101, 100]⟩ : ByteArray)).bind fun t624 => (if t624 = true then (laws_FnCan.l0 k2 t602 t603 t604 t607 t620 (x9_2 == 3) (wrap64 (x9_2 + 1))) else (laws_FnCan.l0 k2 t602 t603 t604 t607 t620 false (wrap64 (x9_2 + 1)))))) = some r := H
                              have A50 := Aside0.mk A500
                              clear A500
                              by_cases c51 : t622 = true
                              · subst c51
                                have H1 : (if x9_2 = 2 then (laws_FnCan.l0 k2 t602 t603 t604 t607 t620 true (wrap64 (x9_2 + 1))) else ((laws_wReach.f k2 t602 t603 (⟨#[115, 99, 114, 97, 112, 112, 101, 100]⟩ : ByteArray)).bind fun t623 => (if t623 = true then (laws_FnCan.l0 k2 t602 t603 t604 t607 t620 (x9_2 == 3) (wrap64 (x9_2 + 1))) else (laws_FnCan.l0 k2 t602 t603 t604 t607 t620 false (wrap64 (x9_2 + 1)))))) = some r := by rw [if_pos rfl] at H; exact H
                                clear H
                                have H := H1
                                clear H1
                                by_cases c52 : x9_2 = 2
                                · rw [if_pos c52] at H
                                  have c52b0 : (x9_2 == 2) = true := beq_iff_eq.mpr c52
                                  have c52b1 : (x9_2 != 2) = false := bne_eq_false_iff_eq.mpr c52
                                  clear c52
                                  have H' := Aside0.mk H
                                  clear H
                                  have p619 : 0 ≤ (0 : Int) := (by omega)
                                  have q619 : 0 < (t602.length : Int) := of_decide_eq_true (by first | (with_reducible assumption) | assumption)
                                  obtain ⟨ad619, e619, hx619_0, hx619_1, hx619_2, hx619_3, hx619_4, hx619_5, hx619_6, hx619_7⟩ := at_T39 (Kd.R_reads' HO_3.out).2.2 0 p619 q619
                                  cases e619
                                  have qi619 : (0 < t602.length) = True := eq_true (by omega)
                                  (try rw [show ((0 : Int)).toNat = 0 from rfl] at hx619_0)
                                  (try rw [show 0 * 8 = 0 from rfl] at hx619_0)
                                  (try rw [Addr.add_zero'] at hx619_0)
                                  (try rw [show ((0 : Int)).toNat = 0 from rfl] at hx619_1)
                                  (try rw [show 0 * 8 = 0 from rfl] at hx619_1)
                                  (try rw [Addr.add_zero'] at hx619_1)
                                  (try rw [show ((0 : Int)).toNat = 0 from rfl] at hx619_2)
                                  (try rw [show 0 * 8 = 0 from rfl] at hx619_2)
                                  (try rw [Addr.add_zero'] at hx619_2)
                                  (try rw [show ((0 : Int)).toNat = 0 from rfl] at hx619_3)
                                  (try rw [show 0 * 8 = 0 from rfl] at hx619_3)
                                  (try rw [Addr.add_zero'] at hx619_3)
                                  (try rw [show ((0 : Int)).toNat = 0 from rfl] at hx619_4)
                                  (try rw [show 0 * 8 = 0 from rfl] at hx619_4)
                                  (try rw [Addr.add_zero'] at hx619_4)
                                  (try rw [show ((0 : Int)).toNat = 0 from rfl] at hx619_5)
                                  (try rw [show 0 * 8 = 0 from rfl] at hx619_5)
                                  (try rw [Addr.add_zero'] at hx619_5)
                                  (try rw [show ((0 : Int)).toNat = 0 from rfl] at hx619_6)
                                  (try rw [show 0 * 8 = 0 from rfl] at hx619_6)
                                  (try rw [Addr.add_zero'] at hx619_6)
                                  (try rw [show ((0 : Int)).toNat = 0 from rfl] at hx619_7)
                                  (try rw [show 0 * 8 = 0 from rfl] at hx619_7)
                                  (try rw [Addr.add_zero'] at hx619_7)
                                  replace p619 := eq_true p619
                                  replace q619 := eq_true q619
                                  go_wp2_with (first | (go_at_call 25; (with_reducible refine (impl_RecCan.calls k2 _ _ t602 ((rd_T39 t602 0).f0) x9_2 t620 _ ?side1 ?side2 A42.out).mono ?_); (case side1 => exact cx (Kd.R_reads' HO_3.out).2.2); (case side2 => exact (Kd.R_reads' HO_3.out).2.1); rintro e w53 ⟨rfl, hb⟩; have n0_ := Aside0.mk (Kd.R_below (rx HO_3.out) hb); have n1_ := bs HB hb; clear HO_3; clear HB; have HO_3 := n0_; have HB := n1_; clear n0_ n1_; (try clear hb); (try clear hb2); (try clear hk); (try clear hi)) | (go_at_call 45; (with_reducible refine (laws_wReach.calls k2 _ _ t602 t603 (⟨#[103, 111, 111, 100]⟩ : ByteArray) true _ ?side1 ?side2 A46.out).mono ?_); (case side1 => exact cx (Kd.R_reads' HO_3.out).2.2); (case side2 => exact (Kd.R_reads' HO_3.out).2.1); rintro e w' ⟨rfl, ⟨nd, rfl⟩⟩) | (go_at_call 45; (with_reducible refine (laws_wReach.calls k2 _ _ t602 t603 (⟨#[115, 97, 118, 101, 100]⟩ : ByteArray) true _ ?side1 ?side2 A50.out).mono ?_); (case side1 => exact cx (Kd.R_reads' HO_3.out).2.2); (case side2 => exact (Kd.R_reads' HO_3.out).2.1); rintro e w' ⟨rfl, ⟨nd, rfl⟩⟩))
                                  go_roundg k2
                                  case measure => have := HJ4.out; have := HK2.out; omega
                                  case rel => exact ⟨(t620), (true), (wrap64 (x9_2 + 1)), (by first | rfl | (simp; done) | (simp [*]; done)), (by first | rfl | (simp; done) | (simp [*]; done)), (by first | rfl | (simp; done) | (simp [*]; done)), H', ⟨by have := HJ4.out; have := HK2.out; omega⟩, ⟨by refine rx ?_; exact HO_3.out⟩, (hbw HB)⟩
                                · rw [if_neg c52] at H
                                  have c52b0 : (x9_2 == 2) = false := beq_eq_false_iff_ne.mpr c52
                                  have c52b1 : (x9_2 != 2) = true := bne_iff_ne.mpr c52
                                  replace H := Option.bind_eq_some_iff.mp H
                                  obtain ⟨t623, A540, H⟩ := H
                                  replace H : (if t623 = true then (laws_FnCan.l0 k2 t602 t603 t604 t607 t620 (x9_2 == 3) (wrap64 (x9_2 + 1))) else (laws_FnCan.l0 k2 t602 t603 t604 t607 t620 false (wrap64 (x9_2 + 1)))) = some r := H
                                  have A54 := Aside0.mk A540
                                  clear A540
                                  by_cases c55 : t623 = true
                                  · subst c55
                                    have H1 : (laws_FnCan.l0 k2 t602 t603 t604 t607 t620 (x9_2 == 3) (wrap64 (x9_2 + 1))) = some r := by rw [if_pos rfl] at H; exact H
                                    clear H
                                    have H := H1
                                    clear H1
                                    have H' := Aside0.mk H
                                    clear H
                                    have p619 : 0 ≤ (0 : Int) := (by omega)
                                    have q619 : 0 < (t602.length : Int) := of_decide_eq_true (by first | (with_reducible assumption) | assumption)
                                    obtain ⟨ad619, e619, hx619_0, hx619_1, hx619_2, hx619_3, hx619_4, hx619_5, hx619_6, hx619_7⟩ := at_T39 (Kd.R_reads' HO_3.out).2.2 0 p619 q619
                                    cases e619
                                    have qi619 : (0 < t602.length) = True := eq_true (by omega)
                                    (try rw [show ((0 : Int)).toNat = 0 from rfl] at hx619_0)
                                    (try rw [show 0 * 8 = 0 from rfl] at hx619_0)
                                    (try rw [Addr.add_zero'] at hx619_0)
                                    (try rw [show ((0 : Int)).toNat = 0 from rfl] at hx619_1)
                                    (try rw [show 0 * 8 = 0 from rfl] at hx619_1)
                                    (try rw [Addr.add_zero'] at hx619_1)
                                    (try rw [show ((0 : Int)).toNat = 0 from rfl] at hx619_2)
                                    (try rw [show 0 * 8 = 0 from rfl] at hx619_2)
                                    (try rw [Addr.add_zero'] at hx619_2)
                                    (try rw [show ((0 : Int)).toNat = 0 from rfl] at hx619_3)
                                    (try rw [show 0 * 8 = 0 from rfl] at hx619_3)
                                    (try rw [Addr.add_zero'] at hx619_3)
                                    (try rw [show ((0 : Int)).toNat = 0 from rfl] at hx619_4)
                                    (try rw [show 0 * 8 = 0 from rfl] at hx619_4)
                                    (try rw [Addr.add_zero'] at hx619_4)
                                    (try rw [show ((0 : Int)).toNat = 0 from rfl] at hx619_5)
                                    (try rw [show 0 * 8 = 0 from rfl] at hx619_5)
                                    (try rw [Addr.add_zero'] at hx619_5)
                                    (try rw [show ((0 : Int)).toNat = 0 from rfl] at hx619_6)
                                    (try rw [show 0 * 8 = 0 from rfl] at hx619_6)
                                    (try rw [Addr.add_zero'] at hx619_6)
                                    (try rw [show ((0 : Int)).toNat = 0 from rfl] at hx619_7)
                                    (try rw [show 0 * 8 = 0 from rfl] at hx619_7)
                                    (try rw [Addr.add_zero'] at hx619_7)
                                    replace p619 := eq_true p619
                                    replace q619 := eq_true q619
                                    go_wp2_with (first | (go_at_call 25; (with_reducible refine (impl_RecCan.calls k2 _ _ t602 ((rd_T39 t602 0).f0) x9_2 t620 _ ?side1 ?side2 A42.out).mono ?_); (case side1 => exact cx (Kd.R_reads' HO_3.out).2.2); (case side2 => exact (Kd.R_reads' HO_3.out).2.1); rintro e w56 ⟨rfl, hb⟩; have n0_ := Aside0.mk (Kd.R_below (rx HO_3.out) hb); have n1_ := bs HB hb; clear HO_3; clear HB; have HO_3 := n0_; have HB := n1_; clear n0_ n1_; (try clear hb); (try clear hb2); (try clear hk); (try clear hi)) | (go_at_call 45; (with_reducible refine (laws_wReach.calls k2 _ _ t602 t603 (⟨#[103, 111, 111, 100]⟩ : ByteArray) true _ ?side1 ?side2 A46.out).mono ?_); (case side1 => exact cx (Kd.R_reads' HO_3.out).2.2); (case side2 => exact (Kd.R_reads' HO_3.out).2.1); rintro e w' ⟨rfl, ⟨nd, rfl⟩⟩) | (go_at_call 45; (with_reducible refine (laws_wReach.calls k2 _ _ t602 t603 (⟨#[115, 97, 118, 101, 100]⟩ : ByteArray) true _ ?side1 ?side2 A50.out).mono ?_); (case side1 => exact cx (Kd.R_reads' HO_3.out).2.2); (case side2 => exact (Kd.R_reads' HO_3.out).2.1); rintro e w' ⟨rfl, ⟨nd, rfl⟩⟩) | (go_at_call 45; (with_reducible refine (laws_wReach.calls k2 _ _ t602 t603 (⟨#[115, 99, 114, 97, 112, 112, 101, 100]⟩ : ByteArray) true _ ?side1 ?side2 A54.out).mono ?_); (case side1 => exact cx (Kd.R_reads' HO_3.out).2.2); (case side2 => exact (Kd.R_reads' HO_3.out).2.1); rintro e w' ⟨rfl, ⟨nd, rfl⟩⟩))
                                    go_roundg k2
                                    case measure => have := HJ4.out; have := HK2.out; omega
                                    case rel => exact ⟨(t620), ((x9_2 == 3)), (wrap64 (x9_2 + 1)), (by first | rfl | (simp; done) | (simp [*]; done)), (by first | rfl | (simp; done) | (simp [*]; done)), (by first | rfl | (simp; done) | (simp [*]; done)), H', ⟨by have := HJ4.out; have := HK2.out; omega⟩, ⟨by refine rx ?_; exact HO_3.out⟩, (hbw HB)⟩
                                  · replace c55 := Bool.eq_false_iff.mpr c55
                                    subst c55
                                    have H1 : (laws_FnCan.l0 k2 t602 t603 t604 t607 t620 false (wrap64 (x9_2 + 1))) = some r := by rw [if_neg (show ¬ (false = true) by decide)] at H; exact H
                                    clear H
                                    have H := H1
                                    clear H1
                                    have H' := Aside0.mk H
                                    clear H
                                    have p619 : 0 ≤ (0 : Int) := (by omega)
                                    have q619 : 0 < (t602.length : Int) := of_decide_eq_true (by first | (with_reducible assumption) | assumption)
                                    obtain ⟨ad619, e619, hx619_0, hx619_1, hx619_2, hx619_3, hx619_4, hx619_5, hx619_6, hx619_7⟩ := at_T39 (Kd.R_reads' HO_3.out).2.2 0 p619 q619
                                    cases e619
                                    have qi619 : (0 < t602.length) = True := eq_true (by omega)
                                    (try rw [show ((0 : Int)).toNat = 0 from rfl] at hx619_0)
                                    (try rw [show 0 * 8 = 0 from rfl] at hx619_0)
                                    (try rw [Addr.add_zero'] at hx619_0)
                                    (try rw [show ((0 : Int)).toNat = 0 from rfl] at hx619_1)
                                    (try rw [show 0 * 8 = 0 from rfl] at hx619_1)
                                    (try rw [Addr.add_zero'] at hx619_1)
                                    (try rw [show ((0 : Int)).toNat = 0 from rfl] at hx619_2)
                                    (try rw [show 0 * 8 = 0 from rfl] at hx619_2)
                                    (try rw [Addr.add_zero'] at hx619_2)
                                    (try rw [show ((0 : Int)).toNat = 0 from rfl] at hx619_3)
                                    (try rw [show 0 * 8 = 0 from rfl] at hx619_3)
                                    (try rw [Addr.add_zero'] at hx619_3)
                                    (try rw [show ((0 : Int)).toNat = 0 from rfl] at hx619_4)
                                    (try rw [show 0 * 8 = 0 from rfl] at hx619_4)
                                    (try rw [Addr.add_zero'] at hx619_4)
                                    (try rw [show ((0 : Int)).toNat = 0 from rfl] at hx619_5)
                                    (try rw [show 0 * 8 = 0 from rfl] at hx619_5)
                                    (try rw [Addr.add_zero'] at hx619_5)
                                    (try rw [show ((0 : Int)).toNat = 0 from rfl] at hx619_6)
                                    (try rw [show 0 * 8 = 0 from rfl] at hx619_6)
                                    (try rw [Addr.add_zero'] at hx619_6)
                                    (try rw [show ((0 : Int)).toNat = 0 from rfl] at hx619_7)
                                    (try rw [show 0 * 8 = 0 from rfl] at hx619_7)
                                    (try rw [Addr.add_zero'] at hx619_7)
                                    replace p619 := eq_true p619
                                    replace q619 := eq_true q619
                                    go_wp2_with (first | (go_at_call 25; (with_reducible refine (impl_RecCan.calls k2 _ _ t602 ((rd_T39 t602 0).f0) x9_2 t620 _ ?side1 ?side2 A42.out).mono ?_); (case side1 => exact cx (Kd.R_reads' HO_3.out).2.2); (case side2 => exact (Kd.R_reads' HO_3.out).2.1); rintro e w57 ⟨rfl, hb⟩; have n0_ := Aside0.mk (Kd.R_below (rx HO_3.out) hb); have n1_ := bs HB hb; clear HO_3; clear HB; have HO_3 := n0_; have HB := n1_; clear n0_ n1_; (try clear hb); (try clear hb2); (try clear hk); (try clear hi)) | (go_at_call 45; (with_reducible refine (laws_wReach.calls k2 _ _ t602 t603 (⟨#[103, 111, 111, 100]⟩ : ByteArray) true _ ?side1 ?side2 A46.out).mono ?_); (case side1 => exact cx (Kd.R_reads' HO_3.out).2.2); (case side2 => exact (Kd.R_reads' HO_3.out).2.1); rintro e w' ⟨rfl, ⟨nd, rfl⟩⟩) | (go_at_call 45; (with_reducible refine (laws_wReach.calls k2 _ _ t602 t603 (⟨#[115, 97, 118, 101, 100]⟩ : ByteArray) true _ ?side1 ?side2 A50.out).mono ?_); (case side1 => exact cx (Kd.R_reads' HO_3.out).2.2); (case side2 => exact (Kd.R_reads' HO_3.out).2.1); rintro e w' ⟨rfl, ⟨nd, rfl⟩⟩) | (go_at_call 45; (with_reducible refine (laws_wReach.calls k2 _ _ t602 t603 (⟨#[115, 99, 114, 97, 112, 112, 101, 100]⟩ : ByteArray) false _ ?side1 ?side2 A54.out).mono ?_); (case side1 => exact cx (Kd.R_reads' HO_3.out).2.2); (case side2 => exact (Kd.R_reads' HO_3.out).2.1); rintro e w' ⟨rfl, ⟨nd, rfl⟩⟩))
                                    go_roundg k2
                                    case measure => have := HJ4.out; have := HK2.out; omega
                                    case rel => exact ⟨(t620), (false), (wrap64 (x9_2 + 1)), (by first | rfl | (simp; done) | (simp [*]; done)), (by first | rfl | (simp; done) | (simp [*]; done)), (by first | rfl | (simp; done) | (simp [*]; done)), H', ⟨by have := HJ4.out; have := HK2.out; omega⟩, ⟨by refine rx ?_; exact HO_3.out⟩, (hbw HB)⟩
                              · replace c51 := Bool.eq_false_iff.mpr c51
                                subst c51
                                have H1 : ((laws_wReach.f k2 t602 t603 (⟨#[115, 99, 114, 97, 112, 112, 101, 100]⟩ : ByteArray)).bind fun t624 => (if t624 = true then (laws_FnCan.l0 k2 t602 t603 t604 t607 t620 (x9_2 == 3) (wrap64 (x9_2 + 1))) else (laws_FnCan.l0 k2 t602 t603 t604 t607 t620 false (wrap64 (x9_2 + 1))))) = some r := by rw [if_neg (show ¬ (false = true) by decide)] at H; exact H
                                clear H
                                have H := H1
                                clear H1
                                replace H := Option.bind_eq_some_iff.mp H
                                obtain ⟨t624, A580, H⟩ := H
                                replace H : (if t624 = true then (laws_FnCan.l0 k2 t602 t603 t604 t607 t620 (x9_2 == 3) (wrap64 (x9_2 + 1))) else (laws_FnCan.l0 k2 t602 t603 t604 t607 t620 false (wrap64 (x9_2 + 1)))) = some r := H
                                have A58 := Aside0.mk A580
                                clear A580
                                by_cases c59 : t624 = true
                                · subst c59
                                  have H1 : (laws_FnCan.l0 k2 t602 t603 t604 t607 t620 (x9_2 == 3) (wrap64 (x9_2 + 1))) = some r := by rw [if_pos rfl] at H; exact H
                                  clear H
                                  have H := H1
                                  clear H1
                                  have H' := Aside0.mk H
                                  clear H
                                  have p619 : 0 ≤ (0 : Int) := (by omega)
                                  have q619 : 0 < (t602.length : Int) := of_decide_eq_true (by first | (with_reducible assumption) | assumption)
                                  obtain ⟨ad619, e619, hx619_0, hx619_1, hx619_2, hx619_3, hx619_4, hx619_5, hx619_6, hx619_7⟩ := at_T39 (Kd.R_reads' HO_3.out).2.2 0 p619 q619
                                  cases e619
                                  have qi619 : (0 < t602.length) = True := eq_true (by omega)
                                  (try rw [show ((0 : Int)).toNat = 0 from rfl] at hx619_0)
                                  (try rw [show 0 * 8 = 0 from rfl] at hx619_0)
                                  (try rw [Addr.add_zero'] at hx619_0)
                                  (try rw [show ((0 : Int)).toNat = 0 from rfl] at hx619_1)
                                  (try rw [show 0 * 8 = 0 from rfl] at hx619_1)
                                  (try rw [Addr.add_zero'] at hx619_1)
                                  (try rw [show ((0 : Int)).toNat = 0 from rfl] at hx619_2)
                                  (try rw [show 0 * 8 = 0 from rfl] at hx619_2)
                                  (try rw [Addr.add_zero'] at hx619_2)
                                  (try rw [show ((0 : Int)).toNat = 0 from rfl] at hx619_3)
                                  (try rw [show 0 * 8 = 0 from rfl] at hx619_3)
                                  (try rw [Addr.add_zero'] at hx619_3)
                                  (try rw [show ((0 : Int)).toNat = 0 from rfl] at hx619_4)
                                  (try rw [show 0 * 8 = 0 from rfl] at hx619_4)
                                  (try rw [Addr.add_zero'] at hx619_4)
                                  (try rw [show ((0 : Int)).toNat = 0 from rfl] at hx619_5)
                                  (try rw [show 0 * 8 = 0 from rfl] at hx619_5)
                                  (try rw [Addr.add_zero'] at hx619_5)
                                  (try rw [show ((0 : Int)).toNat = 0 from rfl] at hx619_6)
                                  (try rw [show 0 * 8 = 0 from rfl] at hx619_6)
                                  (try rw [Addr.add_zero'] at hx619_6)
                                  (try rw [show ((0 : Int)).toNat = 0 from rfl] at hx619_7)
                                  (try rw [show 0 * 8 = 0 from rfl] at hx619_7)
                                  (try rw [Addr.add_zero'] at hx619_7)
                                  replace p619 := eq_true p619
                                  replace q619 := eq_true q619
                                  go_wp2_with (first | (go_at_call 25; (with_reducible refine (impl_RecCan.calls k2 _ _ t602 ((rd_T39 t602 0).f0) x9_2 t620 _ ?side1 ?side2 A42.out).mono ?_); (case side1 => exact cx (Kd.R_reads' HO_3.out).2.2); (case side2 => exact (Kd.R_reads' HO_3.out).2.1); rintro e w60 ⟨rfl, hb⟩; have n0_ := Aside0.mk (Kd.R_below (rx HO_3.out) hb); have n1_ := bs HB hb; clear HO_3; clear HB; have HO_3 := n0_; have HB := n1_; clear n0_ n1_; (try clear hb); (try clear hb2); (try clear hk); (try clear hi)) | (go_at_call 45; (with_reducible refine (laws_wReach.calls k2 _ _ t602 t603 (⟨#[103, 111, 111, 100]⟩ : ByteArray) true _ ?side1 ?side2 A46.out).mono ?_); (case side1 => exact cx (Kd.R_reads' HO_3.out).2.2); (case side2 => exact (Kd.R_reads' HO_3.out).2.1); rintro e w' ⟨rfl, ⟨nd, rfl⟩⟩) | (go_at_call 45; (with_reducible refine (laws_wReach.calls k2 _ _ t602 t603 (⟨#[115, 97, 118, 101, 100]⟩ : ByteArray) false _ ?side1 ?side2 A50.out).mono ?_); (case side1 => exact cx (Kd.R_reads' HO_3.out).2.2); (case side2 => exact (Kd.R_reads' HO_3.out).2.1); rintro e w' ⟨rfl, ⟨nd, rfl⟩⟩) | (go_at_call 45; (with_reducible refine (laws_wReach.calls k2 _ _ t602 t603 (⟨#[115, 99, 114, 97, 112, 112, 101, 100]⟩ : ByteArray) true _ ?side1 ?side2 A58.out).mono ?_); (case side1 => exact cx (Kd.R_reads' HO_3.out).2.2); (case side2 => exact (Kd.R_reads' HO_3.out).2.1); rintro e w' ⟨rfl, ⟨nd, rfl⟩⟩))
                                  go_roundg k2
                                  case measure => have := HJ4.out; have := HK2.out; omega
                                  case rel => exact ⟨(t620), ((x9_2 == 3)), (wrap64 (x9_2 + 1)), (by first | rfl | (simp; done) | (simp [*]; done)), (by first | rfl | (simp; done) | (simp [*]; done)), (by first | rfl | (simp; done) | (simp [*]; done)), H', ⟨by have := HJ4.out; have := HK2.out; omega⟩, ⟨by refine rx ?_; exact HO_3.out⟩, (hbw HB)⟩
                                · replace c59 := Bool.eq_false_iff.mpr c59
                                  subst c59
                                  have H1 : (laws_FnCan.l0 k2 t602 t603 t604 t607 t620 false (wrap64 (x9_2 + 1))) = some r := by rw [if_neg (show ¬ (false = true) by decide)] at H; exact H
                                  clear H
                                  have H := H1
                                  clear H1
                                  have H' := Aside0.mk H
                                  clear H
                                  have p619 : 0 ≤ (0 : Int) := (by omega)
                                  have q619 : 0 < (t602.length : Int) := of_decide_eq_true (by first | (with_reducible assumption) | assumption)
                                  obtain ⟨ad619, e619, hx619_0, hx619_1, hx619_2, hx619_3, hx619_4, hx619_5, hx619_6, hx619_7⟩ := at_T39 (Kd.R_reads' HO_3.out).2.2 0 p619 q619
                                  cases e619
                                  have qi619 : (0 < t602.length) = True := eq_true (by omega)
                                  (try rw [show ((0 : Int)).toNat = 0 from rfl] at hx619_0)
                                  (try rw [show 0 * 8 = 0 from rfl] at hx619_0)
                                  (try rw [Addr.add_zero'] at hx619_0)
                                  (try rw [show ((0 : Int)).toNat = 0 from rfl] at hx619_1)
                                  (try rw [show 0 * 8 = 0 from rfl] at hx619_1)
                                  (try rw [Addr.add_zero'] at hx619_1)
                                  (try rw [show ((0 : Int)).toNat = 0 from rfl] at hx619_2)
                                  (try rw [show 0 * 8 = 0 from rfl] at hx619_2)
                                  (try rw [Addr.add_zero'] at hx619_2)
                                  (try rw [show ((0 : Int)).toNat = 0 from rfl] at hx619_3)
                                  (try rw [show 0 * 8 = 0 from rfl] at hx619_3)
                                  (try rw [Addr.add_zero'] at hx619_3)
                                  (try rw [show ((0 : Int)).toNat = 0 from rfl] at hx619_4)
                                  (try rw [show 0 * 8 = 0 from rfl] at hx619_4)
                                  (try rw [Addr.add_zero'] at hx619_4)
                                  (try rw [show ((0 : Int)).toNat = 0 from rfl] at hx619_5)
                                  (try rw [show 0 * 8 = 0 from rfl] at hx619_5)
                                  (try rw [Addr.add_zero'] at hx619_5)
                                  (try rw [show ((0 : Int)).toNat = 0 from rfl] at hx619_6)
                                  (try rw [show 0 * 8 = 0 from rfl] at hx619_6)
                                  (try rw [Addr.add_zero'] at hx619_6)
                                  (try rw [show ((0 : Int)).toNat = 0 from rfl] at hx619_7)
                                  (try rw [show 0 * 8 = 0 from rfl] at hx619_7)
                                  (try rw [Addr.add_zero'] at hx619_7)
                                  replace p619 := eq_true p619
                                  replace q619 := eq_true q619
                                  go_wp2_with (first | (go_at_call 25; (with_reducible refine (impl_RecCan.calls k2 _ _ t602 ((rd_T39 t602 0).f0) x9_2 t620 _ ?side1 ?side2 A42.out).mono ?_); (case side1 => exact cx (Kd.R_reads' HO_3.out).2.2); (case side2 => exact (Kd.R_reads' HO_3.out).2.1); rintro e w61 ⟨rfl, hb⟩; have n0_ := Aside0.mk (Kd.R_below (rx HO_3.out) hb); have n1_ := bs HB hb; clear HO_3; clear HB; have HO_3 := n0_; have HB := n1_; clear n0_ n1_; (try clear hb); (try clear hb2); (try clear hk); (try clear hi)) | (go_at_call 45; (with_reducible refine (laws_wReach.calls k2 _ _ t602 t603 (⟨#[103, 111, 111, 100]⟩ : ByteArray) true _ ?side1 ?side2 A46.out).mono ?_); (case side1 => exact cx (Kd.R_reads' HO_3.out).2.2); (case side2 => exact (Kd.R_reads' HO_3.out).2.1); rintro e w' ⟨rfl, ⟨nd, rfl⟩⟩) | (go_at_call 45; (with_reducible refine (laws_wReach.calls k2 _ _ t602 t603 (⟨#[115, 97, 118, 101, 100]⟩ : ByteArray) false _ ?side1 ?side2 A50.out).mono ?_); (case side1 => exact cx (Kd.R_reads' HO_3.out).2.2); (case side2 => exact (Kd.R_reads' HO_3.out).2.1); rintro e w' ⟨rfl, ⟨nd, rfl⟩⟩) | (go_at_call 45; (with_reducible refine (laws_wReach.calls k2 _ _ t602 t603 (⟨#[115, 99, 114, 97, 112, 112, 101, 100]⟩ : ByteArray) false _ ?side1 ?side2 A58.out).mono ?_); (case side1 => exact cx (Kd.R_reads' HO_3.out).2.2); (case side2 => exact (Kd.R_reads' HO_3.out).2.1); rintro e w' ⟨rfl, ⟨nd, rfl⟩⟩))
                                  go_roundg k2
                                  case measure => have := HJ4.out; have := HK2.out; omega
                                  case rel => exact ⟨(t620), (false), (wrap64 (x9_2 + 1)), (by first | rfl | (simp; done) | (simp [*]; done)), (by first | rfl | (simp; done) | (simp [*]; done)), (by first | rfl | (simp; done) | (simp [*]; done)), H', ⟨by have := HJ4.out; have := HK2.out; omega⟩, ⟨by refine rx ?_; exact HO_3.out⟩, (hbw HB)⟩
                          · replace c47 := Bool.eq_false_iff.mpr c47
                            subst c47
                            have H1 : ((laws_wReach.f k2 t602 t603 (⟨#[115, 97, 118, 101, 100]⟩ : ByteArray)).bind fun t625 => (if t625 = true then (if x9_2 = 2 then (laws_FnCan.l0 k2 t602 t603 t604 t607 t620 true (wrap64 (x9_2 + 1))) else ((laws_wReach.f k2 t602 t603 (⟨#[115, 99, 114, 97, 112, 112, 101, 100]⟩ : ByteArray)).bind fun t626 => (if t626 = true then (laws_FnCan.l0 k2 t602 t603 t604 t607 t620 (x9_2 == 3) (wrap64 (x9_2 + 1))) else (laws_FnCan.l0 k2 t602 t603 t604 t607 t620 false (wrap64 (x9_2 + 1)))))) else ((laws_wReach.f k2 t602 t603 (⟨#[115, 99, 114, 97, 112, 112, 101, 100]⟩ : ByteArray)).bind fun t627 => (if t627 = true then (laws_FnCan.l0 k2 t602 t603 t604 t607 t620 (x9_2 == 3) (wrap64 (x9_2 + 1))) else (laws_FnCan.l0 k2 t602 t603 t604 t607 t620 false (wrap64 (x9_2 + 1))))))) = some r := by rw [if_neg (show ¬ (false = true) by decide)] at H; exact H
                            clear H
                            have H := H1
                            clear H1
                            replace H := Option.bind_eq_some_iff.mp H
                            obtain ⟨t625, A620, H⟩ := H
                            replace H : (if t625 = true then (if x9_2 = 2 then (laws_FnCan.l0 k2 t602 t603 t604 t607 t620 true (wrap64 (x9_2 + 1))) else ((laws_wReach.f k2 t602 t603 (⟨#[115, 99, 114, 97, 112, 112, 101, 100]⟩ : ByteArray)).bind fun t626 => (if t626 = true then (laws_FnCan.l0 k2 t602 t603 t604 t607 t620 (x9_2 == 3) (wrap64 (x9_2 + 1))) else (laws_FnCan.l0 k2 t602 t603 t604 t607 t620 false (wrap64 (x9_2 + 1)))))) else ((laws_wReach.f k2 t602 t603 (⟨#[115, 99, 114, 97, 112, 112, 101, 100]⟩ : ByteArray)).bind fun t627 => (if t627 = true then (laws_FnCan.l0 k2 t602 t603 t604 t607 t620 (x9_2 == 3) (wrap64 (x9_2 + 1))) else (laws_FnCan.l0 k2 t602 t603 t604 t607 t620 false (wrap64 (x9_2 + 1)))))) = some r := H
                            have A62 := Aside0.mk A620
                            clear A620
                            by_cases c63 : t625 = true
                            · subst c63
                              have H1 : (if x9_2 = 2 then (laws_FnCan.l0 k2 t602 t603 t604 t607 t620 true (wrap64 (x9_2 + 1))) else ((laws_wReach.f k2 t602 t603 (⟨#[115, 99, 114, 97, 112, 112, 101, 100]⟩ : ByteArray)).bind fun t626 => (if t626 = true then (laws_FnCan.l0 k2 t602 t603 t604 t607 t620 (x9_2 == 3) (wrap64 (x9_2 + 1))) else (laws_FnCan.l0 k2 t602 t603 t604 t607 t620 false (wrap64 (x9_2 + 1)))))) = some r := by rw [if_pos rfl] at H; exact H
                              clear H
                              have H := H1
                              clear H1
                              by_cases c64 : x9_2 = 2
                              · rw [if_pos c64] at H
                                have c64b0 : (x9_2 == 2) = true := beq_iff_eq.mpr c64
                                have c64b1 : (x9_2 != 2) = false := bne_eq_false_iff_eq.mpr c64
                                clear c64
                                have H' := Aside0.mk H
                                clear H
                                have p619 : 0 ≤ (0 : Int) := (by omega)
                                have q619 : 0 < (t602.length : Int) := of_decide_eq_true (by first | (with_reducible assumption) | assumption)
                                obtain ⟨ad619, e619, hx619_0, hx619_1, hx619_2, hx619_3, hx619_4, hx619_5, hx619_6, hx619_7⟩ := at_T39 (Kd.R_reads' HO_3.out).2.2 0 p619 q619
                                cases e619
                                have qi619 : (0 < t602.length) = True := eq_true (by omega)
                                (try rw [show ((0 : Int)).toNat = 0 from rfl] at hx619_0)
                                (try rw [show 0 * 8 = 0 from rfl] at hx619_0)
                                (try rw [Addr.add_zero'] at hx619_0)
                                (try rw [show ((0 : Int)).toNat = 0 from rfl] at hx619_1)
                                (try rw [show 0 * 8 = 0 from rfl] at hx619_1)
                                (try rw [Addr.add_zero'] at hx619_1)
                                (try rw [show ((0 : Int)).toNat = 0 from rfl] at hx619_2)
                                (try rw [show 0 * 8 = 0 from rfl] at hx619_2)
                                (try rw [Addr.add_zero'] at hx619_2)
                                (try rw [show ((0 : Int)).toNat = 0 from rfl] at hx619_3)
                                (try rw [show 0 * 8 = 0 from rfl] at hx619_3)
                                (try rw [Addr.add_zero'] at hx619_3)
                                (try rw [show ((0 : Int)).toNat = 0 from rfl] at hx619_4)
                                (try rw [show 0 * 8 = 0 from rfl] at hx619_4)
                                (try rw [Addr.add_zero'] at hx619_4)
                                (try rw [show ((0 : Int)).toNat = 0 from rfl] at hx619_5)
                                (try rw [show 0 * 8 = 0 from rfl] at hx619_5)
                                (try rw [Addr.add_zero'] at hx619_5)
                                (try rw [show ((0 : Int)).toNat = 0 from rfl] at hx619_6)
                                (try rw [show 0 * 8 = 0 from rfl] at hx619_6)
                                (try rw [Addr.add_zero'] at hx619_6)
                                (try rw [show ((0 : Int)).toNat = 0 from rfl] at hx619_7)
                                (try rw [show 0 * 8 = 0 from rfl] at hx619_7)
                                (try rw [Addr.add_zero'] at hx619_7)
                                replace p619 := eq_true p619
                                replace q619 := eq_true q619
                                go_wp2_with (first | (go_at_call 25; (with_reducible refine (impl_RecCan.calls k2 _ _ t602 ((rd_T39 t602 0).f0) x9_2 t620 _ ?side1 ?side2 A42.out).mono ?_); (case side1 => exact cx (Kd.R_reads' HO_3.out).2.2); (case side2 => exact (Kd.R_reads' HO_3.out).2.1); rintro e w65 ⟨rfl, hb⟩; have n0_ := Aside0.mk (Kd.R_below (rx HO_3.out) hb); have n1_ := bs HB hb; clear HO_3; clear HB; have HO_3 := n0_; have HB := n1_; clear n0_ n1_; (try clear hb); (try clear hb2); (try clear hk); (try clear hi)) | (go_at_call 45; (with_reducible refine (laws_wReach.calls k2 _ _ t602 t603 (⟨#[103, 111, 111, 100]⟩ : ByteArray) false _ ?side1 ?side2 A46.out).mono ?_); (case side1 => exact cx (Kd.R_reads' HO_3.out).2.2); (case side2 => exact (Kd.R_reads' HO_3.out).2.1); rintro e w' ⟨rfl, ⟨nd, rfl⟩⟩) | (go_at_call 45; (with_reducible refine (laws_wReach.calls k2 _ _ t602 t603 (⟨#[115, 97, 118, 101, 100]⟩ : ByteArray) true _ ?side1 ?side2 A62.out).mono ?_); (case side1 => exact cx (Kd.R_reads' HO_3.out).2.2); (case side2 => exact (Kd.R_reads' HO_3.out).2.1); rintro e w' ⟨rfl, ⟨nd, rfl⟩⟩))
                                go_roundg k2
                                case measure => have := HJ4.out; have := HK2.out; omega
                                case rel => exact ⟨(t620), (true), (wrap64 (x9_2 + 1)), (by first | rfl | (simp; done) | (simp [*]; done)), (by first | rfl | (simp; done) | (simp [*]; done)), (by first | rfl | (simp; done) | (simp [*]; done)), H', ⟨by have := HJ4.out; have := HK2.out; omega⟩, ⟨by refine rx ?_; exact HO_3.out⟩, (hbw HB)⟩
                              · rw [if_neg c64] at H
                                have c64b0 : (x9_2 == 2) = false := beq_eq_false_iff_ne.mpr c64
                                have c64b1 : (x9_2 != 2) = true := bne_iff_ne.mpr c64
                                replace H := Option.bind_eq_some_iff.mp H
                                obtain ⟨t626, A660, H⟩ := H
                                replace H : (if t626 = true then (laws_FnCan.l0 k2 t602 t603 t604 t607 t620 (x9_2 == 3) (wrap64 (x9_2 + 1))) else (laws_FnCan.l0 k2 t602 t603 t604 t607 t620 false (wrap64 (x9_2 + 1)))) = some r := H
                                have A66 := Aside0.mk A660
                                clear A660
                                by_cases c67 : t626 = true
                                · subst c67
                                  have H1 : (laws_FnCan.l0 k2 t602 t603 t604 t607 t620 (x9_2 == 3) (wrap64 (x9_2 + 1))) = some r := by rw [if_pos rfl] at H; exact H
                                  clear H
                                  have H := H1
                                  clear H1
                                  have H' := Aside0.mk H
                                  clear H
                                  have p619 : 0 ≤ (0 : Int) := (by omega)
                                  have q619 : 0 < (t602.length : Int) := of_decide_eq_true (by first | (with_reducible assumption) | assumption)
                                  obtain ⟨ad619, e619, hx619_0, hx619_1, hx619_2, hx619_3, hx619_4, hx619_5, hx619_6, hx619_7⟩ := at_T39 (Kd.R_reads' HO_3.out).2.2 0 p619 q619
                                  cases e619
                                  have qi619 : (0 < t602.length) = True := eq_true (by omega)
                                  (try rw [show ((0 : Int)).toNat = 0 from rfl] at hx619_0)
                                  (try rw [show 0 * 8 = 0 from rfl] at hx619_0)
                                  (try rw [Addr.add_zero'] at hx619_0)
                                  (try rw [show ((0 : Int)).toNat = 0 from rfl] at hx619_1)
                                  (try rw [show 0 * 8 = 0 from rfl] at hx619_1)
                                  (try rw [Addr.add_zero'] at hx619_1)
                                  (try rw [show ((0 : Int)).toNat = 0 from rfl] at hx619_2)
                                  (try rw [show 0 * 8 = 0 from rfl] at hx619_2)
                                  (try rw [Addr.add_zero'] at hx619_2)
                                  (try rw [show ((0 : Int)).toNat = 0 from rfl] at hx619_3)
                                  (try rw [show 0 * 8 = 0 from rfl] at hx619_3)
                                  (try rw [Addr.add_zero'] at hx619_3)
                                  (try rw [show ((0 : Int)).toNat = 0 from rfl] at hx619_4)
                                  (try rw [show 0 * 8 = 0 from rfl] at hx619_4)
                                  (try rw [Addr.add_zero'] at hx619_4)
                                  (try rw [show ((0 : Int)).toNat = 0 from rfl] at hx619_5)
                                  (try rw [show 0 * 8 = 0 from rfl] at hx619_5)
                                  (try rw [Addr.add_zero'] at hx619_5)
                                  (try rw [show ((0 : Int)).toNat = 0 from rfl] at hx619_6)
                                  (try rw [show 0 * 8 = 0 from rfl] at hx619_6)
                                  (try rw [Addr.add_zero'] at hx619_6)
                                  (try rw [show ((0 : Int)).toNat = 0 from rfl] at hx619_7)
                                  (try rw [show 0 * 8 = 0 from rfl] at hx619_7)
                                  (try rw [Addr.add_zero'] at hx619_7)
                                  replace p619 := eq_true p619
                                  replace q619 := eq_true q619
                                  go_wp2_with (first | (go_at_call 25; (with_reducible refine (impl_RecCan.calls k2 _ _ t602 ((rd_T39 t602 0).f0) x9_2 t620 _ ?side1 ?side2 A42.out).mono ?_); (case side1 => exact cx (Kd.R_reads' HO_3.out).2.2); (case side2 => exact (Kd.R_reads' HO_3.out).2.1); rintro e w68 ⟨rfl, hb⟩; have n0_ := Aside0.mk (Kd.R_below (rx HO_3.out) hb); have n1_ := bs HB hb; clear HO_3; clear HB; have HO_3 := n0_; have HB := n1_; clear n0_ n1_; (try clear hb); (try clear hb2); (try clear hk); (try clear hi)) | (go_at_call 45; (with_reducible refine (laws_wReach.calls k2 _ _ t602 t603 (⟨#[103, 111, 111, 100]⟩ : ByteArray) false _ ?side1 ?side2 A46.out).mono ?_); (case side1 => exact cx (Kd.R_reads' HO_3.out).2.2); (case side2 => exact (Kd.R_reads' HO_3.out).2.1); rintro e w' ⟨rfl, ⟨nd, rfl⟩⟩) | (go_at_call 45; (with_reducible refine (laws_wReach.calls k2 _ _ t602 t603 (⟨#[115, 97, 118, 101, 100]⟩ : ByteArray) true _ ?side1 ?side2 A62.out).mono ?_); (case side1 => exact cx (Kd.R_reads' HO_3.out).2.2); (case side2 => exact (Kd.R_reads' HO_3.out).2.1); rintro e w' ⟨rfl, ⟨nd, rfl⟩⟩) | (go_at_call 45; (with_reducible refine (laws_wReach.calls k2 _ _ t602 t603 (⟨#[115, 99, 114, 97, 112, 112, 101, 100]⟩ : ByteArray) true _ ?side1 ?side2 A66.out).mono ?_); (case side1 => exact cx (Kd.R_reads' HO_3.out).2.2); (case side2 => exact (Kd.R_reads' HO_3.out).2.1); rintro e w' ⟨rfl, ⟨nd, rfl⟩⟩))
                                  go_roundg k2
                                  case measure => have := HJ4.out; have := HK2.out; omega
                                  case rel => exact ⟨(t620), ((x9_2 == 3)), (wrap64 (x9_2 + 1)), (by first | rfl | (simp; done) | (simp [*]; done)), (by first | rfl | (simp; done) | (simp [*]; done)), (by first | rfl | (simp; done) | (simp [*]; done)), H', ⟨by have := HJ4.out; have := HK2.out; omega⟩, ⟨by refine rx ?_; exact HO_3.out⟩, (hbw HB)⟩
                                · replace c67 := Bool.eq_false_iff.mpr c67
                                  subst c67
                                  have H1 : (laws_FnCan.l0 k2 t602 t603 t604 t607 t620 false (wrap64 (x9_2 + 1))) = some r := by rw [if_neg (show ¬ (false = true) by decide)] at H; exact H
                                  clear H
                                  have H := H1
                                  clear H1
                                  have H' := Aside0.mk H
                                  clear H
                                  have p619 : 0 ≤ (0 : Int) := (by omega)
                                  have q619 : 0 < (t602.length : Int) := of_decide_eq_true (by first | (with_reducible assumption) | assumption)
                                  obtain ⟨ad619, e619, hx619_0, hx619_1, hx619_2, hx619_3, hx619_4, hx619_5, hx619_6, hx619_7⟩ := at_T39 (Kd.R_reads' HO_3.out).2.2 0 p619 q619
                                  cases e619
                                  have qi619 : (0 < t602.length) = True := eq_true (by omega)
                                  (try rw [show ((0 : Int)).toNat = 0 from rfl] at hx619_0)
                                  (try rw [show 0 * 8 = 0 from rfl] at hx619_0)
                                  (try rw [Addr.add_zero'] at hx619_0)
                                  (try rw [show ((0 : Int)).toNat = 0 from rfl] at hx619_1)
                                  (try rw [show 0 * 8 = 0 from rfl] at hx619_1)
                                  (try rw [Addr.add_zero'] at hx619_1)
                                  (try rw [show ((0 : Int)).toNat = 0 from rfl] at hx619_2)
                                  (try rw [show 0 * 8 = 0 from rfl] at hx619_2)
                                  (try rw [Addr.add_zero'] at hx619_2)
                                  (try rw [show ((0 : Int)).toNat = 0 from rfl] at hx619_3)
                                  (try rw [show 0 * 8 = 0 from rfl] at hx619_3)
                                  (try rw [Addr.add_zero'] at hx619_3)
                                  (try rw [show ((0 : Int)).toNat = 0 from rfl] at hx619_4)
                                  (try rw [show 0 * 8 = 0 from rfl] at hx619_4)
                                  (try rw [Addr.add_zero'] at hx619_4)
                                  (try rw [show ((0 : Int)).toNat = 0 from rfl] at hx619_5)
                                  (try rw [show 0 * 8 = 0 from rfl] at hx619_5)
                                  (try rw [Addr.add_zero'] at hx619_5)
                                  (try rw [show ((0 : Int)).toNat = 0 from rfl] at hx619_6)
                                  (try rw [show 0 * 8 = 0 from rfl] at hx619_6)
                                  (try rw [Addr.add_zero'] at hx619_6)
                                  (try rw [show ((0 : Int)).toNat = 0 from rfl] at hx619_7)
                                  (try rw [show 0 * 8 = 0 from rfl] at hx619_7)
                                  (try rw [Addr.add_zero'] at hx619_7)
                                  replace p619 := eq_true p619
                                  replace q619 := eq_true q619
                                  go_wp2_with (first | (go_at_call 25; (with_reducible refine (impl_RecCan.calls k2 _ _ t602 ((rd_T39 t602 0).f0) x9_2 t620 _ ?side1 ?side2 A42.out).mono ?_); (case side1 => exact cx (Kd.R_reads' HO_3.out).2.2); (case side2 => exact (Kd.R_reads' HO_3.out).2.1); rintro e w69 ⟨rfl, hb⟩; have n0_ := Aside0.mk (Kd.R_below (rx HO_3.out) hb); have n1_ := bs HB hb; clear HO_3; clear HB; have HO_3 := n0_; have HB := n1_; clear n0_ n1_; (try clear hb); (try clear hb2); (try clear hk); (try clear hi)) | (go_at_call 45; (with_reducible refine (laws_wReach.calls k2 _ _ t602 t603 (⟨#[103, 111, 111, 100]⟩ : ByteArray) false _ ?side1 ?side2 A46.out).mono ?_); (case side1 => exact cx (Kd.R_reads' HO_3.out).2.2); (case side2 => exact (Kd.R_reads' HO_3.out).2.1); rintro e w' ⟨rfl, ⟨nd, rfl⟩⟩) | (go_at_call 45; (with_reducible refine (laws_wReach.calls k2 _ _ t602 t603 (⟨#[115, 97, 118, 101, 100]⟩ : ByteArray) true _ ?side1 ?side2 A62.out).mono ?_); (case side1 => exact cx (Kd.R_reads' HO_3.out).2.2); (case side2 => exact (Kd.R_reads' HO_3.out).2.1); rintro e w' ⟨rfl, ⟨nd, rfl⟩⟩) | (go_at_call 45; (with_reducible refine (laws_wReach.calls k2 _ _ t602 t603 (⟨#[115, 99, 114, 97, 112, 112, 101, 100]⟩ : ByteArray) false _ ?side1 ?side2 A66.out).mono ?_); (case side1 => exact cx (Kd.R_reads' HO_3.out).2.2); (case side2 => exact (Kd.R_reads' HO_3.out).2.1); rintro e w' ⟨rfl, ⟨nd, rfl⟩⟩))
                                  go_roundg k2
                                  case measure => have := HJ4.out; have := HK2.out; omega
                                  case rel => exact ⟨(t620), (false), (wrap64 (x9_2 + 1)), (by first | rfl | (simp; done) | (simp [*]; done)), (by first | rfl | (simp; done) | (simp [*]; done)), (by first | rfl | (simp; done) | (simp [*]; done)), H', ⟨by have := HJ4.out; have := HK2.out; omega⟩, ⟨by refine rx ?_; exact HO_3.out⟩, (hbw HB)⟩
                            · replace c63 := Bool.eq_false_iff.mpr c63
                              subst c63
                              have H1 : ((laws_wReach.f k2 t602 t603 (⟨#[115, 99, 114, 97, 112, 112, 101, 100]⟩ : ByteArray)).bind fun t627 => (if t627 = true then (laws_FnCan.l0 k2 t602 t603 t604 t607 t620 (x9_2 == 3) (wrap64 (x9_2 + 1))) else (laws_FnCan.l0 k2 t602 t603 t604 t607 t620 false (wrap64 (x9_2 + 1))))) = some r := by rw [if_neg (show ¬ (false = true) by decide)] at H; exact H
                              clear H
                              have H := H1
                              clear H1
                              replace H := Option.bind_eq_some_iff.mp H
                              obtain ⟨t627, A700, H⟩ := H
                              replace H : (if t627 = true then (laws_FnCan.l0 k2 t602 t603 t604 t607 t620 (x9_2 == 3) (wrap64 (x9_2 + 1))) else (laws_FnCan.l0 k2 t602 t603 t604 t607 t620 false (wrap64 (x9_2 + 1)))) = some r := H
                              have A70 := Aside0.mk A700
                              clear A700
                              by_cases c71 : t627 = true
                              · subst c71
                                have H1 : (laws_FnCan.l0 k2 t602 t603 t604 t607 t620 (x9_2 == 3) (wrap64 (x9_2 + 1))) = some r := by rw [if_pos rfl] at H; exact H
                                clear H
                                have H := H1
                                clear H1
                                have H' := Aside0.mk H
                                clear H
                                have p619 : 0 ≤ (0 : Int) := (by omega)
                                have q619 : 0 < (t602.length : Int) := of_decide_eq_true (by first | (with_reducible assumption) | assumption)
                                obtain ⟨ad619, e619, hx619_0, hx619_1, hx619_2, hx619_3, hx619_4, hx619_5, hx619_6, hx619_7⟩ := at_T39 (Kd.R_reads' HO_3.out).2.2 0 p619 q619
                                cases e619
                                have qi619 : (0 < t602.length) = True := eq_true (by omega)
                                (try rw [show ((0 : Int)).toNat = 0 from rfl] at hx619_0)
                                (try rw [show 0 * 8 = 0 from rfl] at hx619_0)
                                (try rw [Addr.add_zero'] at hx619_0)
                                (try rw [show ((0 : Int)).toNat = 0 from rfl] at hx619_1)
                                (try rw [show 0 * 8 = 0 from rfl] at hx619_1)
                                (try rw [Addr.add_zero'] at hx619_1)
                                (try rw [show ((0 : Int)).toNat = 0 from rfl] at hx619_2)
                                (try rw [show 0 * 8 = 0 from rfl] at hx619_2)
                                (try rw [Addr.add_zero'] at hx619_2)
                                (try rw [show ((0 : Int)).toNat = 0 from rfl] at hx619_3)
                                (try rw [show 0 * 8 = 0 from rfl] at hx619_3)
                                (try rw [Addr.add_zero'] at hx619_3)
                                (try rw [show ((0 : Int)).toNat = 0 from rfl] at hx619_4)
                                (try rw [show 0 * 8 = 0 from rfl] at hx619_4)
                                (try rw [Addr.add_zero'] at hx619_4)
                                (try rw [show ((0 : Int)).toNat = 0 from rfl] at hx619_5)
                                (try rw [show 0 * 8 = 0 from rfl] at hx619_5)
                                (try rw [Addr.add_zero'] at hx619_5)
                                (try rw [show ((0 : Int)).toNat = 0 from rfl] at hx619_6)
                                (try rw [show 0 * 8 = 0 from rfl] at hx619_6)
                                (try rw [Addr.add_zero'] at hx619_6)
                                (try rw [show ((0 : Int)).toNat = 0 from rfl] at hx619_7)
                                (try rw [show 0 * 8 = 0 from rfl] at hx619_7)
                                (try rw [Addr.add_zero'] at hx619_7)
                                replace p619 := eq_true p619
                                replace q619 := eq_true q619
                                go_wp2_with (first | (go_at_call 25; (with_reducible refine (impl_RecCan.calls k2 _ _ t602 ((rd_T39 t602 0).f0) x9_2 t620 _ ?side1 ?side2 A42.out).mono ?_); (case side1 => exact cx (Kd.R_reads' HO_3.out).2.2); (case side2 => exact (Kd.R_reads' HO_3.out).2.1); rintro e w72 ⟨rfl, hb⟩; have n0_ := Aside0.mk (Kd.R_below (rx HO_3.out) hb); have n1_ := bs HB hb; clear HO_3; clear HB; have HO_3 := n0_; have HB := n1_; clear n0_ n1_; (try clear hb); (try clear hb2); (try clear hk); (try clear hi)) | (go_at_call 45; (with_reducible refine (laws_wReach.calls k2 _ _ t602 t603 (⟨#[103, 111, 111, 100]⟩ : ByteArray) false _ ?side1 ?side2 A46.out).mono ?_); (case side1 => exact cx (Kd.R_reads' HO_3.out).2.2); (case side2 => exact (Kd.R_reads' HO_3.out).2.1); rintro e w' ⟨rfl, ⟨nd, rfl⟩⟩) | (go_at_call 45; (with_reducible refine (laws_wReach.calls k2 _ _ t602 t603 (⟨#[115, 97, 118, 101, 100]⟩ : ByteArray) false _ ?side1 ?side2 A62.out).mono ?_); (case side1 => exact cx (Kd.R_reads' HO_3.out).2.2); (case side2 => exact (Kd.R_reads' HO_3.out).2.1); rintro e w' ⟨rfl, ⟨nd, rfl⟩⟩) | (go_at_call 45; (with_reducible refine (laws_wReach.calls k2 _ _ t602 t603 (⟨#[115, 99, 114, 97, 112, 112, 101, 100]⟩ : ByteArray) true _ ?side1 ?side2 A70.out).mono ?_); (case side1 => exact cx (Kd.R_reads' HO_3.out).2.2); (case side2 => exact (Kd.R_reads' HO_3.out).2.1); rintro e w' ⟨rfl, ⟨nd, rfl⟩⟩))
                                go_roundg k2
                                case measure => have := HJ4.out; have := HK2.out; omega
                                case rel => exact ⟨(t620), ((x9_2 == 3)), (wrap64 (x9_2 + 1)), (by first | rfl | (simp; done) | (simp [*]; done)), (by first | rfl | (simp; done) | (simp [*]; done)), (by first | rfl | (simp; done) | (simp [*]; done)), H', ⟨by have := HJ4.out; have := HK2.out; omega⟩, ⟨by refine rx ?_; exact HO_3.out⟩, (hbw HB)⟩
                              · replace c71 := Bool.eq_false_iff.mpr c71
                                subst c71
                                have H1 : (laws_FnCan.l0 k2 t602 t603 t604 t607 t620 false (wrap64 (x9_2 + 1))) = some r := by rw [if_neg (show ¬ (false = true) by decide)] at H; exact H
                                clear H
                                have H := H1
                                clear H1
                                have H' := Aside0.mk H
                                clear H
                                have p619 : 0 ≤ (0 : Int) := (by omega)
                                have q619 : 0 < (t602.length : Int) := of_decide_eq_true (by first | (with_reducible assumption) | assumption)
                                obtain ⟨ad619, e619, hx619_0, hx619_1, hx619_2, hx619_3, hx619_4, hx619_5, hx619_6, hx619_7⟩ := at_T39 (Kd.R_reads' HO_3.out).2.2 0 p619 q619
                                cases e619
                                have qi619 : (0 < t602.length) = True := eq_true (by omega)
                                (try rw [show ((0 : Int)).toNat = 0 from rfl] at hx619_0)
                                (try rw [show 0 * 8 = 0 from rfl] at hx619_0)
                                (try rw [Addr.add_zero'] at hx619_0)
                                (try rw [show ((0 : Int)).toNat = 0 from rfl] at hx619_1)
                                (try rw [show 0 * 8 = 0 from rfl] at hx619_1)
                                (try rw [Addr.add_zero'] at hx619_1)
                                (try rw [show ((0 : Int)).toNat = 0 from rfl] at hx619_2)
                                (try rw [show 0 * 8 = 0 from rfl] at hx619_2)
                                (try rw [Addr.add_zero'] at hx619_2)
                                (try rw [show ((0 : Int)).toNat = 0 from rfl] at hx619_3)
                                (try rw [show 0 * 8 = 0 from rfl] at hx619_3)
                                (try rw [Addr.add_zero'] at hx619_3)
                                (try rw [show ((0 : Int)).toNat = 0 from rfl] at hx619_4)
                                (try rw [show 0 * 8 = 0 from rfl] at hx619_4)
                                (try rw [Addr.add_zero'] at hx619_4)
                                (try rw [show ((0 : Int)).toNat = 0 from rfl] at hx619_5)
                                (try rw [show 0 * 8 = 0 from rfl] at hx619_5)
                                (try rw [Addr.add_zero'] at hx619_5)
                                (try rw [show ((0 : Int)).toNat = 0 from rfl] at hx619_6)
                                (try rw [show 0 * 8 = 0 from rfl] at hx619_6)
                                (try rw [Addr.add_zero'] at hx619_6)
                                (try rw [show ((0 : Int)).toNat = 0 from rfl] at hx619_7)
                                (try rw [show 0 * 8 = 0 from rfl] at hx619_7)
                                (try rw [Addr.add_zero'] at hx619_7)
                                replace p619 := eq_true p619
                                replace q619 := eq_true q619
                                go_wp2_with (first | (go_at_call 25; (with_reducible refine (impl_RecCan.calls k2 _ _ t602 ((rd_T39 t602 0).f0) x9_2 t620 _ ?side1 ?side2 A42.out).mono ?_); (case side1 => exact cx (Kd.R_reads' HO_3.out).2.2); (case side2 => exact (Kd.R_reads' HO_3.out).2.1); rintro e w73 ⟨rfl, hb⟩; have n0_ := Aside0.mk (Kd.R_below (rx HO_3.out) hb); have n1_ := bs HB hb; clear HO_3; clear HB; have HO_3 := n0_; have HB := n1_; clear n0_ n1_; (try clear hb); (try clear hb2); (try clear hk); (try clear hi)) | (go_at_call 45; (with_reducible refine (laws_wReach.calls k2 _ _ t602 t603 (⟨#[103, 111, 111, 100]⟩ : ByteArray) false _ ?side1 ?side2 A46.out).mono ?_); (case side1 => exact cx (Kd.R_reads' HO_3.out).2.2); (case side2 => exact (Kd.R_reads' HO_3.out).2.1); rintro e w' ⟨rfl, ⟨nd, rfl⟩⟩) | (go_at_call 45; (with_reducible refine (laws_wReach.calls k2 _ _ t602 t603 (⟨#[115, 97, 118, 101, 100]⟩ : ByteArray) false _ ?side1 ?side2 A62.out).mono ?_); (case side1 => exact cx (Kd.R_reads' HO_3.out).2.2); (case side2 => exact (Kd.R_reads' HO_3.out).2.1); rintro e w' ⟨rfl, ⟨nd, rfl⟩⟩) | (go_at_call 45; (with_reducible refine (laws_wReach.calls k2 _ _ t602 t603 (⟨#[115, 99, 114, 97, 112, 112, 101, 100]⟩ : ByteArray) false _ ?side1 ?side2 A70.out).mono ?_); (case side1 => exact cx (Kd.R_reads' HO_3.out).2.2); (case side2 => exact (Kd.R_reads' HO_3.out).2.1); rintro e w' ⟨rfl, ⟨nd, rfl⟩⟩))
                                go_roundg k2
                                case measure => have := HJ4.out; have := HK2.out; omega
                                case rel => exact ⟨(t620), (false), (wrap64 (x9_2 + 1)), (by first | rfl | (simp; done) | (simp [*]; done)), (by first | rfl | (simp; done) | (simp [*]; done)), (by first | rfl | (simp; done) | (simp [*]; done)), H', ⟨by have := HJ4.out; have := HK2.out; omega⟩, ⟨by refine rx ?_; exact HO_3.out⟩, (hbw HB)⟩
                        · rw [if_neg c45] at H
                          have c45b0 : (x9_2 == t604) = false := beq_eq_false_iff_ne.mpr c45
                          have c45b1 : (x9_2 != t604) = true := bne_iff_ne.mpr c45
                          have H' := Aside0.mk H
                          clear H
                          have p619 : 0 ≤ (0 : Int) := (by omega)
                          have q619 : 0 < (t602.length : Int) := of_decide_eq_true (by first | (with_reducible assumption) | assumption)
                          obtain ⟨ad619, e619, hx619_0, hx619_1, hx619_2, hx619_3, hx619_4, hx619_5, hx619_6, hx619_7⟩ := at_T39 (Kd.R_reads' HO_3.out).2.2 0 p619 q619
                          cases e619
                          have qi619 : (0 < t602.length) = True := eq_true (by omega)
                          (try rw [show ((0 : Int)).toNat = 0 from rfl] at hx619_0)
                          (try rw [show 0 * 8 = 0 from rfl] at hx619_0)
                          (try rw [Addr.add_zero'] at hx619_0)
                          (try rw [show ((0 : Int)).toNat = 0 from rfl] at hx619_1)
                          (try rw [show 0 * 8 = 0 from rfl] at hx619_1)
                          (try rw [Addr.add_zero'] at hx619_1)
                          (try rw [show ((0 : Int)).toNat = 0 from rfl] at hx619_2)
                          (try rw [show 0 * 8 = 0 from rfl] at hx619_2)
                          (try rw [Addr.add_zero'] at hx619_2)
                          (try rw [show ((0 : Int)).toNat = 0 from rfl] at hx619_3)
                          (try rw [show 0 * 8 = 0 from rfl] at hx619_3)
                          (try rw [Addr.add_zero'] at hx619_3)
                          (try rw [show ((0 : Int)).toNat = 0 from rfl] at hx619_4)
                          (try rw [show 0 * 8 = 0 from rfl] at hx619_4)
                          (try rw [Addr.add_zero'] at hx619_4)
                          (try rw [show ((0 : Int)).toNat = 0 from rfl] at hx619_5)
                          (try rw [show 0 * 8 = 0 from rfl] at hx619_5)
                          (try rw [Addr.add_zero'] at hx619_5)
                          (try rw [show ((0 : Int)).toNat = 0 from rfl] at hx619_6)
                          (try rw [show 0 * 8 = 0 from rfl] at hx619_6)
                          (try rw [Addr.add_zero'] at hx619_6)
                          (try rw [show ((0 : Int)).toNat = 0 from rfl] at hx619_7)
                          (try rw [show 0 * 8 = 0 from rfl] at hx619_7)
                          (try rw [Addr.add_zero'] at hx619_7)
                          replace p619 := eq_true p619
                          replace q619 := eq_true q619
                          go_wp2_with (first | (go_at_call 25; (with_reducible refine (impl_RecCan.calls k2 _ _ t602 ((rd_T39 t602 0).f0) x9_2 t620 _ ?side1 ?side2 A42.out).mono ?_); (case side1 => exact cx (Kd.R_reads' HO_3.out).2.2); (case side2 => exact (Kd.R_reads' HO_3.out).2.1); rintro e w74 ⟨rfl, hb⟩; have n0_ := Aside0.mk (Kd.R_below (rx HO_3.out) hb); have n1_ := bs HB hb; clear HO_3; clear HB; have HO_3 := n0_; have HB := n1_; clear n0_ n1_; (try clear hb); (try clear hb2); (try clear hk); (try clear hi)))
                          go_roundg k2
                          case measure => have := HJ4.out; have := HK2.out; omega
                          case rel => exact ⟨(t620), (false), (wrap64 (x9_2 + 1)), (by first | rfl | (simp; done) | (simp [*]; done)), (by first | rfl | (simp; done) | (simp [*]; done)), (by first | rfl | (simp; done) | (simp [*]; done)), H', ⟨by have := HJ4.out; have := HK2.out; omega⟩, ⟨by refine rx ?_; exact HO_3.out⟩, (hbw HB)⟩
                    · rw [if_neg c41] at H
                      exact absurd H (by simp)
                · rw [if_neg c20] at H
                  have c20b0 : decide (x9_2 ≤ 3) = false := decide_eq_false c20
                  clear c20
                  by_cases c75 : x7_2 = true
                  · subst c75
                    have H1 : (some (t607 == x8_2)) = some r := by rw [if_pos rfl] at H; exact H
                    clear H
                    have H := H1
                    clear H1
                    obtain rfl := Option.some.inj H
                    go_wp2
                    go_ret
                    exact ⟨exq, bw HB.out⟩
                  · replace c75 := Bool.eq_false_iff.mpr c75
                    subst c75
                    have H1 : (some false) = some r := by rw [if_neg (show ¬ (false = true) by decide)] at H; exact H
                    clear H
                    have H := H1
                    clear H1
                    obtain rfl := Option.some.inj H
                    go_wp2
                    go_ret
                    exact ⟨exq, bw HB.out⟩
          · replace c18 := Bool.eq_false_iff.mpr c18
            subst c18
            have H1 : (some (!t607)) = some r := by rw [if_neg (show ¬ (false = true) by decide)] at H; exact H
            clear H
            have H := H1
            clear H1
            obtain rfl := Option.some.inj H
            go_wp2_with (first | ((with_reducible refine gate_callee (f := 24) rfl ?_); refine goesL_ (some 37) rfl rfl Try.func24 (by kernel_rfl) rfl #[.slice Ao7 t602.length co7] rfl mxp ?_; (with_reducible refine (spec_RecOk.calls kj4 _ _ t602 false _ ?side1 ?side2 A17.out).mono ?_); (case side1 => exact cx (Kd.R_reads' HO_3.out).2.2); (case side2 => exact (Kd.R_reads' HO_3.out).2.1); rintro e w76 ⟨rfl, hb⟩; refine ⟨_, rfl, ?_⟩; have n0_ := Aside0.mk (Kd.R_below (rx HO_3.out) hb); have n1_ := bs HB hb; clear HO_3; clear HB; have HO_3 := n0_; have HB := n1_; clear n0_ n1_; (try clear hb); (try clear hb2); (try clear hk); (try clear hi)))
            go_ret
            exact ⟨exq, bw HB.out⟩

/-- THE ONE PURE STATEMENT of laws_FnCan: yours. -/
def laws_FnCan.Pure : Prop := ∀ (l0 : List Int), l0.length ≤ maxLen → l0.length * 1 ≤ 140737488351232 → (∀ x ∈ l0, (Lit.int .u8 x).wf = true) → ∃ k, laws_FnCan.f k l0 = some true
theorem laws_FnCan.walk (P : laws_FnCan.Pure) (a0 : Option Addr) (len0 cap0 : Nat) (z0 : List Int) (w : World) (w0 : (a0 = none ∧ len0 = 0 ∧ cap0 = 0 ∧ z0 = []) ∨ ∃ x, a0 = some x ∧ len0 ≤ cap0 ∧ cap0 ≤ maxLen ∧ z0.length = cap0 ∧ (∀ i, i < z0.length → w.cell? (x.add i) = some (.int .u8 (z0.getD i 0))) ∧ ∀ n ∈ z0, (Lit.int .u8 n).wf = true) (y0 : len0 * 1 ≤ 140737488351232) :
    Calls Try.prog 12 #[.slice a0 len0 cap0] w fun e w' => e = .returned (.bool true) ∧ Below w.heap.size w w' := by
  obtain ⟨l0, rfl, hr0, hm0, hw0, hc0⟩ := ReadsInt.ofRowC w0
  obtain ⟨k, h⟩ := P l0 hm0 y0 hw0
  refine (laws_FnCan.calls k _ _ l0 true w (Kd.C_of_reads (d := (0 : Int)) (h1 := fun _ => rfl) hr0) hc0 h).mono ?_
  rintro e w' ⟨rfl, hd⟩
  exact ⟨rfl, hd⟩

end Go.Proofs.Ytdkologncoofdaa.P
-- Q7
namespace Go.Proofs.Ytdkologncoofdaa.P
open Go.RowKit Go.Proofs.YtdkologncoofdaaW.PrintWords Go.Proofs.YtdkologncoofdaaW.PrintLast
set_option linter.unusedVariables false
set_option linter.unusedSimpArgs false

theorem xor64 (a b : Int) (h1 : 0 ≤ a) (h2 : a < 4611686018427387904) (h3 : 0 ≤ b) (h4 : b < 4611686018427387904) : 0 ≤ Go.bits .xor .i64 a b ∧ Go.bits .xor .i64 a b < 4611686018427387904 := by
  obtain ⟨A, rfl⟩ := Int.eq_ofNat_of_zero_le h1
  obtain ⟨B, rfl⟩ := Int.eq_ofNat_of_zero_le h3
  have hx : A ^^^ B < 2 ^ 62 := Nat.xor_lt_two_pow (by omega) (by omega)
  have e : Go.bits .xor .i64 (A : Int) (B : Int) = ((A ^^^ B : Nat) : Int) := by
    show IntKind.i64.wrap ((BitVec.ofInt 64 (A : Int) ^^^ BitVec.ofInt 64 (B : Int)).toNat : Int) = _
    rw [i64_w, BitVec.toNat_xor, show (BitVec.ofInt 64 (A : Int)).toNat = A from by simp [BitVec.toNat_ofInt]; omega, show (BitVec.ofInt 64 (B : Int)).toNat = B from by simp [BitVec.toNat_ofInt]; omega]
    exact wrap_id (by omega) (by omega)
  rw [e]
  omega

/-- A reader's bytes. -/
def Bytes (b : List Int) : Prop := b.length ≤ 2000 ∧ ∀ x ∈ b, 0 ≤ x ∧ x ≤ 255
theorem Bytes.rd_ok {b : List Int} (h : Bytes b) (i : Int) : 0 ≤ rd b i ∧ rd b i ≤ 255 := by
  unfold rd
  rw [List.getD_eq_getElem?_getD]
  cases e : b[i.toNat]? with
  | none => simp
  | some x => simpa using h.2 x (List.mem_of_getElem? e)
theorem tmod_pos {x n : Int} (h : 0 ≤ x) (hn : 1 ≤ n) : 0 ≤ Int.tmod x n ∧ Int.tmod x n < n := ⟨Int.tmod_nonneg _ h, Int.tmod_lt_of_pos _ (by omega)⟩

theorem pick_ok {b : List Int} (hb : Bytes b) {p : Int} (h0 : 0 ≤ p) (h1 : p ≤ 1000000000) (n : Int) (k : Nat) (hk : 1 ≤ k) :
    ∃ v, spec_l1Rd_pick.f k b p n = some (v, p + 1) ∧ 0 ≤ v ∧ (1 ≤ n → v < n) := by
  obtain ⟨k, rfl⟩ : ∃ m, k = m + 1 := ⟨k - 1, by omega⟩
  have hl := hb.1
  unfold spec_l1Rd_pick.f
  rw [wrap_id (x := p + 1) (by omega) (by omega)]
  by_cases c : n < 1
  · rw [if_pos c]
    simp only [spec_l1Rd_pick.j0]
    rw [if_pos trivial]
    exact ⟨0, rfl, by omega, fun z => by omega⟩
  · rw [if_neg c]
    simp only [spec_l1Rd_pick.j0]
    by_cases e : (b.length : Int) = 0
    · rw [if_pos (by simpa using e)]
      exact ⟨0, rfl, by omega, fun z => by omega⟩
    · rw [if_neg (by simpa using e), show wrap64 (p + 1 - 1) = p from by rw [wrap_id (by omega) (by omega)]; omega]
      by_cases hp : p < (b.length : Int)
      · rw [if_pos hp, if_pos h0, if_neg (by omega)]
        have hr := hb.rd_ok p
        rw [wrap_id (by omega) (by omega)]
        have := tmod_pos hr.1 (show 1 ≤ n by omega)
        exact ⟨_, rfl, this.1, fun _ => this.2⟩
      · have hL : 1 ≤ (b.length : Int) := by omega
        have m1 := tmod_pos h0 hL
        have w7 : wrap64 (p * 7) = p * 7 := wrap_id (by omega) (by omega)
        have w73 : wrap64 (p * 7 + 3) = p * 7 + 3 := wrap_id (by omega) (by omega)
        have m2 := tmod_pos (show 0 ≤ p * 7 + 3 by omega) hL
        rw [if_neg hp, if_neg e, w7, w73, if_pos m1.1, if_pos m1.2, if_pos m2.1, if_pos m2.2, if_neg (by omega)]
        have r1 := hb.rd_ok (Int.tmod p b.length)
        have r2 := hb.rd_ok (Int.tmod (p * 7 + 3) b.length)
        generalize rd b (Int.tmod p b.length) = x1 at r1 ⊢
        generalize rd b (Int.tmod (p * 7 + 3) b.length) = x2 at r2 ⊢
        have d1 : 0 ≤ Int.tdiv p b.length ∧ Int.tdiv p b.length ≤ p := ⟨Int.tdiv_nonneg h0 (by omega), by rw [Int.tdiv_eq_ediv_of_nonneg h0]; exact Int.ediv_le_self _ h0⟩
        generalize Int.tdiv p b.length = dd at d1 ⊢
        have e1 : wrap64 x1 = x1 := wrap_id (by omega) (by omega)
        have e2 : wrap64 x2 = x2 := wrap_id (by omega) (by omega)
        have e3 : wrap64 dd = dd := wrap_id (by omega) (by omega)
        have e4 : wrap64 (x1 * 131) = x1 * 131 := wrap_id (by omega) (by omega)
        have e5 : wrap64 (x2 * 1117) = x2 * 1117 := wrap_id (by omega) (by omega)
        have e6 : wrap64 (x1 * 131 + x2 * 1117) = x1 * 131 + x2 * 1117 := wrap_id (by omega) (by omega)
        have e7 : wrap64 (p * 29) = p * 29 := wrap_id (by omega) (by omega)
        have e8 : wrap64 (x1 * 131 + x2 * 1117 + p * 29) = x1 * 131 + x2 * 1117 + p * 29 := wrap_id (by omega) (by omega)
        have e9 : wrap64 (dd * 53) = dd * 53 := wrap_id (by omega) (by omega)
        have e10 : wrap64 (x1 * 131 + x2 * 1117 + p * 29 + dd * 53) = x1 * 131 + x2 * 1117 + p * 29 + dd * 53 := wrap_id (by omega) (by omega)
        rw [e1, e2, e3, e4, e5, e6, e7, e8, e9, e10]
        have hy : 0 ≤ x1 * 131 + x2 * 1117 + p * 29 + dd * 53 ∧ x1 * 131 + x2 * 1117 + p * 29 + dd * 53 < 4611686018427387904 := by omega
        generalize x1 * 131 + x2 * 1117 + p * 29 + dd * 53 = y at hy ⊢
        have hq : 0 ≤ Int.tdiv y 64 ∧ Int.tdiv y 64 ≤ y := ⟨Int.tdiv_nonneg hy.1 (by omega), by rw [Int.tdiv_eq_ediv_of_nonneg hy.1]; exact Int.ediv_le_self _ hy.1⟩
        rw [wrap_id (x := Int.tdiv y 64) (by omega) (by omega)]
        have hxor := xor64 y (Int.tdiv y 64) hy.1 hy.2 hq.1 (by omega)
        have := tmod_pos hxor.1 (show 1 ≤ n by omega)
        exact ⟨_, rfl, this.1, fun _ => this.2⟩
theorem of_ok {b : List Int} (hb : Bytes b) {p : Int} (h0 : 0 ≤ p) (h1 : p ≤ 1000000000) (l : List ByteArray) (hl : 1 ≤ l.length) (k : Nat) (hk : 1 ≤ k) :
    ∃ v, spec_l1Rd_of.f k b p l = some (v, p + 1) ∧ v ∈ l := by
  obtain ⟨v, hv, h2, h3⟩ := pick_ok hb h0 h1 (l.length : Int) k hk
  have h3 := h3 (by omega)
  unfold spec_l1Rd_of.f
  rw [hv, Option.bind_some, if_pos h2, if_pos h3]
  refine ⟨_, rfl, ?_⟩
  simp only [rdOf]
  rw [List.getD_eq_getElem?_getD, List.getElem?_eq_getElem (show v.toNat < l.length by omega)]
  exact List.getElem_mem _
theorem slot_ok {b : List Int} (hb : Bytes b) {p : Int} (h0 : 0 ≤ p) (h1 : p ≤ 1000000000) (k : Nat) (hk : 1 ≤ k) : ∃ v, spec_l5Slot.f k b p = some (v, p + 1) := by
  unfold spec_l5Slot.f
  obtain ⟨v, hv, _⟩ := of_ok hb h0 h1 ([(⟨#[115, 49]⟩ : ByteArray), (⟨#[115, 49]⟩ : ByteArray), (⟨#[115, 50]⟩ : ByteArray), (⟨#[115, 51]⟩ : ByteArray), (⟨#[107, 101, 103]⟩ : ByteArray)]) (by simp) k hk
  exact ⟨v, by rw [hv]; rfl⟩
/-- The eight cells of a phase beside where the reader then is. -/
def tup (x : S39) (p : Int) : ByteArray × Int × ByteArray × ByteArray × Int × Int × ByteArray × ByteArray × Int := (x.f0, x.f1, x.f2, x.f3, x.f4, x.f5, x.f6, x.f7, p)
theorem ph_j0 {b : List Int} (hb : Bytes b) {p : Int} (h0 : 0 ≤ p) (h1 : p ≤ 900000000) (l : List ByteArray) (hl : l.length ≤ 1000) (n : ByteArray) (kd : Int) (A B : ByteArray) (N W : Int) (T E : ByteArray) (k : Nat) (hk : 2 ≤ k) :
    ∃ (x : S39) (q : Int), spec_l5Phase.j0 k l b p n kd A B N W T E = some (tup x q) ∧ p ≤ q ∧ q ≤ p + 3 := by
  obtain ⟨k, rfl⟩ : ∃ m, k = m + 1 := ⟨k - 1, by omega⟩
  simp only [spec_l5Phase.j0, Option.bind_some]
  rw [if_pos (by simp; omega)]
  generalize hy : ([(⟨#[103, 111, 111, 100]⟩ : ByteArray), (⟨#[115, 97, 118, 101, 100]⟩ : ByteArray), (⟨#[115, 99, 114, 97, 112, 112, 101, 100]⟩ : ByteArray)] ++ l) = y
  have hyl : 1 ≤ y.length := by rw [← hy]; simp
  obtain ⟨v1, e1, _⟩ := of_ok hb h0 (show p ≤ 1000000000 by omega) y hyl k (by omega)
  obtain ⟨v2, e2, _⟩ := of_ok hb (show 0 ≤ p + 1 by omega) (by omega) y hyl k (by omega)
  rw [e1]
  simp only [Option.bind_some]
  rw [e2]
  simp only [Option.bind_some]
  by_cases c : (l.length : Int) > 0
  · rw [if_pos c]
    obtain ⟨v3, e3, _, _⟩ := pick_ok hb (show 0 ≤ p + 1 + 1 by omega) (by omega) 4 k (by omega)
    rw [e3]
    simp only [Option.bind_some]
    by_cases c2 : v3 > 0
    · rw [if_pos c2, if_pos c]
      exact ⟨⟨n, kd, A, B, N, W, _, v2⟩, _, rfl, by omega, by omega⟩
    · rw [if_neg c2]
      exact ⟨⟨n, kd, A, B, N, W, v1, v2⟩, _, rfl, by omega, by omega⟩
  · rw [if_neg c]
    exact ⟨⟨n, kd, A, B, N, W, v1, v2⟩, _, rfl, by omega, by omega⟩
theorem drawn_phase {b : List Int} (hb : Bytes b) {p : Int} (h0 : 0 ≤ p) (h1 : p ≤ 800000000) (n : ByteArray) (l : List ByteArray) (hl : l.length ≤ 1000) (k : Nat) (hk : 2 ≤ k) :
    ∃ (x : S39) (q : Int), spec_l5Phase.f k b p n l = some (tup x q) ∧ p ≤ q ∧ q ≤ p + 20 := by
  unfold spec_l5Phase.f
  obtain ⟨v1, e1, r1, s1⟩ := pick_ok hb h0 (show p ≤ 1000000000 by omega) 5 k (by omega)
  obtain ⟨v2, e2⟩ := slot_ok hb (show 0 ≤ p + 1 by omega) (by omega) k (by omega)
  obtain ⟨v3, e3, r3, s3⟩ := pick_ok hb (show 0 ≤ p + 1 + 1 by omega) (by omega) 20 k (by omega)
  rw [e1]; simp only [Option.bind_some]
  rw [e2]; simp only [Option.bind_some]
  rw [e3]; simp only [Option.bind_some]
  have hj := fun (q : Int) (hq : p ≤ q) (hq2 : q ≤ p + 17) n kd A B N W T E => ph_j0 hb (show 0 ≤ q by omega) (show q ≤ 900000000 by omega) l hl n kd A B N W T E k hk
  split
  · obtain ⟨v4, e4, _⟩ := of_ok hb (show 0 ≤ p + 1 + 1 + 1 by omega) (by omega) [(⟨#[97, 108, 101]⟩ : ByteArray), (⟨#[109, 97, 108, 116]⟩ : ByteArray)] (by simp) k (by omega)
    obtain ⟨v5, e5, _, _⟩ := pick_ok hb (show 0 ≤ p + 1 + 1 + 1 + 1 by omega) (by omega) 30 k (by omega)
    rw [e4]; simp only [Option.bind_some]
    rw [e5]; simp only [Option.bind_some]
    obtain ⟨x, q, hx, ha, hz⟩ := hj (p + 1 + 1 + 1 + 1 + 1) (by omega) (by omega) n (wrap64 (1 + v1)) v2 v4 (wrap64 (1 + v5)) (wrap64 (1 + v3)) ⟨#[]⟩ ⟨#[]⟩
    exact ⟨x, q, hx, by omega, by omega⟩
  · split
    · obtain ⟨v4, e4⟩ := slot_ok hb (show 0 ≤ p + 1 + 1 + 1 by omega) (by omega) k (by omega)
      obtain ⟨v5, e5, _, _⟩ := pick_ok hb (show 0 ≤ p + 1 + 1 + 1 + 1 by omega) (by omega) 30 k (by omega)
      rw [e4]; simp only [Option.bind_some]
      rw [e5]; simp only [Option.bind_some]
      split
      · obtain ⟨x, q, hx, ha, hz⟩ := hj (p + 1 + 1 + 1 + 1 + 1) (by omega) (by omega) n (wrap64 (1 + v1)) v2 ⟨#[118, 97, 116]⟩ (wrap64 (1 + v5)) (wrap64 (1 + v3)) ⟨#[]⟩ ⟨#[]⟩
        exact ⟨x, q, hx, by omega, by omega⟩
      · obtain ⟨x, q, hx, ha, hz⟩ := hj (p + 1 + 1 + 1 + 1 + 1) (by omega) (by omega) n (wrap64 (1 + v1)) v2 v4 (wrap64 (1 + v5)) (wrap64 (1 + v3)) ⟨#[]⟩ ⟨#[]⟩
        exact ⟨x, q, hx, by omega, by omega⟩
    · split
      · obtain ⟨v5, e5, _, _⟩ := pick_ok hb (show 0 ≤ p + 1 + 1 + 1 by omega) (by omega) (wrap64 (1 + v3)) k (by omega)
        rw [e5]; simp only [Option.bind_some]
        obtain ⟨x, q, hx, ha, hz⟩ := hj (p + 1 + 1 + 1 + 1) (by omega) (by omega) n (wrap64 (1 + v1)) v2 ⟨#[]⟩ (wrap64 (1 + v5)) (wrap64 (1 + v3)) ⟨#[]⟩ ⟨#[]⟩
        exact ⟨x, q, hx, by omega, by omega⟩
      · obtain ⟨x, q, hx, ha, hz⟩ := hj (p + 1 + 1 + 1) (by omega) (by omega) n (wrap64 (1 + v1)) v2 ⟨#[]⟩ 0 (wrap64 (1 + v3)) ⟨#[]⟩ ⟨#[]⟩
        exact ⟨x, q, hx, by omega, by omega⟩
theorem open_ok (l : List Int) (hb : ∀ x ∈ l, 0 ≤ x ∧ x ≤ 255) : ∃ b, spec_l1Open.f l = some (b, 0) ∧ Bytes b := by
  unfold spec_l1Open.f
  by_cases h : (l.length : Int) > 2000
  · rw [if_pos h, if_pos (by omega)]
    exact ⟨_, rfl, by rw [List.length_take]; omega, fun x hx => hb x (List.mem_of_mem_take hx)⟩
  · rw [if_neg h]
    exact ⟨_, rfl, by omega, hb⟩

end Go.Proofs.Ytdkologncoofdaa.P
-- Q8
namespace Go.Proofs.Ytdkologncoofdaa.P
open Go.RowKit Go.Proofs.YtdkologncoofdaaW.PrintWords Go.Proofs.YtdkologncoofdaaW.PrintLast
set_option linter.unusedVariables false
set_option linter.unusedSimpArgs false

theorem spoilt_phase {b : List Int} (hb : Bytes b) {p : Int} (h0 : 0 ≤ p) (h1 : p ≤ 800000000) (x : S39) (k : Nat) (hk : 2 ≤ k) :
    ∃ (y : S39) (q : Int), spec_l5SpoilPhase.f k b p x.f0 x.f1 x.f2 x.f3 x.f4 x.f5 x.f6 x.f7 = some (tup y q) ∧ p ≤ q ∧ q ≤ p + 5 := by
  unfold spec_l5SpoilPhase.f
  obtain ⟨v1, e1, r1, s1⟩ := pick_ok hb h0 (show p ≤ 1000000000 by omega) 8 k (by omega)
  rw [e1]; simp only [Option.bind_some]
  have ho := fun (l : List ByteArray) (hl : 1 ≤ l.length) => of_ok hb (show 0 ≤ p + 1 by omega) (by omega) l hl k (by omega)
  have hp := fun (n : Int) => pick_ok hb (show 0 ≤ p + 1 by omega) (by omega) n k (by omega)
  split
  · obtain ⟨v, e, _⟩ := ho ([(⟨#[]⟩ : ByteArray), (⟨#[65]⟩ : ByteArray), (⟨#[103, 111, 111, 100]⟩ : ByteArray), (⟨#[102, 49]⟩ : ByteArray), (⟨#[110, 105, 110, 101, 45, 98, 121, 116, 101, 115]⟩ : ByteArray)]) (by simp)
    rw [e]
    exact ⟨⟨v, x.f1, x.f2, x.f3, x.f4, x.f5, x.f6, x.f7⟩, _, rfl, by omega, by omega⟩
  · split
    · obtain ⟨v, e, _⟩ := hp 8
      rw [e]
      exact ⟨⟨x.f0, wrap64 (v - 1), x.f2, x.f3, x.f4, x.f5, x.f6, x.f7⟩, _, rfl, by omega, by omega⟩
    · split
      · obtain ⟨v, e, _⟩ := ho ([(⟨#[]⟩ : ByteArray), (⟨#[65]⟩ : ByteArray), x.f3, (⟨#[103, 111, 111, 100]⟩ : ByteArray)]) (by simp)
        rw [e]
        exact ⟨⟨x.f0, x.f1, v, x.f3, x.f4, x.f5, x.f6, x.f7⟩, _, rfl, by omega, by omega⟩
      · split
        · obtain ⟨v, e, _⟩ := ho ([(⟨#[]⟩ : ByteArray), (⟨#[65]⟩ : ByteArray), x.f2, (⟨#[103, 111, 111, 100]⟩ : ByteArray)]) (by simp)
          rw [e]
          exact ⟨⟨x.f0, x.f1, x.f2, v, x.f4, x.f5, x.f6, x.f7⟩, _, rfl, by omega, by omega⟩
        · split
          · obtain ⟨v, e, r, s⟩ := hp 7
            rw [e]; simp only [Option.bind_some]
            rw [if_pos r, if_pos (by simpa using s (by omega))]
            exact ⟨⟨x.f0, x.f1, x.f2, x.f3, rd [-1, 0, 1, x.f5, wrap64 (x.f5 + 1), 1000, 1001] v, x.f5, x.f6, x.f7⟩, p + 1 + 1, rfl, by omega, by omega⟩
          · split
            · obtain ⟨v, e, r, s⟩ := hp 5
              rw [e]; simp only [Option.bind_some]
              rw [if_pos r, if_pos (by simpa using s (by omega))]
              exact ⟨⟨x.f0, x.f1, x.f2, x.f3, x.f4, rd [-1, 0, 1, 1000, 1001] v, x.f6, x.f7⟩, p + 1 + 1, rfl, by omega, by omega⟩
            · split
              · obtain ⟨v, e, _⟩ := ho ([(⟨#[]⟩ : ByteArray), (⟨#[98, 114, 101, 119]⟩ : ByteArray), (⟨#[102, 49]⟩ : ByteArray), (⟨#[114, 101, 115, 116]⟩ : ByteArray), (⟨#[110, 111, 110, 101]⟩ : ByteArray)]) (by simp)
                rw [e]
                exact ⟨⟨x.f0, x.f1, x.f2, x.f3, x.f4, x.f5, v, x.f7⟩, _, rfl, by omega, by omega⟩
              · obtain ⟨v, e, _⟩ := ho ([(⟨#[]⟩ : ByteArray), (⟨#[98, 114, 101, 119]⟩ : ByteArray), (⟨#[102, 49]⟩ : ByteArray), (⟨#[114, 101, 115, 116]⟩ : ByteArray), (⟨#[110, 111, 110, 101]⟩ : ByteArray)]) (by simp)
                rw [e]
                exact ⟨⟨x.f0, x.f1, x.f2, x.f3, x.f4, x.f5, x.f6, v⟩, _, rfl, by omega, by omega⟩

end Go.Proofs.Ytdkologncoofdaa.P
-- Q14
namespace Go.Proofs.Ytdkologncoofdaa.P
open Go.RowKit Go.Proofs.YtdkologncoofdaaW.PrintWords Go.Proofs.YtdkologncoofdaaW.PrintLast
set_option linter.unusedVariables false
set_option linter.unusedSimpArgs false

theorem dec_ok (n : Int) (h0 : 0 ≤ n) (h : n ≤ 12) (k : Nat) (hk : 2 ≤ k) : ∃ t, spec_l3Dec.f k n = some t ∧ t.size ≤ 100 := by
  obtain ⟨k, rfl⟩ : ∃ m, k = m + 2 := ⟨k - 2, by omega⟩
  rw [spec_l3Dec.f]
  by_cases h10 : n < 10
  · rw [if_pos h10]
    exact ⟨_, rfl, by rw [strOfNums_size]; simp⟩
  · have ht : wrap64 (Int.tdiv n 10) = 1 := by
      rcases (show n = 10 ∨ n = 11 ∨ n = 12 by omega) with rfl | rfl | rfl
      · rw [show Int.tdiv 10 10 = 1 by decide]; exact wrap_id (by omega) (by omega)
      · rw [show Int.tdiv 11 10 = 1 by decide]; exact wrap_id (by omega) (by omega)
      · rw [show Int.tdiv 12 10 = 1 by decide]; exact wrap_id (by omega) (by omega)
    rw [if_neg h10, ht, spec_l3Dec.f, if_pos (by omega)]
    simp only [Option.bind_some]
    rw [if_pos (by rw [strOfNums_size, strOfNums_size]; simp)]
    exact ⟨_, rfl, by rw [ByteArray.size_append, strOfNums_size, strOfNums_size]; simp⟩

theorem rec_l1 {b : List Int} (hb : Bytes b) (d : Nat) : ∀ (x : List S39) (i p : Int) (k : Nat), 12 - x.length = d → x.length ≤ 12 → 0 ≤ i → i + d ≤ 12 → 0 ≤ p → p ≤ 700000000 - 20 * d → d + 3 ≤ k →
    ∃ y q, spec_l5Recipe.l1 k x i b p = some (y, q) ∧ x.length ≤ y.length ∧ y.length ≤ 12 ∧ p ≤ q ∧ q ≤ p + 20 * d := by
  induction d with
  | zero =>
    intro x i p k hd hx hi hi2 h0 h1 hk
    obtain ⟨k, rfl⟩ : ∃ m, k = m + 1 := ⟨k - 1, by omega⟩
    rw [spec_l5Recipe.l1, if_neg (by omega)]
    exact ⟨x, p, rfl, by omega, by omega, by omega, by omega⟩
  | succ d ih =>
    intro x i p k hd hx hi hi2 h0 h1 hk
    obtain ⟨k, rfl⟩ : ∃ m, k = m + 1 := ⟨k - 1, by omega⟩
    obtain ⟨t, et, ht⟩ := dec_ok i hi (by omega) k (by omega)
    obtain ⟨z, q, ez, h2, h3⟩ := drawn_phase hb h0 (show p ≤ 800000000 by omega) ((⟨#[121]⟩ : ByteArray) ++ t) [] (by simp) k (by omega)
    rw [spec_l5Recipe.l1, if_pos (by omega), et, Option.bind_some, if_pos (by omega), ez, Option.bind_some, if_pos (by omega), wrap_id (by omega) (by omega)]
    obtain ⟨y, q2, ey, a1, a2, a3, a4⟩ := ih (x ++ [z]) (i + 1) q k (by simp; omega) (by simp; omega) (by omega) (by omega) (by omega) (by omega) (by omega)
    simp only [List.length_append, List.length_singleton] at a1
    exact ⟨y, q2, ey, by omega, a2, by omega, by omega⟩

theorem rec_l0 {b : List Int} (hb : Bytes b) (ns : List ByteArray) (hns : ns.length ≤ 100) (n : Nat) (hn : n ≤ ns.length) (hn12 : n ≤ 12) (hn1 : 1 ≤ n) (d : Nat) : ∀ (x : List S39) (i : Nat) (p : Int) (k : Nat), n - i = d → i ≤ n → x.length = i → 0 ≤ p → p ≤ 600000000 - 20 * d → d + 40 ≤ k →
    ∃ y q, spec_l5Recipe.l0 k ns (n : Int) x (i : Int) b p = some (y, q) ∧ 1 ≤ y.length ∧ y.length ≤ 12 ∧ p ≤ q ∧ q ≤ p + 20 * d + 300 := by
  induction d with
  | zero =>
    intro x i p k hd hx hi h0 h1 hk
    obtain ⟨k, rfl⟩ : ∃ m, k = m + 1 := ⟨k - 1, by omega⟩
    rw [spec_l5Recipe.l0, if_neg (by omega)]
    obtain ⟨v, ev, _, _⟩ := pick_ok hb h0 (show p ≤ 1000000000 by omega) 20 k (by omega)
    rw [ev, Option.bind_some]
    by_cases hv : v = 0
    · rw [if_pos hv]
      obtain ⟨y, q, ey, a1, a2, a3, a4⟩ := rec_l1 hb (12 - x.length) x 0 (p + 1) k rfl (by omega) (by omega) (by omega) (by omega) (by omega) (by omega)
      exact ⟨y, q, ey, by omega, a2, by omega, by omega⟩
    · rw [if_neg hv]
      exact ⟨x, p + 1, rfl, by omega, by omega, by omega, by omega⟩
  | succ d ih =>
    intro x i p k hd hx hi h0 h1 hk
    obtain ⟨k, rfl⟩ : ∃ m, k = m + 1 := ⟨k - 1, by omega⟩
    obtain ⟨z, q, ez, h2, h3⟩ := drawn_phase hb h0 (show p ≤ 800000000 by omega) (rdOf ByteArray.empty ns (i : Int)) ((ns.take ((n : Nat) : Int).toNat).drop (((i : Int) + 1) : Int).toNat) (by simp; omega) k (by omega)
    have hw : wrap64 ((i : Int) + 1) = (i : Int) + 1 := wrap_id (by omega) (by omega)
    rw [spec_l5Recipe.l0, if_pos (by omega), if_pos (by omega), if_pos (by omega), hw, if_pos (by omega), if_pos (by omega), if_pos (by omega), ez, Option.bind_some, if_pos (by omega)]
    obtain ⟨y, q2, ey, a1, a2, a3, a4⟩ := ih (x ++ [z]) (i + 1) q k (by omega) (by omega) (by simp; omega) (by omega) (by omega) (by omega)
    refine ⟨y, q2, ?_, a1, a2, by omega, by omega⟩
    rw [← ey]
    simp [tup]

theorem recipe_ok {b : List Int} (hb : Bytes b) {p : Int} (h0 : 0 ≤ p) (h1 : p ≤ 500000000) (k : Nat) (hk : 60 ≤ k) :
    ∃ x q, spec_l5Recipe.f k b p = some (x, q) ∧ 1 ≤ x.length ∧ x.length ≤ 12 ∧ p ≤ q ∧ q ≤ p + 500 := by
  unfold spec_l5Recipe.f spec_l5Names.f
  simp only [Option.bind_some]
  generalize hns : ([(⟨#[98, 114, 101, 119]⟩ : ByteArray), (⟨#[102, 49]⟩ : ByteArray), (⟨#[102, 50]⟩ : ByteArray), (⟨#[103]⟩ : ByteArray), (⟨#[104]⟩ : ByteArray), (⟨#[109, 97, 115, 104]⟩ : ByteArray), (⟨#[114, 101, 115, 116]⟩ : ByteArray), (⟨#[120, 45, 57]⟩ : ByteArray)] : List ByteArray) = ns
  have hl : ns.length = 8 := by rw [← hns]; rfl
  clear hns
  obtain ⟨v, ev, v0, v1⟩ := pick_ok hb h0 (show p ≤ 1000000000 by omega) (ns.length : Int) k (by omega)
  rw [ev, Option.bind_some]
  have hv := v1 (by omega)
  obtain ⟨m, rfl⟩ := Int.eq_ofNat_of_zero_le v0
  have hw : wrap64 (1 + (m : Int)) = ((1 + m : Nat) : Int) := by rw [wrap_id (by omega) (by omega)]; omega
  simp only [hw]
  obtain ⟨y, q, ey, a1, a2, a3, a4⟩ := rec_l0 hb ns (by omega) (1 + m) (by omega) (by omega) (by omega) (1 + m) [] 0 (p + 1) k (by omega) (by omega) rfl (by omega) (by omega) (by omega)
  exact ⟨y, q, ey, a1, a2, by omega, by omega⟩

theorem spoil_l0 {b : List Int} (hb : Bytes b) (n : Nat) (hn : n ≤ 13) (d : Nat) : ∀ (x : List S39) (i p : Int) (k : Nat), n - x.length = d → x.length ≤ 13 → 0 ≤ i → i + d ≤ 12 → 0 ≤ p → p ≤ 700000000 - 20 * d → d + 3 ≤ k →
    ∃ y q, spec_l5Spoil.l0 k x (n : Int) i b p = some (y, q) ∧ y.length ≤ 13 ∧ p ≤ q ∧ q ≤ p + 20 * d := by
  induction d with
  | zero =>
    intro x i p k hd hx hi hi2 h0 h1 hk
    obtain ⟨k, rfl⟩ : ∃ m, k = m + 1 := ⟨k - 1, by omega⟩
    rw [spec_l5Spoil.l0, if_neg (by omega)]
    exact ⟨x, p, rfl, by omega, by omega, by omega⟩
  | succ d ih =>
    intro x i p k hd hx hi hi2 h0 h1 hk
    obtain ⟨k, rfl⟩ : ∃ m, k = m + 1 := ⟨k - 1, by omega⟩
    obtain ⟨t, et, ht⟩ := dec_ok i hi (by omega) k (by omega)
    obtain ⟨z, q, ez, h2, h3⟩ := drawn_phase hb h0 (show p ≤ 800000000 by omega) ((⟨#[122]⟩ : ByteArray) ++ t) [] (by simp) k (by omega)
    rw [spec_l5Spoil.l0, if_pos (by omega), et, Option.bind_some, if_pos (by omega), ez, Option.bind_some, if_pos (by omega), wrap_id (by omega) (by omega)]
    obtain ⟨y, q2, ey, a2, a3, a4⟩ := ih (x ++ [z]) (i + 1) q k (by simp; omega) (by simp; omega) (by omega) (by omega) (by omega) (by omega) (by omega)
    exact ⟨y, q2, ey, a2, by omega, by omega⟩

theorem spoil_ok {b : List Int} (hb : Bytes b) {p : Int} (h0 : 0 ≤ p) (h1 : p ≤ 500000000) (l : List S39) (hl1 : 1 ≤ l.length) (hl2 : l.length ≤ 12) (k : Nat) (hk : 60 ≤ k) :
    ∃ x q, spec_l5Spoil.f k b p l = some (x, q) ∧ x.length ≤ 13 ∧ p ≤ q ∧ q ≤ p + 500 := by
  unfold spec_l5Spoil.f
  simp only [Option.bind_some, List.nil_append]
  rw [if_pos (by simp; omega)]
  obtain ⟨v, ev, v0, v1⟩ := pick_ok hb h0 (show p ≤ 1000000000 by omega) (l.length : Int) k (by omega)
  obtain ⟨u, eu, u0, u1⟩ := pick_ok hb (show 0 ≤ p + 1 by omega) (show p + 1 ≤ 1000000000 by omega) 6 k (by omega)
  rw [ev, Option.bind_some, eu, Option.bind_some]
  have hv := v1 (by omega)
  split
  · simp only [v0, hv, if_true]
    rw [if_pos (by omega)]
    exact ⟨_, _, rfl, by simp; omega, by omega, by omega⟩
  · split
    · simp only [v0, hv, if_true]
      rw [if_pos (by omega)]
      exact ⟨_, _, rfl, by simp; omega, by omega, by omega⟩
    · split
      · obtain ⟨m, em, m0, m1⟩ := pick_ok hb (show 0 ≤ p + 1 + 1 by omega) (show p + 1 + 1 ≤ 1000000000 by omega) 2 k (by omega)
        rw [em, Option.bind_some]
        have hm := m1 (by omega)
        obtain ⟨j, rfl⟩ := Int.eq_ofNat_of_zero_le m0
        have hw : wrap64 (12 + (j : Int)) = ((12 + j : Nat) : Int) := by rw [wrap_id (by omega) (by omega)]; omega
        simp only [hw]
        obtain ⟨y, q, ey, a1, a2, a3⟩ := spoil_l0 hb (12 + j) (by omega) (12 + j - l.length) l 0 (p + 1 + 1 + 1) k rfl (by omega) (by omega) (by omega) (by omega) (by omega) (by omega)
        exact ⟨y, q, ey, by omega, by omega, by omega⟩
      · simp only [v0, hv, if_true]
        obtain ⟨y, q, ey, a1, a2⟩ := spoilt_phase hb (show 0 ≤ p + 1 + 1 by omega) (by omega) (rd_T39 l v) k (by omega)
        rw [ey]
        exact ⟨_, q, rfl, by simp; omega, by omega, by omega⟩

theorem any_ok {b : List Int} (hb : Bytes b) {p : Int} (h0 : 0 ≤ p) (h1 : p ≤ 400000000) (k : Nat) (hk : 60 ≤ k) :
    ∃ x q, spec_l5Any.f k b p = some (x, q) ∧ x.length ≤ 13 ∧ p ≤ q ∧ q ≤ p + 1100 := by
  unfold spec_l5Any.f
  obtain ⟨x, q, ex, x1, x2, x3, x4⟩ := recipe_ok hb h0 (by omega) k hk
  rw [ex, Option.bind_some]
  obtain ⟨v, ev, v0, v1⟩ := pick_ok hb (show 0 ≤ q by omega) (by omega) 24 k (by omega)
  simp only [ev, Option.bind_some]
  split
  · obtain ⟨y, q2, ey, y1, y2, y3⟩ := spoil_ok hb (show 0 ≤ q + 1 by omega) (by omega) x x1 x2 k hk
    rw [ey]
    exact ⟨y, q2, rfl, y1, by omega, by omega⟩
  · split
    · exact ⟨[], q + 1, rfl, by simp, by omega, by omega⟩
    · exact ⟨x, q + 1, rfl, by omega, by omega, by omega⟩
theorem from_ok {b : List Int} (hb : Bytes b) {p : Int} (h0 : 0 ≤ p) (h1 : p ≤ 500000000) (l : List S39) (hl : l.length ≤ 1000) (k : Nat) (hk : 60 ≤ k) :
    ∃ x q, spec_l5From.f k b p l = some (x, q) ∧ p ≤ q ∧ q ≤ p + 5 := by
  have hj : ∀ (c : Bool) (p : Int), 0 ≤ p → p ≤ 500000001 → (c = true → 1 ≤ l.length) → ∃ x q, spec_l5From.j0 k l c b p = some (x, q) ∧ p ≤ q ∧ q ≤ p + 1 := by
    intro c p h0 h1 hc
    obtain ⟨k, rfl⟩ : ∃ m, k = m + 1 := ⟨k - 1, by omega⟩
    rw [spec_l5From.j0]
    cases c with
    | true =>
      rw [if_pos rfl]
      obtain ⟨v, ev, v0, v1⟩ := pick_ok hb h0 (show p ≤ 1000000000 by omega) (l.length : Int) k (by omega)
      have := hc rfl
      rw [ev, Option.bind_some, if_pos v0, if_pos (v1 (by omega))]
      exact ⟨_, _, rfl, by omega, by omega⟩
    | false =>
      rw [if_neg (by decide)]
      obtain ⟨v, ev, _⟩ := of_ok hb h0 (show p ≤ 1000000000 by omega) ([(⟨#[103, 111, 111, 100]⟩ : ByteArray), (⟨#[115, 99, 114, 97, 112, 112, 101, 100]⟩ : ByteArray), (⟨#[110, 111, 110, 101]⟩ : ByteArray), (⟨#[]⟩ : ByteArray)] : List ByteArray) (by simp) k (by omega)
      rw [ev]
      exact ⟨_, _, rfl, by omega, by omega⟩
  unfold spec_l5From.f
  split
  · obtain ⟨v, ev, v0, v1⟩ := pick_ok hb h0 (show p ≤ 1000000000 by omega) 8 k (by omega)
    rw [ev, Option.bind_some]
    obtain ⟨x, q, e, a1, a2⟩ := hj (decide (v > 0)) (p + 1) (by omega) (by omega) (fun _ => by omega)
    exact ⟨x, q, e, by omega, by omega⟩
  · obtain ⟨x, q, e, a1, a2⟩ := hj false p (by omega) (by omega) (fun h => by cases h)
    exact ⟨x, q, e, by omega, by omega⟩
end Go.Proofs.Ytdkologncoofdaa.P
-- Q13
namespace Go.Proofs.Ytdkologncoofdaa.P
open Go.RowKit Go.Proofs.YtdkologncoofdaaW.PrintWords Go.Proofs.YtdkologncoofdaaW.PrintLast
theorem spec_cn (l : List S39) (h : recOk l = true) (e : Int) (n : Nat) : ∀ a k, n ≤ 100 → rk l a ≤ n → n + 15 ≤ k → spec_l2Can.f k l a e = some (canB l n a e) := by
  induction n with
  | zero =>
    intro a k _ hn hk
    obtain ⟨k, rfl⟩ : ∃ m, k = m + 1 := ⟨k - 1, by omega⟩
    have hlen := recOk_len l h
    have hr := atOf_range l a
    have h0 : atOf l a < 0 := by
      unfold rk at hn
      split at hn <;> omega
    simp only [spec_l2Can.f, spec_at l a (by omega) k (by omega), Option.bind_some, if_pos h0, spec_end, canB]
  | succ n ih =>
    intro a k hn1 hn hk
    obtain ⟨k, rfl⟩ : ∃ m, k = m + 1 := ⟨k - 1, by omega⟩
    have hlen := recOk_len l h
    have hr := atOf_range l a
    simp only [spec_l2Can.f, spec_at l a (by omega) k (by omega), Option.bind_some, canB]
    by_cases h0 : atOf l a < 0
    · rw [if_pos h0, if_pos h0, spec_end]; rfl
    · have hx := ok_ref l h a h0
      rw [if_neg h0, if_neg h0, if_pos (by omega), if_pos (by omega), ih _ k (by omega) (by omega) (by omega), ih _ k (by omega) (by omega) (by omega)]
      cases canB l n (rd_T39 l (atOf l a)).f6 e <;> simp
theorem spec_rc (l : List S39) (a : ByteArray) (e : Int) (k : Nat) (hk : 80 ≤ k) : spec_RecCan.f k l a e = some (canOf l a e) := by
  unfold spec_RecCan.f canOf
  rw [spec_ok l k (by omega), Option.bind_some]
  cases h : recOk l with
  | false => rfl
  | true =>
    rw [if_pos rfl, spec_in, Option.bind_some]
    cases hi : inB e 1 3 with
    | false => rfl
    | true => rw [if_pos rfl, spec_cn l h e 12 a k (by omega) (rk_le l h a) (by omega)]; rfl
end Go.Proofs.Ytdkologncoofdaa.P
-- Q15
namespace Go.Proofs.Ytdkologncoofdaa.P
open Go.RowKit Go.Proofs.YtdkologncoofdaaW.PrintWords Go.Proofs.YtdkologncoofdaaW.PrintLast
set_option linter.unusedVariables false
set_option linter.unusedSimpArgs false

theorem rd_getD (l : List S39) (i : Nat) : rd_T39 l (i : Int) = l.getD i z39 := by simp [rd_T39]
theorem wl0 (l : List S39) (hl : l.length ≤ 1000) (n tw : ByteArray) (K : Nat) (A6 A7 : Bool) (hrec : ¬ atOf l n < 0 → ∀ k, K ≤ k → laws_wReach.f k l (rd_T39 l (atOf l n)).f6 tw = some A6 ∧ laws_wReach.f k l (rd_T39 l (atOf l n)).f7 tw = some A7) (d : Nat) :
    ∀ (i k : Nat), i ≤ l.length → l.length - i = d → (∀ j, j < i → ((l.getD j z39).f0.toList == n.toList) = false) → d + K + 2 ≤ k → laws_wReach.l0 k l n tw (i : Int) = some (!(decide (atOf l n < 0)) && (A6 || A7)) := by
  induction d with
  | zero =>
    intro i k hi hd hb hk
    obtain ⟨k, rfl⟩ : ∃ m, k = m + 1 := ⟨k - 1, by omega⟩
    have h0 := atOf_miss l n (fun j hj => hb j (by omega))
    rw [laws_wReach.l0, if_neg (by omega), h0]
    rfl
  | succ d ih =>
    intro i k hi hd hb hk
    obtain ⟨k, rfl⟩ : ∃ m, k = m + 1 := ⟨k - 1, by omega⟩
    rw [laws_wReach.l0, if_pos (by omega), if_pos (by omega)]
    by_cases he : (rd_T39 l (i : Int)).f0.toList = n.toList
    · have ha := atOf_hit l n i (by omega) (by rw [← rd_getD]; simpa using he) hb
      have hr := hrec (by omega) k (by omega)
      rw [ha] at hr
      rw [if_pos he, hr.1, hr.2, ha]
      cases A6 <;> simp <;> omega
    · rw [if_neg he, wrap_id (by omega) (by omega)]
      refine ih (i + 1) k (by omega) (by omega) (fun j hj => ?_) (by omega)
      by_cases e : j = i
      · subst e; rw [← rd_getD]; simpa using he
      · exact hb j (by omega)
theorem wreach (l : List S39) (h : recOk l = true) (tw : ByteArray) (m : Nat) : ∀ (n : ByteArray) (k : Nat), rk l n ≤ m → 20 * (m + 1) ≤ k → laws_wReach.f k l n tw = some (R l n (ltr tw)) := by
  have hlen := recOk_len l h
  induction m with
  | zero =>
    intro n k hm hk
    obtain ⟨k, rfl⟩ : ∃ m, k = m + 1 := ⟨k - 1, by omega⟩
    have hr := atOf_range l n
    have h0 : atOf l n < 0 := by
      unfold rk at hm
      split at hm <;> omega
    rw [laws_wReach.f, R_step l h n]
    by_cases e : n.toList = tw.toList
    · rw [if_pos e, show (ltr n == ltr tw) = true by simpa [ltr_eq] using e]; rfl
    · rw [if_neg e, show (ltr n == ltr tw) = false by simpa [ltr_eq] using e, show (0 : Int) = ((0 : Nat) : Int) from rfl, wl0 l (by omega) n tw 0 false false (fun hh => absurd h0 hh) l.length 0 k (by omega) (by omega) (fun j hj => absurd hj (Nat.not_lt_zero _)) (by omega)]
      simp [h0]
  | succ m ih =>
    intro n k hm hk
    obtain ⟨k, rfl⟩ : ∃ m, k = m + 1 := ⟨k - 1, by omega⟩
    rw [laws_wReach.f, R_step l h n]
    by_cases e : n.toList = tw.toList
    · rw [if_pos e, show (ltr n == ltr tw) = true by simpa [ltr_eq] using e]; rfl
    · rw [if_neg e, show (ltr n == ltr tw) = false by simpa [ltr_eq] using e, show (0 : Int) = ((0 : Nat) : Int) from rfl, wl0 l (by omega) n tw (20 * (m + 1)) (R l (rd_T39 l (atOf l n)).f6 (ltr tw)) (R l (rd_T39 l (atOf l n)).f7 (ltr tw)) (fun hh k2 hk2 => by
        have hx := ok_ref l h n hh
        exact ⟨ih _ k2 (by omega) (by omega), ih _ k2 (by omega) (by omega)⟩) l.length 0 k (by omega) (by omega) (fun j hj => absurd hj (Nat.not_lt_zero _)) (by omega)]
      simp

/-- From a phase of a good recipe some end may come. -/
theorem can_some (l : List S39) (h : recOk l = true) (m : Nat) : ∀ n, rk l n ≤ m → (endOf n ≠ 0 ∨ ¬ atOf l n < 0) → ∃ e, 1 ≤ e ∧ e ≤ 3 ∧ canB l m n e = true := by
  induction m with
  | zero =>
    intro n hm hn
    have hr := atOf_range l n
    have h0 : atOf l n < 0 := by
      unfold rk at hm
      split at hm <;> omega
    have he := endOf_range n
    refine ⟨endOf n, by omega, by omega, by simp [canB]⟩
  | succ m ih =>
    intro n hm hn
    have hr := atOf_range l n
    by_cases h0 : atOf l n < 0
    · have he := endOf_range n
      exact ⟨endOf n, by omega, by omega, by simp [canB, h0]⟩
    · have hx := ok_ref l h n h0
      obtain ⟨i, hi⟩ := Int.eq_ofNat_of_zero_le (show 0 ≤ atOf l n by omega)
      have hok := recOk_at l h i (by omega)
      unfold okAt at hok
      simp only [Bool.and_eq_true] at hok
      obtain ⟨⟨⟨h1, _⟩, h6⟩, h7⟩ := hok
      unfold refOk at h6
      rw [← hi] at h6
      simp only [Bool.or_eq_true, Bool.not_eq_true', beq_eq_false_iff_ne, decide_eq_true_eq] at h6
      obtain ⟨e, e1, e2, e3⟩ := ih (rd_T39 l (atOf l n)).f6 (by omega) (h6.imp id (fun h6 => by omega))
      exact ⟨e, e1, e2, by rw [canB, if_neg h0, e3]; rfl⟩
theorem can_first (l : List S39) (h : recOk l = true) : ∃ e, 1 ≤ e ∧ e ≤ 3 ∧ canOf l (rd_T39 l 0).f0 e = true := by
  have hlen := recOk_len l h
  have hok := recOk_at l h 0 (by omega)
  unfold okAt at hok
  simp only [Bool.and_eq_true, beq_iff_eq] at hok
  have ha : atOf l (rd_T39 l 0).f0 = 0 := hok.1.1.2
  obtain ⟨e, e1, e2, e3⟩ := can_some l h 12 (rd_T39 l 0).f0 (rk_le l h _) (.inr (by omega))
  exact ⟨e, e1, e2, by unfold canOf; rw [h, inB_iff.mpr ⟨e1, e2⟩, e3]; rfl⟩
theorem canOf_reach (l : List S39) (h : recOk l = true) (n : ByteArray) (e : Int) (w : ByteArray) (he : 1 ≤ e ∧ e ≤ 3) (hw : ∀ m : ByteArray, endOf m = e ↔ m.toList = w.toList) : canOf l n e = R l n (ltr w) := by
  unfold canOf
  rw [h, inB_iff.mpr he, Bool.true_and, Bool.true_and]
  have hi := canB_iff l h e he.1 12 n (rk_le l h n)
  cases hR : R l n (ltr w) with
  | true => exact hi.mpr ⟨w, hR, (hw w).mpr rfl⟩
  | false =>
    cases hc : canB l 12 n e with
    | false => rfl
    | true =>
      obtain ⟨m, m1, m2⟩ := hi.mp hc
      have := (hw m).mp m2
      rw [ltr_eq, ltr_eq] at this
      rw [this, hR] at m1
      cases m1
end Go.Proofs.Ytdkologncoofdaa.P
-- PureFnCan
namespace Go.Proofs.Ytdkologncoofdaa.Pure
open Go.RowKit Go.Proofs.Ytdkologncoofdaa.P Go.Proofs.YtdkologncoofdaaW.PrintWords Go.Proofs.YtdkologncoofdaaW.PrintLast
set_option linter.unusedVariables false
set_option linter.unusedSimpArgs false

theorem drawnCan (l : List Int) (hb : ∀ x ∈ l, 0 ≤ x ∧ x ≤ 255) (k : Nat) (hk : 60 ≤ k) : ∃ x n e, spec_DrawRecCan.f k l = some (x, n, e) := by
  unfold spec_DrawRecCan.f
  obtain ⟨b, e0, hB⟩ := open_ok l hb
  rw [e0, Option.bind_some]
  obtain ⟨x, q, ex, x1, x2, x3⟩ := any_ok hB (p := 0) (by omega) (by omega) k hk
  simp only [ex, Option.bind_some]
  obtain ⟨n, q2, en, n1, n2⟩ := from_ok hB (p := q) (by omega) (by omega) x (by omega) k hk
  simp only [en, Option.bind_some]
  obtain ⟨v, ev, _, _⟩ := pick_ok hB (p := q2) (by omega) (by omega) 5 k (by omega)
  simp only [ev, Option.bind_some]
  exact ⟨x, n, v, rfl⟩

/-- One turn of the loop. -/
theorem turn (l : List S39) (h : recOk l = true) (n : ByteArray) (end_ : Int) (can some_ found : Bool) (e : Int) (he : 1 ≤ e ∧ e ≤ 3) (k : Nat) (hk : 300 ≤ k) :
    laws_FnCan.l0 (k + 1) l n end_ can some_ found e = laws_FnCan.l0 k l n end_ can (some_ || canOf l (rd_T39 l 0).f0 e)
      (found || (decide (e = end_) && ((R l n (ltr (⟨#[103, 111, 111, 100]⟩ : ByteArray)) && decide (e = 1)) || (R l n (ltr (⟨#[115, 97, 118, 101, 100]⟩ : ByteArray)) && decide (e = 2)) || (R l n (ltr (⟨#[115, 99, 114, 97, 112, 112, 101, 100]⟩ : ByteArray)) && decide (e = 3))))) (e + 1) := by
  have hlen := recOk_len l h
  have hW := fun tw => wreach l h tw 12 n k (rk_le l h n) (by omega)
  have hw : wrap64 (e + 1) = e + 1 := wrap_id (by omega) (by omega)
  rw [laws_FnCan.l0, if_pos he.2, if_pos (show 0 < (l.length : Int) by omega)]
  simp only [hW, impl_RecCan.f, Option.bind_some, hw]
  generalize R l n (ltr (⟨#[103, 111, 111, 100]⟩ : ByteArray)) = G
  generalize R l n (ltr (⟨#[115, 97, 118, 101, 100]⟩ : ByteArray)) = S
  generalize R l n (ltr (⟨#[115, 99, 114, 97, 112, 112, 101, 100]⟩ : ByteArray)) = C
  generalize canOf l (rd_T39 l 0).f0 e = A
  clear hW hw h
  by_cases hee : e = end_
  · subst hee
    rcases (show e = 1 ∨ e = 2 ∨ e = 3 by omega) with rfl | rfl | rfl <;> cases some_ <;> cases found <;> cases G <;> cases S <;> cases C <;> simp
  · cases some_ <;> cases found <;> simp [hee]
theorem endOf_1 (m : ByteArray) : endOf m = 1 ↔ m.toList = (⟨#[103, 111, 111, 100]⟩ : ByteArray).toList := by
  rw [show (⟨#[103, 111, 111, 100]⟩ : ByteArray).toList = [103, 111, 111, 100] by rw [ByteArray.toList_eq]]
  unfold endOf
  split
  · simp_all
  · split
    · simp_all
    · split <;> simp_all
theorem endOf_2 (m : ByteArray) : endOf m = 2 ↔ m.toList = (⟨#[115, 97, 118, 101, 100]⟩ : ByteArray).toList := by
  rw [show (⟨#[115, 97, 118, 101, 100]⟩ : ByteArray).toList = [115, 97, 118, 101, 100] by rw [ByteArray.toList_eq]]
  unfold endOf
  split
  · simp_all
  · split
    · simp_all
    · split <;> simp_all
theorem endOf_3 (m : ByteArray) : endOf m = 3 ↔ m.toList = (⟨#[115, 99, 114, 97, 112, 112, 101, 100]⟩ : ByteArray).toList := by
  rw [show (⟨#[115, 99, 114, 97, 112, 112, 101, 100]⟩ : ByteArray).toList = [115, 99, 114, 97, 112, 112, 101, 100] by rw [ByteArray.toList_eq]]
  unfold endOf
  split
  · simp_all
  · split
    · simp_all
    · split <;> simp_all

theorem FnCan : laws_FnCan.Pure := by
  intro l _ _ hw
  have hb : ∀ x ∈ l, 0 ≤ x ∧ x ≤ 255 := by
    intro x hx
    have := hw x hx
    simp [Lit.wf, IntKind.min, IntKind.max, IntKind.signed, IntKind.bits] at this
    omega
  refine ⟨400, ?_⟩
  unfold laws_FnCan.f
  by_cases h0 : (l.length : Int) > 1048576
  · rw [if_pos h0]
  · rw [if_neg h0]
    obtain ⟨x, n, e, hx⟩ := drawnCan l hb 400 (by omega)
    rw [hx, Option.bind_some]
    simp only [impl_RecCan.f, spec_rc x n e 400 (by omega), Option.bind_some, bne_self_eq_false, Bool.false_eq_true, if_false, impl_end n 396, spec_end]
    rw [laws_FnCan.j0, if_neg (by decide), spec_ok x 399 (by omega), Option.bind_some]
    cases hok : recOk x with
    | false => simp [canOf, hok]
    | true =>
      rw [if_pos rfl, turn x hok n e _ _ _ 1 (by omega) 398 (by omega), turn x hok n e _ _ _ (1 + 1) (by omega) 397 (by omega), turn x hok n e _ _ _ (1 + 1 + 1) (by omega) 396 (by omega)]
      rw [laws_FnCan.l0, if_neg (by decide)]
      obtain ⟨e1, a1, a2, a3⟩ := can_first x hok
      have hsome : (false || canOf x (rd_T39 x 0).f0 1 || canOf x (rd_T39 x 0).f0 (1 + 1) || canOf x (rd_T39 x 0).f0 (1 + 1 + 1)) = true := by
        rcases (show e1 = 1 ∨ e1 = 1 + 1 ∨ e1 = 1 + 1 + 1 by omega) with rfl | rfl | rfl <;> rw [a3] <;> simp
      rw [hsome, if_pos rfl]
      have h1 := canOf_reach x hok n 1 _ (by omega) endOf_1
      have h2 := canOf_reach x hok n 2 _ (by omega) endOf_2
      have h3 := canOf_reach x hok n 3 _ (by omega) endOf_3
      congr 1
      rw [← h1, ← h2, ← h3]
      by_cases b1 : e = 1
      · subst b1; simp
      · by_cases b2 : e = 2
        · subst b2; simp
        · by_cases b3 : e = 3
          · subst b3; simp
          · have hc : canOf x n e = false := by
              unfold canOf
              have : inB e 1 3 = false := by
                cases hi : inB e 1 3 with
                | false => rfl
                | true => have := inB_iff.mp hi; omega
              rw [this]; simp
            rw [hc]
            simp [show ¬ (1 : Int) = e by omega, show ¬ (2 : Int) = e by omega, show ¬ (3 : Int) = e by omega]
end Go.Proofs.Ytdkologncoofdaa.Pure
