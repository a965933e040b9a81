/-
  Layer 5: term.size, Check, Size; the law's over, walked. Conditions: none.
-/
import Derived.Test.YtfenikoajadiaaaTmC
namespace Go.Proofs.Ytfenikoajadiaaa
open Go Go.RowKit
set_option linter.unusedSimpArgs false
set_option linter.unusedVariables false


theorem AtC.old {F : Nat → Prop} {w : World} {b : Nat} : ∀ {ts : List Tm} {o : Nat}, (∀ t ∈ ts, ∀ cs, TmC F w cs t → TmC (fun j => F j ∧ j < w.heap.size) w cs t) → AtC F w b o ts → AtC (fun j => F j ∧ j < w.heap.size) w b o ts
  | [], _, _, _ => by unfold AtC; trivial
  | t :: ts, o, ih, h => by
    unfold AtC at h ⊢
    obtain ⟨⟨cs, h1, h2, h3⟩, h4⟩ := h
    exact ⟨⟨cs, h1, h2, ih t List.mem_cons_self cs h3⟩, AtC.old (fun t ht => ih t (List.mem_cons_of_mem _ ht)) h4⟩
theorem TmC.old' {F : Nat → Prop} {w : World} : ∀ (t : Tm) (cs : List Value), TmC F w cs t → TmC (fun j => F j ∧ j < w.heap.size) w cs t := by
  refine Tm.ind fun k u n s ks ih cs h => ?_
  unfold TmC at h ⊢
  obtain ⟨ao, c, h1, h2, h3, h4⟩ := h
  refine ⟨ao, c, h1, h2, h3, fun h0 => ?_⟩
  obtain ⟨b, o, e, hF, hb, ha⟩ := h4 h0
  exact ⟨b, o, e, ⟨hF, hb⟩, hb, AtC.old ih ha⟩
/-- what stands in a world's memory -/
theorem TmC.old {F : Nat → Prop} {w : World} {cs : List Value} {t : Tm} (h : TmC F w cs t) : TmC (· < w.heap.size) w cs t := (TmC.old' t cs h).mono fun _ h => h.2
theorem SlT.old {F : Nat → Prop} {w : World} {v : Value} {ts : List Tm} (h : SlT F w v ts) : SlT (· < w.heap.size) w v ts := by
  have h1 : TmC F w (tmC 0 0 0 ⟨#[]⟩ v) (.mk 0 0 0 ⟨#[]⟩ ts) := TmC_iff.2 ⟨v, rfl, h⟩
  obtain ⟨v', e, h2⟩ := TmC_iff.1 h1.old
  simp only [tmC, List.cons.injEq, and_true, true_and] at e
  subst e; exact h2

/-- a term's size; 0: it may not be -/
def sizeT (t : Tm) : Int := if (walkM t 1 1200).1 = true then 1200 - (walkM t 1 1200).2 else 0
def overB (t : Tm) : Bool := (largeM t 1 1500).1
theorem sizeT_bd (t : Tm) : 0 ≤ sizeT t ∧ sizeT t ≤ 1200 := by
  unfold sizeT
  by_cases h : (walkM t 1 1200).1 = true
  · rw [if_pos h]; have := walkM_bd t 1 1200 h; omega
  · rw [if_neg h]; omega
theorem sizeT_ok {t : Tm} : sizeT t ≠ 0 ↔ (walkM t 1 1200).1 = true := by
  unfold sizeT
  by_cases h : (walkM t 1 1200).1 = true
  · rw [if_pos h]; have := walkM_bd t 1 1200 h; exact ⟨fun _ => h, fun _ => by omega⟩
  · rw [if_neg h]; exact ⟨fun h2 => (h2 rfl).elim, fun h2 => (h h2).elim⟩
theorem below_var {w W : World} {g : Nat} {x : Value} {e : TypeId} (hb : Below w.heap.size w W) : Below w.heap.size w ((W.alloc (.cells #[Value.int .i64 0] e)).setCell ⟨W.heap.size, 0, none⟩ x) :=
  below_ch (below_thn hb ((Below.refl W.heap.size W).alloc (Nat.le_refl _) _) (Nat.le_refl _)) (Ch.set _ ⟨W.heap.size, 0, none⟩ x) (Nat.le_refl _) (fun k hk => by have e : k = W.heap.size := hk; have := hb.size; omega)


theorem Try.zeroI : ∀ w, (zeroValue 3).run Try.prog w = .ok (.int .i64 0) w := fun w => by kernel_rfl
/-- a variable of type int -/
theorem wpList_alloc_int (w : World) {ops : Array Oper} {rest : List Oper} {o : Oper} {a : Act} {Q : Exit → Act → World → Prop} (hgd : o.guard = none) (ho : o.op = .alloc 3)
    (h : ∀ w', Blk w' w.heap.size 3 [.int .i64 0] → Below w.heap.size w w' → w'.heap.size = w.heap.size + 1 → wpList Try.prog ops Q rest (a.put o.dst (.pointer (some ⟨w.heap.size, 0, none⟩))) w') : wpList Try.prog ops Q (o :: rest) a w := by
  refine wpList_plain hgd fun K hK => ?_
  have hrun : (execOp a.eval o).run Try.prog w = .ok (.value (.pointer (some ⟨w.heap.size, 0, none⟩))) (w.alloc (.cells [Value.int .i64 0].toArray 3)) := by
    simp [execOp, ho, Instr.alloc, Try.zeroI, Result.andThen, run_newVar', Value.cells]
  unfold Oper.wp
  rw [hrun]
  exact hK _ _ (h _ (Blk.new w _ _) ((Below.refl _ _).alloc (Nat.le_refl _) _) (World.size_alloc _ _))


set_option maxRecDepth 100000 in
set_option maxHeartbeats 4000000 in
theorem size_any (t : Tm) (cs : List Value) (F : Nat → Prop) (w : World) (ht : TmC F w cs t) :
    Calls Try.prog 45 #[.agg cs.toArray] w (fun e w' => e = .returned (.int .i64 (sizeT t)) ∧ Below w.heap.size w w') := by
  have h1 := ht.old
  obtain ⟨ao, c, rfl, -, -, -⟩ := ht.shape
  clear ht
  have HT := Lib.hid h1
  obtain ⟨⟨rb, l2⟩, hr⟩ : ∃ r, walkM t 1 1200 = r := ⟨_, rfl⟩
  have HR := Lib.hid hr
  obtain ⟨P, hP⟩ : ∃ P : Value, (.int .i64 (sizeT t)) = P := ⟨_, rfl⟩
  have HP := Lib.hid hP
  rw [hP]
  clear h1 hr hP
  generalize t.ks.length = m at HT ⊢
  generalize t.k = k at HT ⊢
  generalize t.u = u at HT ⊢
  generalize t.n = n at HT ⊢
  generalize t.s = s at HT ⊢
  have H0 := Lib.hid (Below.refl w.heap.size w)
  go_enter Try.func45, Try.ntmps45
  go_wp2_with (first
    | ((with_reducible refine wpList_box_blk w rfl 24 (.tmp 0) rfl (tmC k u n s (.slice ao m c)) rfl ?_); intro a1 hb hbel hsz; have HA1 := Lib.hid (show Below w.heap.size w a1 ∧ Blk a1 w.heap.size 24 (tmC k u n s (.slice ao m c)) from ⟨below_thn H0.out hbel (Nat.le_refl _), hb⟩); clear hb hbel hsz)
    | ((with_reducible refine wpList_alloc_int a1 rfl rfl ?_); intro b1 hb hbel hsz; have HB := Lib.hid (And.intro hb hbel); clear hb hbel hsz)
    | ((with_reducible refine wpList_store1 b1 rfl 3 (.tmp 3) (.const (.int .i64 1200)) rfl a1.heap.size 0 3 [.int .i64 0] HB.out.1 rfl (.int .i64 1200) rfl (by simp) Try.sizeInt1 rfl rfl ?_); intro a2 hb hc hs; have hbw := below_ch HB.out.2 hc (Nat.le_refl _) (fun k hk => by have e : k = a1.heap.size := hk; omega); have HA2 := Lib.hid (show Below w.heap.size w a2 ∧ Blk a2 w.heap.size 24 (tmC k u n s (.slice ao m c)) ∧ Blk a2 a1.heap.size 3 ([.int .i64 1200]) from ⟨below_thn HA1.out.1 hbw (Nat.le_refl _), HA1.out.2.below hbw HA1.out.2.lt, hb⟩); clear hb hc hs hbw)
    | (with_reducible refine wpList_load_any rfl 24 (.tmp 1) rfl w.heap.size 0 rfl (tmC k u n s (.slice ao m c)) _ (rangeW_blk HA2.out.2.1) Try.underlying24 rfl (tmC_info _ _ _ _ _) ?_))
  have hx := walk_any t _ (· < w.heap.size) 1 1200 a1.heap.size a2 ((HT.out.below HA2.out.1)) (fun j hj e => by have h1 := HA1.out.2.lt; have h2 : j < w.heap.size := hj; omega) HA2.out.2.2 (by omega) (by omega) (by omega) (by omega)
  rw [HR.out] at hx
  refine Calls.mono hx ?_
  clear hx
  rintro e' a3 ⟨rfl, hb, hc⟩
  have HA3 := Lib.hid (show Below w.heap.size w a3 ∧ Blk a3 a1.heap.size 3 ([.int .i64 l2]) from ⟨below_ch HA2.out.1 hc (Nat.le_refl _) (fun k hk => by have e : k = a1.heap.size := hk; have := HA1.out.2.lt; omega), hb⟩)
  clear hb hc
  have cl := HA3.out.2.cell 0
  simp only [List.getElem?_cons_zero] at cl
  cases rb
  · have HE := Lib.hid (show P = .int .i64 0 from by rw [← HP.out]; unfold sizeT; rw [HR.out]; rfl)
    go_wp2_with fail
    go_ret
    exact ⟨by rw [HE.out]; rfl, HA3.out.1⟩
  · have HE := Lib.hid (show P = .int .i64 (1200 - l2) from by rw [← HP.out]; unfold sizeT; rw [HR.out]; rfl)
    have hbd := walkM_bd t 1 1200 (by rw [HR.out])
    rw [HR.out] at hbd
    have h1 : 0 ≤ l2 := hbd.1
    have h2 : l2 < 1200 := hbd.2
    have h3 : -9223372036854775808 ≤ 1200 - l2 := by omega
    have h4 : 1200 - l2 ≤ 9223372036854775807 := by omega
    clear hbd
    go_wp2_with fail
    go_ret
    exact ⟨by rw [HE.out]; rfl, HA3.out.1⟩


set_option maxRecDepth 100000 in
set_option maxHeartbeats 4000000 in
theorem over_any (t : Tm) (cs : List Value) (F : Nat → Prop) (w : World) (ht : TmC F w cs t) :
    Calls Try.prog 10 #[.agg cs.toArray] w (fun e w' => e = .returned (.bool (overB t)) ∧ Below w.heap.size w w') := by
  have h1 := ht.old
  obtain ⟨ao, c, rfl, -, -, -⟩ := ht.shape
  clear ht
  have HT := Lib.hid h1
  obtain ⟨⟨rb, l2⟩, hr⟩ : ∃ r, largeM t 1 1500 = r := ⟨_, rfl⟩
  have HR := Lib.hid hr
  obtain ⟨P, hP⟩ : ∃ P : Value, (.bool (overB t)) = P := ⟨_, rfl⟩
  have HP := Lib.hid hP
  rw [hP]
  clear h1 hr hP
  generalize t.ks.length = m at HT ⊢
  generalize t.k = k at HT ⊢
  generalize t.u = u at HT ⊢
  generalize t.n = n at HT ⊢
  generalize t.s = s at HT ⊢
  have H0 := Lib.hid (Below.refl w.heap.size w)
  go_enter Try.func10, Try.ntmps10
  go_wp2_with (first
    | ((with_reducible refine wpList_box_blk w rfl 24 (.tmp 0) rfl (tmC k u n s (.slice ao m c)) rfl ?_); intro a1 hb hbel hsz; have HA1 := Lib.hid (show Below w.heap.size w a1 ∧ Blk a1 w.heap.size 24 (tmC k u n s (.slice ao m c)) from ⟨below_thn H0.out hbel (Nat.le_refl _), hb⟩); clear hb hbel hsz)
    | ((with_reducible refine wpList_alloc_int a1 rfl rfl ?_); intro b1 hb hbel hsz; have HB := Lib.hid (And.intro hb hbel); clear hb hbel hsz)
    | ((with_reducible refine wpList_store1 b1 rfl 3 (.tmp 3) (.const (.int .i64 1500)) rfl a1.heap.size 0 3 [.int .i64 0] HB.out.1 rfl (.int .i64 1500) rfl (by simp) Try.sizeInt1 rfl rfl ?_); intro a2 hb hc hs; have hbw := below_ch HB.out.2 hc (Nat.le_refl _) (fun k hk => by have e : k = a1.heap.size := hk; omega); have HA2 := Lib.hid (show Below w.heap.size w a2 ∧ Blk a2 w.heap.size 24 (tmC k u n s (.slice ao m c)) ∧ Blk a2 a1.heap.size 3 ([.int .i64 1500]) from ⟨below_thn HA1.out.1 hbw (Nat.le_refl _), HA1.out.2.below hbw HA1.out.2.lt, hb⟩); clear hb hc hs hbw)
    | (with_reducible refine wpList_load_any rfl 24 (.tmp 1) rfl w.heap.size 0 rfl (tmC k u n s (.slice ao m c)) _ (rangeW_blk HA2.out.2.1) Try.underlying24 rfl (tmC_info _ _ _ _ _) ?_))
  have hx := large_any t _ (· < w.heap.size) 1 1500 a1.heap.size a2 ((HT.out.below HA2.out.1)) (fun j hj e => by have h1 := HA1.out.2.lt; have h2 : j < w.heap.size := hj; omega) HA2.out.2.2 (by omega) (by omega) (by omega) (by omega)
  rw [HR.out] at hx
  refine Calls.mono hx ?_
  clear hx
  rintro e' a3 ⟨rfl, hb, hc⟩
  have HA3 := Lib.hid (show Below w.heap.size w a3 ∧ Blk a3 a1.heap.size 3 ([.int .i64 l2]) from ⟨below_ch HA2.out.1 hc (Nat.le_refl _) (fun k hk => by have e : k = a1.heap.size := hk; have := HA1.out.2.lt; omega), hb⟩)
  clear hb hc
  have HE := Lib.hid (show P = .bool rb from by rw [← HP.out]; unfold overB; rw [HR.out])
  go_wp2_with fail
  go_ret
  exact ⟨by rw [HE.out]; rfl, HA3.out.1⟩


def checkN (t : Tm) : Int := if sizeT t = 0 then 150 else 0
set_option maxRecDepth 100000 in
theorem check_any (t : Tm) (cs : List Value) (F : Nat → Prop) (w : World) (ht : TmC F w cs t) :
    Calls Try.prog 22 #[.agg cs.toArray] w (fun e w' => e = .returned (.int .i64 (checkN t)) ∧ Below w.heap.size w w') := by
  obtain ⟨ao, c, rfl, -, -, -⟩ := ht.shape
  have HT := Lib.hid ht
  obtain ⟨x, hx⟩ : ∃ x, sizeT t = x := ⟨_, rfl⟩
  have HX := Lib.hid hx
  have HC := Lib.hid (show checkN t = if x = 0 then 150 else 0 from by unfold checkN; rw [hx])
  clear ht hx
  generalize t.ks.length = m at HT ⊢
  generalize t.k = k at HT ⊢
  generalize t.u = u at HT ⊢
  generalize t.n = n at HT ⊢
  generalize t.s = s at HT ⊢
  have H0 := Lib.hid (Below.refl w.heap.size w)
  go_enter Try.func22, Try.ntmps22
  go_wp2_with (first
    | ((with_reducible refine wpList_box_blk w rfl 24 (.tmp 0) rfl (tmC k u n s (.slice ao m c)) rfl ?_); intro a1 hb hbel hsz; have HA1 := Lib.hid (show Below w.heap.size w a1 ∧ Blk a1 w.heap.size 24 (tmC k u n s (.slice ao m c)) from ⟨below_thn H0.out hbel (Nat.le_refl _), hb⟩); clear hb hbel hsz)
    | (with_reducible refine wpList_load_any rfl 24 (.tmp 1) rfl w.heap.size 0 rfl (tmC k u n s (.slice ao m c)) _ (rangeW_blk HA1.out.2) Try.underlying24 rfl (tmC_info _ _ _ _ _) ?_))
  have hx := size_any t _ F a1 (HT.out.below HA1.out.1)
  rw [HX.out] at hx
  refine Calls.mono hx ?_
  clear hx
  rintro e' a2 ⟨rfl, hb⟩
  have HB := Lib.hid (below_thn HA1.out.1 hb (Nat.le_refl _))
  clear hb
  by_cases h0 : x = 0
  · have e1 : (x == 0) = true := by simpa using h0
    have HE := Lib.hid (show checkN t = 150 from by rw [HC.out]; exact if_pos h0)
    clear h0
    go_wp2_with fail
    go_ret
    exact ⟨by rw [HE.out]; rfl, HB.out⟩
  · have e1 : (x == 0) = false := by simpa using h0
    have HE := Lib.hid (show checkN t = 0 from by rw [HC.out]; exact if_neg h0)
    clear h0
    go_wp2_with fail
    go_ret
    exact ⟨by rw [HE.out]; rfl, HB.out⟩
set_option maxRecDepth 100000 in
theorem Size_any (t : Tm) (cs : List Value) (F : Nat → Prop) (w : World) (ht : TmC F w cs t) :
    Calls Try.prog 23 #[.agg cs.toArray] w (fun e w' => e = .returned (.int .i64 (sizeT t)) ∧ Below w.heap.size w w') := by
  obtain ⟨ao, c, rfl, -, -, -⟩ := ht.shape
  have HT := Lib.hid ht
  obtain ⟨x, hx⟩ : ∃ x, sizeT t = x := ⟨_, rfl⟩
  have HX := Lib.hid hx
  rw [hx]
  clear ht hx
  generalize t.ks.length = m at HT ⊢
  generalize t.k = k at HT ⊢
  generalize t.u = u at HT ⊢
  generalize t.n = n at HT ⊢
  generalize t.s = s at HT ⊢
  have H0 := Lib.hid (Below.refl w.heap.size w)
  go_enter Try.func23, Try.ntmps23
  go_wp2_with (first
    | ((with_reducible refine wpList_box_blk w rfl 24 (.tmp 0) rfl (tmC k u n s (.slice ao m c)) rfl ?_); intro a1 hb hbel hsz; have HA1 := Lib.hid (show Below w.heap.size w a1 ∧ Blk a1 w.heap.size 24 (tmC k u n s (.slice ao m c)) from ⟨below_thn H0.out hbel (Nat.le_refl _), hb⟩); clear hb hbel hsz)
    | (with_reducible refine wpList_load_any rfl 24 (.tmp 1) rfl w.heap.size 0 rfl (tmC k u n s (.slice ao m c)) _ (rangeW_blk HA1.out.2) Try.underlying24 rfl (tmC_info _ _ _ _ _) ?_))
  have hx := size_any t _ F a1 (HT.out.below HA1.out.1)
  rw [HX.out] at hx
  refine Calls.mono hx ?_
  clear hx
  rintro e' a2 ⟨rfl, hb⟩
  have HB := Lib.hid (below_thn HA1.out.1 hb (Nat.le_refl _))
  clear hb
  go_wp2_with fail
  go_ret
  exact ⟨rfl, HB.out⟩


end Go.Proofs.Ytfenikoajadiaaa
