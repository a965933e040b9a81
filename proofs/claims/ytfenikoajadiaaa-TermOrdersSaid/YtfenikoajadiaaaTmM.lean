/-
  Layer 5: law 05: TermEncodes, walked. Conditions: none.
-/
import Derived.Test.YtfenikoajadiaaaTmJ
import Derived.Test.YtfenikoajadiaaaTmX
import Derived.Test.YtfenikoajadiaaaFrameT
import Derived.Test.YtfenikoajadiaaaRefo
namespace Go.Proofs.Ytfenikoajadiaaa
open Go Go.RowKit
set_option linter.unusedSimpArgs false
set_option linter.unusedVariables false


set_option maxRecDepth 100000 in
set_option maxHeartbeats 16000000 in
theorem termEncodes_walk (t : Tm) (cs : List Value) (w : World) (ht : TmC AnyF w cs t) : Calls Try.prog 5 #[.agg cs.toArray] w (TrueP w) := by
  obtain ⟨ao, c, rfl, -, -, -⟩ := ht.shape
  have HT := Lib.hid ht.old
  obtain ⟨ov, hov⟩ : ∃ x, overB t = x := ⟨_, rfl⟩
  have EO := Lib.hid hov
  obtain ⟨z, hz⟩ : ∃ x, sizeT t = x := ⟨_, rfl⟩
  have EZ := Lib.hid hz
  clear ht hov hz
  generalize t.ks.length = m at HT ⊢
  generalize t.k = k at HT ⊢
  generalize t.u = u at HT ⊢
  generalize t.n = n at HT ⊢
  generalize t.s = s at HT ⊢
  have H0 := Lib.hid (Below.refl w.heap.size w)
  go_enter Try.func5, Try.ntmps5
  go_wp2_with (first
    | ((with_reducible refine wpList_box_blk w rfl 24 (.tmp 0) rfl (tmC k u n s (.slice ao m c)) rfl ?_); intro a1 hb hbel hsz; have HA1 := Lib.hid (show Below w.heap.size w a1 ∧ Blk a1 w.heap.size 24 (tmC k u n s (.slice ao m c)) from ⟨below_thn H0.out hbel (Nat.le_refl _), hb⟩); clear hb hbel hsz))
  have hx := wakes5_any a1
  refine Calls.mono hx ?_
  clear hx
  rintro e' y1 ⟨rfl, hb⟩
  have HY2 := Lib.hid (show Below w.heap.size w y1 ∧ Blk y1 w.heap.size 24 (tmC k u n s (.slice ao m c)) from ⟨below_thn HA1.out.1 hb (Nat.le_refl _), HA1.out.2.below hb HA1.out.2.lt⟩)
  clear hb
  go_wp2_with (first
    | (with_reducible refine wpList_load_any rfl 24 (.tmp 1) rfl w.heap.size 0 rfl (tmC k u n s (.slice ao m c)) _ (rangeW_blk HY2.out.2) Try.underlying24 rfl (tmC_info _ _ _ _ _) ?_)
    | ((with_reducible refine wpList_load_want ?_ 24 (.tmp 1) rfl w.heap.size 0 rfl (tmC k u n s (.slice ao m c)) _ (rangeW_blk HY2.out.2) Try.underlying24 rfl (tmC_info _ _ _ _ _) ?_); focus rfl))
  have hx := over_any t _ _ y1 (HT.out.below HY2.out.1)
  rw [EO.out] at hx
  refine Calls.mono hx ?_
  clear hx
  rintro e' y3 ⟨rfl, hb⟩
  have HY4 := Lib.hid (show Below w.heap.size w y3 ∧ Blk y3 w.heap.size 24 (tmC k u n s (.slice ao m c)) from ⟨below_thn HY2.out.1 hb (Nat.le_refl _), HY2.out.2.below hb HY2.out.2.lt⟩)
  clear hb
  cases ov
  rotate_left
  · skip
    go_wp2_with fail
    go_ret
    exact ⟨rfl, HY4.out.1⟩
  go_wp2_with (first
    | (with_reducible refine wpList_load_any rfl 24 (.tmp 1) rfl w.heap.size 0 rfl (tmC k u n s (.slice ao m c)) _ (rangeW_blk HY4.out.2) Try.underlying24 rfl (tmC_info _ _ _ _ _) ?_)
    | ((with_reducible refine wpList_load_want ?_ 24 (.tmp 1) rfl w.heap.size 0 rfl (tmC k u n s (.slice ao m c)) _ (rangeW_blk HY4.out.2) Try.underlying24 rfl (tmC_info _ _ _ _ _) ?_); focus rfl))
  refine (encode_any t _ _ y3 (HT.out.below HY4.out.1)).mono ?_
  rintro e' y5 ⟨xo, xc, rfl, hrow, hb⟩
  obtain ⟨xl, hxl⟩ : ∃ l, (encT t).length = l := ⟨_, rfl⟩
  have LX := Lib.hid hxl
  rw [hxl] at hrow ⊢
  have HY6 := Lib.hid (show Below w.heap.size w y5 ∧ Blk y5 w.heap.size 24 (tmC k u n s (.slice ao m c)) ∧ Sl y5 (.slice xo xl xc) (ofK .u8 (encT t)) from ⟨below_thn HY4.out.1 hb (Nat.le_refl _), HY4.out.2.below hb HY4.out.2.lt, Sl.of_owns hrow⟩)
  clear hrow hb hxl
  go_wp2_with (first
    | (with_reducible refine wpList_load_any rfl 24 (.tmp 1) rfl w.heap.size 0 rfl (tmC k u n s (.slice ao m c)) _ (rangeW_blk HY6.out.2.1) Try.underlying24 rfl (tmC_info _ _ _ _ _) ?_)
    | ((with_reducible refine wpList_load_want ?_ 24 (.tmp 1) rfl w.heap.size 0 rfl (tmC k u n s (.slice ao m c)) _ (rangeW_blk HY6.out.2.1) Try.underlying24 rfl (tmC_info _ _ _ _ _) ?_); focus rfl))
  have hx := rsize_any t _ _ 1200 60 y5 (HT.out.below HY6.out.1) (by omega) (by omega) (by omega) (by omega)
  rw [sizeR_top] at hx
  refine Calls.mono hx ?_
  clear hx
  rintro e' y7 ⟨rfl, hb⟩
  have HY8 := Lib.hid (show Below w.heap.size w y7 ∧ Blk y7 w.heap.size 24 (tmC k u n s (.slice ao m c)) ∧ Sl y7 (.slice xo xl xc) (ofK .u8 (encT t)) from ⟨below_thn HY6.out.1 hb (Nat.le_refl _), HY6.out.2.1.below hb HY6.out.2.1.lt, HY6.out.2.2.below hb (Nat.le_refl _)⟩)
  clear hb
  rw [EZ.out]
  by_cases hz : z = 0
  · have ED := Lib.hid (show decide (z ≠ 0) = false from decide_eq_false (by simpa using hz))
    have ZZ := Lib.hid (show sizeT t = 0 from by rw [EZ.out]; exact hz)
    rw [ED.out, show checkN t = 150 from if_pos ZZ.out]
    have e0 : xl = 0 := by rw [← LX.out]; unfold encT; rw [if_pos ZZ.out]; rfl
    subst e0
    subst hz
    go_wp2_with (first
    | (with_reducible refine wpList_load_any rfl 24 (.tmp 1) rfl w.heap.size 0 rfl (tmC k u n s (.slice ao m c)) _ (rangeW_blk HY8.out.2.1) Try.underlying24 rfl (tmC_info _ _ _ _ _) ?_)
    | ((with_reducible refine wpList_load_want ?_ 24 (.tmp 1) rfl w.heap.size 0 rfl (tmC k u n s (.slice ao m c)) _ (rangeW_blk HY8.out.2.1) Try.underlying24 rfl (tmC_info _ _ _ _ _) ?_); focus rfl))
    have hx := check_any t _ _ y7 (HT.out.below HY8.out.1)
    rw [show checkN t = 150 from if_pos ZZ.out] at hx
    refine Calls.mono hx ?_
    clear hx
    rintro e' y9 ⟨rfl, hb⟩
    have HY10 := Lib.hid (show Below w.heap.size w y9 ∧ Blk y9 w.heap.size 24 (tmC k u n s (.slice ao m c)) ∧ Sl y9 (.slice xo 0 xc) (ofK .u8 (encT t)) from ⟨below_thn HY8.out.1 hb (Nat.le_refl _), HY8.out.2.1.below hb HY8.out.2.1.lt, HY8.out.2.2.below hb (Nat.le_refl _)⟩)
    clear hb
    go_wp2_with (first
    | (with_reducible refine wpList_load_any rfl 24 (.tmp 1) rfl w.heap.size 0 rfl (tmC k u n s (.slice ao m c)) _ (rangeW_blk HY10.out.2.1) Try.underlying24 rfl (tmC_info _ _ _ _ _) ?_)
    | ((with_reducible refine wpList_load_want ?_ 24 (.tmp 1) rfl w.heap.size 0 rfl (tmC k u n s (.slice ao m c)) _ (rangeW_blk HY10.out.2.1) Try.underlying24 rfl (tmC_info _ _ _ _ _) ?_); focus rfl))
    have hx := Size_any t _ _ y9 (HT.out.below HY10.out.1)
    rw [ZZ.out] at hx
    refine Calls.mono hx ?_
    clear hx
    rintro e' y11 ⟨rfl, hb⟩
    have HY12 := Lib.hid (show Below w.heap.size w y11 ∧ Blk y11 w.heap.size 24 (tmC k u n s (.slice ao m c)) ∧ Sl y11 (.slice xo 0 xc) (ofK .u8 (encT t)) from ⟨below_thn HY10.out.1 hb (Nat.le_refl _), HY10.out.2.1.below hb HY10.out.2.1.lt, HY10.out.2.2.below hb (Nat.le_refl _)⟩)
    clear hb
    go_wp2_with fail
    go_ret
    exact ⟨rfl, HY12.out.1⟩
  · have ED := Lib.hid (show decide (z ≠ 0) = true from decide_eq_true hz)
    have ZZ := Lib.hid (show sizeT t ≠ 0 from by rw [EZ.out]; exact hz)
    have GG := Lib.hid (sizeT_good ZZ.out)
    rw [ED.out, show checkN t = 0 from if_neg ZZ.out]
    have zz : (z == z) = true := by simp
    clear hz
    go_wp2_with (first
    | (with_reducible refine wpList_load_any rfl 24 (.tmp 1) rfl w.heap.size 0 rfl (tmC k u n s (.slice ao m c)) _ (rangeW_blk HY8.out.2.1) Try.underlying24 rfl (tmC_info _ _ _ _ _) ?_)
    | ((with_reducible refine wpList_load_want ?_ 24 (.tmp 1) rfl w.heap.size 0 rfl (tmC k u n s (.slice ao m c)) _ (rangeW_blk HY8.out.2.1) Try.underlying24 rfl (tmC_info _ _ _ _ _) ?_); focus rfl))
    have hx := check_any t _ _ y7 (HT.out.below HY8.out.1)
    rw [show checkN t = 0 from if_neg ZZ.out] at hx
    refine Calls.mono hx ?_
    clear hx
    rintro e' y13 ⟨rfl, hb⟩
    have HY14 := Lib.hid (show Below w.heap.size w y13 ∧ Blk y13 w.heap.size 24 (tmC k u n s (.slice ao m c)) ∧ Sl y13 (.slice xo xl xc) (ofK .u8 (encT t)) from ⟨below_thn HY8.out.1 hb (Nat.le_refl _), HY8.out.2.1.below hb HY8.out.2.1.lt, HY8.out.2.2.below hb (Nat.le_refl _)⟩)
    clear hb
    go_wp2_with (first
    | (with_reducible refine wpList_load_any rfl 24 (.tmp 1) rfl w.heap.size 0 rfl (tmC k u n s (.slice ao m c)) _ (rangeW_blk HY14.out.2.1) Try.underlying24 rfl (tmC_info _ _ _ _ _) ?_)
    | ((with_reducible refine wpList_load_want ?_ 24 (.tmp 1) rfl w.heap.size 0 rfl (tmC k u n s (.slice ao m c)) _ (rangeW_blk HY14.out.2.1) Try.underlying24 rfl (tmC_info _ _ _ _ _) ?_); focus rfl))
    have hx := Size_any t _ _ y13 (HT.out.below HY14.out.1)
    rw [EZ.out] at hx
    refine Calls.mono hx ?_
    clear hx
    rintro e' y15 ⟨rfl, hb⟩
    have HY16 := Lib.hid (show Below w.heap.size w y15 ∧ Blk y15 w.heap.size 24 (tmC k u n s (.slice ao m c)) ∧ Sl y15 (.slice xo xl xc) (ofK .u8 (encT t)) from ⟨below_thn HY14.out.1 hb (Nat.le_refl _), HY14.out.2.1.below hb HY14.out.2.1.lt, HY14.out.2.2.below hb (Nat.le_refl _)⟩)
    clear hb
    go_wp2_with (first
    | (with_reducible refine wpList_load_any rfl 24 (.tmp 1) rfl w.heap.size 0 rfl (tmC k u n s (.slice ao m c)) _ (rangeW_blk HY16.out.2.1) Try.underlying24 rfl (tmC_info _ _ _ _ _) ?_)
    | ((with_reducible refine wpList_load_want ?_ 24 (.tmp 1) rfl w.heap.size 0 rfl (tmC k u n s (.slice ao m c)) _ (rangeW_blk HY16.out.2.1) Try.underlying24 rfl (tmC_info _ _ _ _ _) ?_); focus rfl))
    refine (rbytes_any t _ _ y15 GG.out.1 (HT.out.below HY16.out.1) (by have := GG.out.2.2.2; omega)).mono ?_
    rintro e' y17 ⟨qo, qc, rfl, hrow, hb⟩
    generalize (bytesT t).length = ql at hrow ⊢
    have HY18 := Lib.hid (show Below w.heap.size w y17 ∧ Blk y17 w.heap.size 24 (tmC k u n s (.slice ao m c)) ∧ Sl y17 (.slice xo xl xc) (ofK .u8 (encT t)) ∧ Sl y17 (.slice qo ql qc) (ofK .u8 (bytesT t)) from ⟨below_thn HY16.out.1 hb (Nat.le_refl _), HY16.out.2.1.below hb HY16.out.2.1.lt, HY16.out.2.2.below hb (Nat.le_refl _), Sl.of_owns hrow⟩)
    clear hrow hb
    go_wp2_with fail
    have hx := same_any _ _ (encT t) (bytesT t) y17 HY18.out.2.2.1 HY18.out.2.2.2
    rw [show decide (encT t = bytesT t) = true from decide_eq_true (if_neg ZZ.out)] at hx
    refine Calls.mono hx ?_
    clear hx
    rintro e' y99 ⟨rfl, sm⟩
    have HB9 := Lib.hid (below_thn HY18.out.1 (sm.below _) (Nat.le_refl _))
    clear sm
    go_wp2_with fail
    go_ret
    exact ⟨rfl, HB9.out⟩


end Go.Proofs.Ytfenikoajadiaaa
