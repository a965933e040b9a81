/-
  Layer 5: law 05: TermOne, walked. Conditions: none.
-/
import Derived.Test.YtfenikoajadiaaaTmP
import Derived.Test.YtfenikoajadiaaaTmX
import Derived.Test.YtfenikoajadiaaaFrameT
namespace Go.Proofs.Ytfenikoajadiaaa
open Go Go.RowKit
set_option linter.unusedSimpArgs false
set_option linter.unusedVariables false


theorem checkN_bad {t : Tm} (h : sizeT t = 0) : checkN t = 150 := if_pos h
theorem checkN_ok {t : Tm} (h : sizeT t ≠ 0) : checkN t = 0 := if_neg h
theorem encT_ok {t : Tm} (h : sizeT t ≠ 0) : encT t = bytesT t := if_neg h
theorem Sl.pre {w : World} {ao : Option Addr} {n c : Nat} {xs : List Int} (h : Sl w (.slice ao n c) (ofK .u8 xs)) (m : Nat) (hm : m ≤ n) : Sl w (.slice ao m c) (ofK .u8 (xs.take m)) := by
  obtain ⟨ao', c', e, h1, h2, h3⟩ := h.nums
  simp only [Value.slice.injEq] at e
  obtain ⟨rfl, rfl, rfl⟩ := e
  rcases Nat.eq_zero_or_pos xs.length with h0 | h0
  · obtain rfl : xs = [] := List.eq_nil_of_length_eq_zero h0
    obtain rfl : m = 0 := by simpa using hm
    simpa using h
  · obtain ⟨b, o, rfl, hb, hc⟩ := h3 h0
    have hl : (xs.take m).length = m := by rw [List.length_take]; omega
    refine .inr ⟨⟨b, o, none⟩, c, by rw [length_ofK, hl], by rw [length_ofK, hl]; omega, by unfold maxLen; omega, fun i u hu => ?_⟩
    have hi : i < m := by have := (List.getElem?_eq_some_iff.1 hu).1; rw [length_ofK, hl] at this; exact this
    rw [add_none, hc i (by omega)]
    rw [get_ofK _ _ i (by rw [hl]; exact hi)] at hu
    simpa using hu


set_option maxRecDepth 100000 in
set_option maxHeartbeats 16000000 in
theorem termOne_walk (a : Tm) (ca' : List Value) (b : Tm) (cb' : List Value) (c : Tm) (cc' : List Value) (w : World) (ha : TmC AnyF w ca' a) (hb : TmC AnyF w cb' b) (hc : TmC AnyF w cc' c) :
    Calls Try.prog 6 #[.agg ca'.toArray, .agg cb'.toArray, .agg cc'.toArray] w (TrueP w) := by
  obtain ⟨oa, ca, rfl, -, -, -⟩ := ha.shape
  have Ta := Lib.hid ha.old
  obtain ⟨ob, cb, rfl, -, -, -⟩ := hb.shape
  have Tb := Lib.hid hb.old
  obtain ⟨oc, cc, rfl, -, -, -⟩ := hc.shape
  have Tc := Lib.hid hc.old
  have GOOD := Lib.hid (fun (h1 : sizeT a ≠ 0) (h2 : sizeT b ≠ 0) (h3 : sizeT c ≠ 0) => And.intro (ord_ok h1 h2 h3) (And.intro (bytesT_eq (sizeT_good h1).1 (sizeT_good h2).1) (fun h => bytesT_pre (t := a) (u := b) (sizeT_good h1).1 (sizeT_good h2).1 h)))
  obtain ⟨ova, hoa⟩ : ∃ x, overB a = x := ⟨_, rfl⟩
  have Eoa := Lib.hid hoa
  obtain ⟨ovb, hob⟩ : ∃ x, overB b = x := ⟨_, rfl⟩
  have Eob := Lib.hid hob
  obtain ⟨ovc, hoc⟩ : ∃ x, overB c = x := ⟨_, rfl⟩
  have Eoc := Lib.hid hoc
  obtain ⟨sm, hsm⟩ : ∃ x, sameT a b = x := ⟨_, rfl⟩
  have Esm := Lib.hid hsm
  obtain ⟨ab, hab⟩ : ∃ x, lessT a b = x := ⟨_, rfl⟩
  have Eab := Lib.hid hab
  obtain ⟨ba, hba⟩ : ∃ x, lessT b a = x := ⟨_, rfl⟩
  have Eba := Lib.hid hba
  obtain ⟨bc, hbc⟩ : ∃ x, lessT b c = x := ⟨_, rfl⟩
  have Ebc := Lib.hid hbc
  obtain ⟨ac, hac⟩ : ∃ x, lessT a c = x := ⟨_, rfl⟩
  have Eac := Lib.hid hac
  rw [hsm, hab, hba, hbc, hac] at GOOD
  obtain ⟨za, hza⟩ : ∃ x, sizeT a = x := ⟨_, rfl⟩
  have Za := Lib.hid hza
  obtain ⟨zb, hzb⟩ : ∃ x, sizeT b = x := ⟨_, rfl⟩
  have Zb := Lib.hid hzb
  obtain ⟨zc, hzc⟩ : ∃ x, sizeT c = x := ⟨_, rfl⟩
  have Zc := Lib.hid hzc
  clear hoa hob hoc hsm hab hba hbc hac hza ha hzb hb hzc hc
  generalize a.ks.length = ma at Ta ⊢
  generalize a.k = ka at Ta ⊢
  generalize a.u = ua at Ta ⊢
  generalize a.n = na at Ta ⊢
  generalize a.s = sa at Ta ⊢
  generalize b.ks.length = mb at Tb ⊢
  generalize b.k = kb at Tb ⊢
  generalize b.u = ub at Tb ⊢
  generalize b.n = nb at Tb ⊢
  generalize b.s = sb at Tb ⊢
  generalize c.ks.length = mc at Tc ⊢
  generalize c.k = kc at Tc ⊢
  generalize c.u = uc at Tc ⊢
  generalize c.n = nc at Tc ⊢
  generalize c.s = sc at Tc ⊢
  have H0 := Lib.hid (Below.refl w.heap.size w)
  go_enter Try.func6, Try.ntmps6
  go_wp2_with (first
    | ((with_reducible refine wpList_box_blk w rfl 24 (.tmp 0) rfl (tmC ka ua na sa (.slice oa ma ca)) rfl ?_); intro a1 hb hbel hsz; have HA1 := Lib.hid (show Below w.heap.size w a1 ∧ Blk a1 w.heap.size 24 (tmC ka ua na sa (.slice oa ma ca)) from ⟨below_thn H0.out hbel (Nat.le_refl _), hb⟩); clear hb hbel hsz)
    | ((with_reducible refine wpList_box_blk a1 rfl 24 (.tmp 1) rfl (tmC kb ub nb sb (.slice ob mb cb)) rfl ?_); intro a2 hb hbel hsz; have HA2 := Lib.hid (show Below w.heap.size w a2 ∧ Blk a2 w.heap.size 24 (tmC ka ua na sa (.slice oa ma ca)) ∧ Blk a2 a1.heap.size 24 (tmC kb ub nb sb (.slice ob mb cb)) from ⟨below_thn HA1.out.1 hbel (Nat.le_refl _), HA1.out.2.below hbel HA1.out.2.lt, hb⟩); clear hb hbel hsz)
    | ((with_reducible refine wpList_box_blk a2 rfl 24 (.tmp 2) rfl (tmC kc uc nc sc (.slice oc mc cc)) rfl ?_); intro a3 hb hbel hsz; have HA3 := Lib.hid (show Below w.heap.size w a3 ∧ Blk a3 w.heap.size 24 (tmC ka ua na sa (.slice oa ma ca)) ∧ Blk a3 a1.heap.size 24 (tmC kb ub nb sb (.slice ob mb cb)) ∧ Blk a3 a2.heap.size 24 (tmC kc uc nc sc (.slice oc mc cc)) from ⟨below_thn HA2.out.1 hbel (Nat.le_refl _), HA2.out.2.1.below hbel HA2.out.2.1.lt, HA2.out.2.2.below hbel HA2.out.2.2.lt, hb⟩); clear hb hbel hsz))
  have hx := wakes5_any a3
  refine Calls.mono hx ?_
  clear hx
  rintro e' y1 ⟨rfl, hb⟩
  have HY2 := Lib.hid (show Below w.heap.size w y1 ∧ Blk y1 w.heap.size 24 (tmC ka ua na sa (.slice oa ma ca)) ∧ Blk y1 a1.heap.size 24 (tmC kb ub nb sb (.slice ob mb cb)) ∧ Blk y1 a2.heap.size 24 (tmC kc uc nc sc (.slice oc mc cc)) from ⟨below_thn HA3.out.1 hb (Nat.le_refl _), HA3.out.2.1.below hb HA3.out.2.1.lt, HA3.out.2.2.1.below hb HA3.out.2.2.1.lt, HA3.out.2.2.2.below hb HA3.out.2.2.2.lt⟩)
  clear hb
  go_wp2_with (first
    | (with_reducible refine wpList_load_any rfl 24 (.tmp 3) rfl w.heap.size 0 rfl (tmC ka ua na sa (.slice oa ma ca)) _ (rangeW_blk HY2.out.2.1) Try.underlying24 rfl (tmC_info _ _ _ _ _) ?_)
    | ((with_reducible refine wpList_load_want ?_ 24 (.tmp 3) rfl w.heap.size 0 rfl (tmC ka ua na sa (.slice oa ma ca)) _ (rangeW_blk HY2.out.2.1) Try.underlying24 rfl (tmC_info _ _ _ _ _) ?_); focus rfl)
    | (with_reducible refine wpList_load_any rfl 24 (.tmp 4) rfl a1.heap.size 0 rfl (tmC kb ub nb sb (.slice ob mb cb)) _ (rangeW_blk HY2.out.2.2.1) Try.underlying24 rfl (tmC_info _ _ _ _ _) ?_)
    | ((with_reducible refine wpList_load_want ?_ 24 (.tmp 4) rfl a1.heap.size 0 rfl (tmC kb ub nb sb (.slice ob mb cb)) _ (rangeW_blk HY2.out.2.2.1) Try.underlying24 rfl (tmC_info _ _ _ _ _) ?_); focus rfl)
    | (with_reducible refine wpList_load_any rfl 24 (.tmp 5) rfl a2.heap.size 0 rfl (tmC kc uc nc sc (.slice oc mc cc)) _ (rangeW_blk HY2.out.2.2.2) Try.underlying24 rfl (tmC_info _ _ _ _ _) ?_)
    | ((with_reducible refine wpList_load_want ?_ 24 (.tmp 5) rfl a2.heap.size 0 rfl (tmC kc uc nc sc (.slice oc mc cc)) _ (rangeW_blk HY2.out.2.2.2) Try.underlying24 rfl (tmC_info _ _ _ _ _) ?_); focus rfl))
  have hx := over_any a _ _ y1 (Ta.out.below HY2.out.1)
  rw [Eoa.out] at hx
  refine Calls.mono hx ?_
  clear hx
  rintro e' y3 ⟨rfl, hb⟩
  have HY4 := Lib.hid (show Below w.heap.size w y3 ∧ Blk y3 w.heap.size 24 (tmC ka ua na sa (.slice oa ma ca)) ∧ Blk y3 a1.heap.size 24 (tmC kb ub nb sb (.slice ob mb cb)) ∧ Blk y3 a2.heap.size 24 (tmC kc uc nc sc (.slice oc mc cc)) from ⟨below_thn HY2.out.1 hb (Nat.le_refl _), HY2.out.2.1.below hb HY2.out.2.1.lt, HY2.out.2.2.1.below hb HY2.out.2.2.1.lt, HY2.out.2.2.2.below hb HY2.out.2.2.2.lt⟩)
  clear hb
  cases ova
  rotate_left
  · skip
    go_wp2_with fail
    go_ret
    exact ⟨rfl, HY4.out.1⟩
  go_wp2_with (first
    | (with_reducible refine wpList_load_any rfl 24 (.tmp 3) rfl w.heap.size 0 rfl (tmC ka ua na sa (.slice oa ma ca)) _ (rangeW_blk HY4.out.2.1) Try.underlying24 rfl (tmC_info _ _ _ _ _) ?_)
    | ((with_reducible refine wpList_load_want ?_ 24 (.tmp 3) rfl w.heap.size 0 rfl (tmC ka ua na sa (.slice oa ma ca)) _ (rangeW_blk HY4.out.2.1) Try.underlying24 rfl (tmC_info _ _ _ _ _) ?_); focus rfl)
    | (with_reducible refine wpList_load_any rfl 24 (.tmp 4) rfl a1.heap.size 0 rfl (tmC kb ub nb sb (.slice ob mb cb)) _ (rangeW_blk HY4.out.2.2.1) Try.underlying24 rfl (tmC_info _ _ _ _ _) ?_)
    | ((with_reducible refine wpList_load_want ?_ 24 (.tmp 4) rfl a1.heap.size 0 rfl (tmC kb ub nb sb (.slice ob mb cb)) _ (rangeW_blk HY4.out.2.2.1) Try.underlying24 rfl (tmC_info _ _ _ _ _) ?_); focus rfl)
    | (with_reducible refine wpList_load_any rfl 24 (.tmp 5) rfl a2.heap.size 0 rfl (tmC kc uc nc sc (.slice oc mc cc)) _ (rangeW_blk HY4.out.2.2.2) Try.underlying24 rfl (tmC_info _ _ _ _ _) ?_)
    | ((with_reducible refine wpList_load_want ?_ 24 (.tmp 5) rfl a2.heap.size 0 rfl (tmC kc uc nc sc (.slice oc mc cc)) _ (rangeW_blk HY4.out.2.2.2) Try.underlying24 rfl (tmC_info _ _ _ _ _) ?_); focus rfl))
  have hx := over_any b _ _ y3 (Tb.out.below HY4.out.1)
  rw [Eob.out] at hx
  refine Calls.mono hx ?_
  clear hx
  rintro e' y5 ⟨rfl, hb⟩
  have HY6 := Lib.hid (show Below w.heap.size w y5 ∧ Blk y5 w.heap.size 24 (tmC ka ua na sa (.slice oa ma ca)) ∧ Blk y5 a1.heap.size 24 (tmC kb ub nb sb (.slice ob mb cb)) ∧ Blk y5 a2.heap.size 24 (tmC kc uc nc sc (.slice oc mc cc)) from ⟨below_thn HY4.out.1 hb (Nat.le_refl _), HY4.out.2.1.below hb HY4.out.2.1.lt, HY4.out.2.2.1.below hb HY4.out.2.2.1.lt, HY4.out.2.2.2.below hb HY4.out.2.2.2.lt⟩)
  clear hb
  cases ovb
  rotate_left
  · skip
    go_wp2_with fail
    go_ret
    exact ⟨rfl, HY6.out.1⟩
  go_wp2_with (first
    | (with_reducible refine wpList_load_any rfl 24 (.tmp 3) rfl w.heap.size 0 rfl (tmC ka ua na sa (.slice oa ma ca)) _ (rangeW_blk HY6.out.2.1) Try.underlying24 rfl (tmC_info _ _ _ _ _) ?_)
    | ((with_reducible refine wpList_load_want ?_ 24 (.tmp 3) rfl w.heap.size 0 rfl (tmC ka ua na sa (.slice oa ma ca)) _ (rangeW_blk HY6.out.2.1) Try.underlying24 rfl (tmC_info _ _ _ _ _) ?_); focus rfl)
    | (with_reducible refine wpList_load_any rfl 24 (.tmp 4) rfl a1.heap.size 0 rfl (tmC kb ub nb sb (.slice ob mb cb)) _ (rangeW_blk HY6.out.2.2.1) Try.underlying24 rfl (tmC_info _ _ _ _ _) ?_)
    | ((with_reducible refine wpList_load_want ?_ 24 (.tmp 4) rfl a1.heap.size 0 rfl (tmC kb ub nb sb (.slice ob mb cb)) _ (rangeW_blk HY6.out.2.2.1) Try.underlying24 rfl (tmC_info _ _ _ _ _) ?_); focus rfl)
    | (with_reducible refine wpList_load_any rfl 24 (.tmp 5) rfl a2.heap.size 0 rfl (tmC kc uc nc sc (.slice oc mc cc)) _ (rangeW_blk HY6.out.2.2.2) Try.underlying24 rfl (tmC_info _ _ _ _ _) ?_)
    | ((with_reducible refine wpList_load_want ?_ 24 (.tmp 5) rfl a2.heap.size 0 rfl (tmC kc uc nc sc (.slice oc mc cc)) _ (rangeW_blk HY6.out.2.2.2) Try.underlying24 rfl (tmC_info _ _ _ _ _) ?_); focus rfl))
  have hx := over_any c _ _ y5 (Tc.out.below HY6.out.1)
  rw [Eoc.out] at hx
  refine Calls.mono hx ?_
  clear hx
  rintro e' y7 ⟨rfl, hb⟩
  have HY8 := Lib.hid (show Below w.heap.size w y7 ∧ Blk y7 w.heap.size 24 (tmC ka ua na sa (.slice oa ma ca)) ∧ Blk y7 a1.heap.size 24 (tmC kb ub nb sb (.slice ob mb cb)) ∧ Blk y7 a2.heap.size 24 (tmC kc uc nc sc (.slice oc mc cc)) from ⟨below_thn HY6.out.1 hb (Nat.le_refl _), HY6.out.2.1.below hb HY6.out.2.1.lt, HY6.out.2.2.1.below hb HY6.out.2.2.1.lt, HY6.out.2.2.2.below hb HY6.out.2.2.2.lt⟩)
  clear hb
  cases ovc
  rotate_left
  · skip
    go_wp2_with fail
    go_ret
    exact ⟨rfl, HY8.out.1⟩
  go_wp2_with (first
    | (with_reducible refine wpList_load_any rfl 24 (.tmp 3) rfl w.heap.size 0 rfl (tmC ka ua na sa (.slice oa ma ca)) _ (rangeW_blk HY8.out.2.1) Try.underlying24 rfl (tmC_info _ _ _ _ _) ?_)
    | ((with_reducible refine wpList_load_want ?_ 24 (.tmp 3) rfl w.heap.size 0 rfl (tmC ka ua na sa (.slice oa ma ca)) _ (rangeW_blk HY8.out.2.1) Try.underlying24 rfl (tmC_info _ _ _ _ _) ?_); focus rfl)
    | (with_reducible refine wpList_load_any rfl 24 (.tmp 4) rfl a1.heap.size 0 rfl (tmC kb ub nb sb (.slice ob mb cb)) _ (rangeW_blk HY8.out.2.2.1) Try.underlying24 rfl (tmC_info _ _ _ _ _) ?_)
    | ((with_reducible refine wpList_load_want ?_ 24 (.tmp 4) rfl a1.heap.size 0 rfl (tmC kb ub nb sb (.slice ob mb cb)) _ (rangeW_blk HY8.out.2.2.1) Try.underlying24 rfl (tmC_info _ _ _ _ _) ?_); focus rfl)
    | (with_reducible refine wpList_load_any rfl 24 (.tmp 5) rfl a2.heap.size 0 rfl (tmC kc uc nc sc (.slice oc mc cc)) _ (rangeW_blk HY8.out.2.2.2) Try.underlying24 rfl (tmC_info _ _ _ _ _) ?_)
    | ((with_reducible refine wpList_load_want ?_ 24 (.tmp 5) rfl a2.heap.size 0 rfl (tmC kc uc nc sc (.slice oc mc cc)) _ (rangeW_blk HY8.out.2.2.2) Try.underlying24 rfl (tmC_info _ _ _ _ _) ?_); focus rfl))
  have hx := check_any a _ _ y7 (Ta.out.below HY8.out.1)
  by_cases hz : za = 0
  · rw [checkN_bad (by rw [Za.out]; exact hz)] at hx
    clear hz
    refine Calls.mono hx ?_
    clear hx
    rintro e' y9 ⟨rfl, hb⟩
    have HY10 := Lib.hid (show Below w.heap.size w y9 ∧ Blk y9 w.heap.size 24 (tmC ka ua na sa (.slice oa ma ca)) ∧ Blk y9 a1.heap.size 24 (tmC kb ub nb sb (.slice ob mb cb)) ∧ Blk y9 a2.heap.size 24 (tmC kc uc nc sc (.slice oc mc cc)) from ⟨below_thn HY8.out.1 hb (Nat.le_refl _), HY8.out.2.1.below hb HY8.out.2.1.lt, HY8.out.2.2.1.below hb HY8.out.2.2.1.lt, HY8.out.2.2.2.below hb HY8.out.2.2.2.lt⟩)
    clear hb
    go_wp2_with fail
    go_ret
    exact ⟨rfl, HY10.out.1⟩
  have Na := Lib.hid (show sizeT a ≠ 0 from by rw [Za.out]; exact hz)
  rw [checkN_ok Na.out] at hx
  clear hz
  refine Calls.mono hx ?_
  clear hx
  rintro e' y9 ⟨rfl, hb⟩
  have HY10 := Lib.hid (show Below w.heap.size w y9 ∧ Blk y9 w.heap.size 24 (tmC ka ua na sa (.slice oa ma ca)) ∧ Blk y9 a1.heap.size 24 (tmC kb ub nb sb (.slice ob mb cb)) ∧ Blk y9 a2.heap.size 24 (tmC kc uc nc sc (.slice oc mc cc)) from ⟨below_thn HY8.out.1 hb (Nat.le_refl _), HY8.out.2.1.below hb HY8.out.2.1.lt, HY8.out.2.2.1.below hb HY8.out.2.2.1.lt, HY8.out.2.2.2.below hb HY8.out.2.2.2.lt⟩)
  clear hb
  go_wp2_with (first
    | (with_reducible refine wpList_load_any rfl 24 (.tmp 3) rfl w.heap.size 0 rfl (tmC ka ua na sa (.slice oa ma ca)) _ (rangeW_blk HY10.out.2.1) Try.underlying24 rfl (tmC_info _ _ _ _ _) ?_)
    | ((with_reducible refine wpList_load_want ?_ 24 (.tmp 3) rfl w.heap.size 0 rfl (tmC ka ua na sa (.slice oa ma ca)) _ (rangeW_blk HY10.out.2.1) Try.underlying24 rfl (tmC_info _ _ _ _ _) ?_); focus rfl)
    | (with_reducible refine wpList_load_any rfl 24 (.tmp 4) rfl a1.heap.size 0 rfl (tmC kb ub nb sb (.slice ob mb cb)) _ (rangeW_blk HY10.out.2.2.1) Try.underlying24 rfl (tmC_info _ _ _ _ _) ?_)
    | ((with_reducible refine wpList_load_want ?_ 24 (.tmp 4) rfl a1.heap.size 0 rfl (tmC kb ub nb sb (.slice ob mb cb)) _ (rangeW_blk HY10.out.2.2.1) Try.underlying24 rfl (tmC_info _ _ _ _ _) ?_); focus rfl)
    | (with_reducible refine wpList_load_any rfl 24 (.tmp 5) rfl a2.heap.size 0 rfl (tmC kc uc nc sc (.slice oc mc cc)) _ (rangeW_blk HY10.out.2.2.2) Try.underlying24 rfl (tmC_info _ _ _ _ _) ?_)
    | ((with_reducible refine wpList_load_want ?_ 24 (.tmp 5) rfl a2.heap.size 0 rfl (tmC kc uc nc sc (.slice oc mc cc)) _ (rangeW_blk HY10.out.2.2.2) Try.underlying24 rfl (tmC_info _ _ _ _ _) ?_); focus rfl))
  have hx := check_any b _ _ y9 (Tb.out.below HY10.out.1)
  by_cases hz : zb = 0
  · rw [checkN_bad (by rw [Zb.out]; exact hz)] at hx
    clear hz
    refine Calls.mono hx ?_
    clear hx
    rintro e' y11 ⟨rfl, hb⟩
    have HY12 := Lib.hid (show Below w.heap.size w y11 ∧ Blk y11 w.heap.size 24 (tmC ka ua na sa (.slice oa ma ca)) ∧ Blk y11 a1.heap.size 24 (tmC kb ub nb sb (.slice ob mb cb)) ∧ Blk y11 a2.heap.size 24 (tmC kc uc nc sc (.slice oc mc cc)) from ⟨below_thn HY10.out.1 hb (Nat.le_refl _), HY10.out.2.1.below hb HY10.out.2.1.lt, HY10.out.2.2.1.below hb HY10.out.2.2.1.lt, HY10.out.2.2.2.below hb HY10.out.2.2.2.lt⟩)
    clear hb
    go_wp2_with fail
    go_ret
    exact ⟨rfl, HY12.out.1⟩
  have Nb := Lib.hid (show sizeT b ≠ 0 from by rw [Zb.out]; exact hz)
  rw [checkN_ok Nb.out] at hx
  clear hz
  refine Calls.mono hx ?_
  clear hx
  rintro e' y11 ⟨rfl, hb⟩
  have HY12 := Lib.hid (show Below w.heap.size w y11 ∧ Blk y11 w.heap.size 24 (tmC ka ua na sa (.slice oa ma ca)) ∧ Blk y11 a1.heap.size 24 (tmC kb ub nb sb (.slice ob mb cb)) ∧ Blk y11 a2.heap.size 24 (tmC kc uc nc sc (.slice oc mc cc)) from ⟨below_thn HY10.out.1 hb (Nat.le_refl _), HY10.out.2.1.below hb HY10.out.2.1.lt, HY10.out.2.2.1.below hb HY10.out.2.2.1.lt, HY10.out.2.2.2.below hb HY10.out.2.2.2.lt⟩)
  clear hb
  go_wp2_with (first
    | (with_reducible refine wpList_load_any rfl 24 (.tmp 3) rfl w.heap.size 0 rfl (tmC ka ua na sa (.slice oa ma ca)) _ (rangeW_blk HY12.out.2.1) Try.underlying24 rfl (tmC_info _ _ _ _ _) ?_)
    | ((with_reducible refine wpList_load_want ?_ 24 (.tmp 3) rfl w.heap.size 0 rfl (tmC ka ua na sa (.slice oa ma ca)) _ (rangeW_blk HY12.out.2.1) Try.underlying24 rfl (tmC_info _ _ _ _ _) ?_); focus rfl)
    | (with_reducible refine wpList_load_any rfl 24 (.tmp 4) rfl a1.heap.size 0 rfl (tmC kb ub nb sb (.slice ob mb cb)) _ (rangeW_blk HY12.out.2.2.1) Try.underlying24 rfl (tmC_info _ _ _ _ _) ?_)
    | ((with_reducible refine wpList_load_want ?_ 24 (.tmp 4) rfl a1.heap.size 0 rfl (tmC kb ub nb sb (.slice ob mb cb)) _ (rangeW_blk HY12.out.2.2.1) Try.underlying24 rfl (tmC_info _ _ _ _ _) ?_); focus rfl)
    | (with_reducible refine wpList_load_any rfl 24 (.tmp 5) rfl a2.heap.size 0 rfl (tmC kc uc nc sc (.slice oc mc cc)) _ (rangeW_blk HY12.out.2.2.2) Try.underlying24 rfl (tmC_info _ _ _ _ _) ?_)
    | ((with_reducible refine wpList_load_want ?_ 24 (.tmp 5) rfl a2.heap.size 0 rfl (tmC kc uc nc sc (.slice oc mc cc)) _ (rangeW_blk HY12.out.2.2.2) Try.underlying24 rfl (tmC_info _ _ _ _ _) ?_); focus rfl))
  have hx := check_any c _ _ y11 (Tc.out.below HY12.out.1)
  by_cases hz : zc = 0
  · rw [checkN_bad (by rw [Zc.out]; exact hz)] at hx
    clear hz
    refine Calls.mono hx ?_
    clear hx
    rintro e' y13 ⟨rfl, hb⟩
    have HY14 := Lib.hid (show Below w.heap.size w y13 ∧ Blk y13 w.heap.size 24 (tmC ka ua na sa (.slice oa ma ca)) ∧ Blk y13 a1.heap.size 24 (tmC kb ub nb sb (.slice ob mb cb)) ∧ Blk y13 a2.heap.size 24 (tmC kc uc nc sc (.slice oc mc cc)) from ⟨below_thn HY12.out.1 hb (Nat.le_refl _), HY12.out.2.1.below hb HY12.out.2.1.lt, HY12.out.2.2.1.below hb HY12.out.2.2.1.lt, HY12.out.2.2.2.below hb HY12.out.2.2.2.lt⟩)
    clear hb
    go_wp2_with fail
    go_ret
    exact ⟨rfl, HY14.out.1⟩
  have Nc := Lib.hid (show sizeT c ≠ 0 from by rw [Zc.out]; exact hz)
  rw [checkN_ok Nc.out] at hx
  clear hz
  refine Calls.mono hx ?_
  clear hx
  rintro e' y13 ⟨rfl, hb⟩
  have HY14 := Lib.hid (show Below w.heap.size w y13 ∧ Blk y13 w.heap.size 24 (tmC ka ua na sa (.slice oa ma ca)) ∧ Blk y13 a1.heap.size 24 (tmC kb ub nb sb (.slice ob mb cb)) ∧ Blk y13 a2.heap.size 24 (tmC kc uc nc sc (.slice oc mc cc)) from ⟨below_thn HY12.out.1 hb (Nat.le_refl _), HY12.out.2.1.below hb HY12.out.2.1.lt, HY12.out.2.2.1.below hb HY12.out.2.2.1.lt, HY12.out.2.2.2.below hb HY12.out.2.2.2.lt⟩)
  clear hb
  have G := Lib.hid (GOOD.out Na.out Nb.out Nc.out)
  go_wp2_with (first
    | (with_reducible refine wpList_load_any rfl 24 (.tmp 3) rfl w.heap.size 0 rfl (tmC ka ua na sa (.slice oa ma ca)) _ (rangeW_blk HY14.out.2.1) Try.underlying24 rfl (tmC_info _ _ _ _ _) ?_)
    | ((with_reducible refine wpList_load_want ?_ 24 (.tmp 3) rfl w.heap.size 0 rfl (tmC ka ua na sa (.slice oa ma ca)) _ (rangeW_blk HY14.out.2.1) Try.underlying24 rfl (tmC_info _ _ _ _ _) ?_); focus rfl)
    | (with_reducible refine wpList_load_any rfl 24 (.tmp 4) rfl a1.heap.size 0 rfl (tmC kb ub nb sb (.slice ob mb cb)) _ (rangeW_blk HY14.out.2.2.1) Try.underlying24 rfl (tmC_info _ _ _ _ _) ?_)
    | ((with_reducible refine wpList_load_want ?_ 24 (.tmp 4) rfl a1.heap.size 0 rfl (tmC kb ub nb sb (.slice ob mb cb)) _ (rangeW_blk HY14.out.2.2.1) Try.underlying24 rfl (tmC_info _ _ _ _ _) ?_); focus rfl)
    | (with_reducible refine wpList_load_any rfl 24 (.tmp 5) rfl a2.heap.size 0 rfl (tmC kc uc nc sc (.slice oc mc cc)) _ (rangeW_blk HY14.out.2.2.2) Try.underlying24 rfl (tmC_info _ _ _ _ _) ?_)
    | ((with_reducible refine wpList_load_want ?_ 24 (.tmp 5) rfl a2.heap.size 0 rfl (tmC kc uc nc sc (.slice oc mc cc)) _ (rangeW_blk HY14.out.2.2.2) Try.underlying24 rfl (tmC_info _ _ _ _ _) ?_); focus rfl))
  refine (encode_any a _ _ y13 (Ta.out.below HY14.out.1)).mono ?_
  rintro e' y15 ⟨xo, xc, rfl, hrow, hb⟩
  rw [encT_ok Na.out] at hrow ⊢
  rw [checkN_ok Na.out]
  obtain ⟨xl, hxl⟩ : ∃ l, (bytesT a).length = l := ⟨_, rfl⟩
  have Lx := Lib.hid hxl
  rw [hxl] at hrow ⊢
  have HY16 := Lib.hid (show Below w.heap.size w y15 ∧ Blk y15 w.heap.size 24 (tmC ka ua na sa (.slice oa ma ca)) ∧ Blk y15 a1.heap.size 24 (tmC kb ub nb sb (.slice ob mb cb)) ∧ Blk y15 a2.heap.size 24 (tmC kc uc nc sc (.slice oc mc cc)) ∧ Sl y15 (.slice xo xl xc) (ofK .u8 (bytesT a)) from ⟨below_thn HY14.out.1 hb (Nat.le_refl _), HY14.out.2.1.below hb HY14.out.2.1.lt, HY14.out.2.2.1.below hb HY14.out.2.2.1.lt, HY14.out.2.2.2.below hb HY14.out.2.2.2.lt, Sl.of_owns hrow⟩)
  have CXx := Lib.hid (show xl ≤ xc ∧ xc ≤ 9223372036854775807 from by have h := (Sl.of_owns hrow).nums; obtain ⟨_, _, e, h1, h2, _⟩ := h; simp only [Value.slice.injEq] at e; omega)
  clear hrow hb hxl
  go_wp2_with (first
    | (with_reducible refine wpList_load_any rfl 24 (.tmp 3) rfl w.heap.size 0 rfl (tmC ka ua na sa (.slice oa ma ca)) _ (rangeW_blk HY16.out.2.1) Try.underlying24 rfl (tmC_info _ _ _ _ _) ?_)
    | ((with_reducible refine wpList_load_want ?_ 24 (.tmp 3) rfl w.heap.size 0 rfl (tmC ka ua na sa (.slice oa ma ca)) _ (rangeW_blk HY16.out.2.1) Try.underlying24 rfl (tmC_info _ _ _ _ _) ?_); focus rfl)
    | (with_reducible refine wpList_load_any rfl 24 (.tmp 4) rfl a1.heap.size 0 rfl (tmC kb ub nb sb (.slice ob mb cb)) _ (rangeW_blk HY16.out.2.2.1) Try.underlying24 rfl (tmC_info _ _ _ _ _) ?_)
    | ((with_reducible refine wpList_load_want ?_ 24 (.tmp 4) rfl a1.heap.size 0 rfl (tmC kb ub nb sb (.slice ob mb cb)) _ (rangeW_blk HY16.out.2.2.1) Try.underlying24 rfl (tmC_info _ _ _ _ _) ?_); focus rfl)
    | (with_reducible refine wpList_load_any rfl 24 (.tmp 5) rfl a2.heap.size 0 rfl (tmC kc uc nc sc (.slice oc mc cc)) _ (rangeW_blk HY16.out.2.2.2.1) Try.underlying24 rfl (tmC_info _ _ _ _ _) ?_)
    | ((with_reducible refine wpList_load_want ?_ 24 (.tmp 5) rfl a2.heap.size 0 rfl (tmC kc uc nc sc (.slice oc mc cc)) _ (rangeW_blk HY16.out.2.2.2.1) Try.underlying24 rfl (tmC_info _ _ _ _ _) ?_); focus rfl))
  refine (encode_any b _ _ y15 (Tb.out.below HY16.out.1)).mono ?_
  rintro e' y17 ⟨yo, yc, rfl, hrow, hb⟩
  rw [encT_ok Nb.out] at hrow ⊢
  rw [checkN_ok Nb.out]
  obtain ⟨yl, hyl⟩ : ∃ l, (bytesT b).length = l := ⟨_, rfl⟩
  have Ly := Lib.hid hyl
  rw [hyl] at hrow ⊢
  have HY18 := Lib.hid (show Below w.heap.size w y17 ∧ Blk y17 w.heap.size 24 (tmC ka ua na sa (.slice oa ma ca)) ∧ Blk y17 a1.heap.size 24 (tmC kb ub nb sb (.slice ob mb cb)) ∧ Blk y17 a2.heap.size 24 (tmC kc uc nc sc (.slice oc mc cc)) ∧ Sl y17 (.slice xo xl xc) (ofK .u8 (bytesT a)) ∧ Sl y17 (.slice yo yl yc) (ofK .u8 (bytesT b)) from ⟨below_thn HY16.out.1 hb (Nat.le_refl _), HY16.out.2.1.below hb HY16.out.2.1.lt, HY16.out.2.2.1.below hb HY16.out.2.2.1.lt, HY16.out.2.2.2.1.below hb HY16.out.2.2.2.1.lt, HY16.out.2.2.2.2.below hb (Nat.le_refl _), Sl.of_owns hrow⟩)
  have CXy := Lib.hid (show yl ≤ yc ∧ yc ≤ 9223372036854775807 from by have h := (Sl.of_owns hrow).nums; obtain ⟨_, _, e, h1, h2, _⟩ := h; simp only [Value.slice.injEq] at e; omega)
  clear hrow hb hyl
  go_wp2_with (first
    | (with_reducible refine wpList_load_any rfl 24 (.tmp 3) rfl w.heap.size 0 rfl (tmC ka ua na sa (.slice oa ma ca)) _ (rangeW_blk HY18.out.2.1) Try.underlying24 rfl (tmC_info _ _ _ _ _) ?_)
    | ((with_reducible refine wpList_load_want ?_ 24 (.tmp 3) rfl w.heap.size 0 rfl (tmC ka ua na sa (.slice oa ma ca)) _ (rangeW_blk HY18.out.2.1) Try.underlying24 rfl (tmC_info _ _ _ _ _) ?_); focus rfl)
    | (with_reducible refine wpList_load_any rfl 24 (.tmp 4) rfl a1.heap.size 0 rfl (tmC kb ub nb sb (.slice ob mb cb)) _ (rangeW_blk HY18.out.2.2.1) Try.underlying24 rfl (tmC_info _ _ _ _ _) ?_)
    | ((with_reducible refine wpList_load_want ?_ 24 (.tmp 4) rfl a1.heap.size 0 rfl (tmC kb ub nb sb (.slice ob mb cb)) _ (rangeW_blk HY18.out.2.2.1) Try.underlying24 rfl (tmC_info _ _ _ _ _) ?_); focus rfl)
    | (with_reducible refine wpList_load_any rfl 24 (.tmp 5) rfl a2.heap.size 0 rfl (tmC kc uc nc sc (.slice oc mc cc)) _ (rangeW_blk HY18.out.2.2.2.1) Try.underlying24 rfl (tmC_info _ _ _ _ _) ?_)
    | ((with_reducible refine wpList_load_want ?_ 24 (.tmp 5) rfl a2.heap.size 0 rfl (tmC kc uc nc sc (.slice oc mc cc)) _ (rangeW_blk HY18.out.2.2.2.1) Try.underlying24 rfl (tmC_info _ _ _ _ _) ?_); focus rfl))
  have hx := same_any5 a b _ _ _ _ y17 (Ta.out.below HY18.out.1) (Tb.out.below HY18.out.1)
  rw [Esm.out] at hx
  refine Calls.mono hx ?_
  clear hx
  rintro e' y19 ⟨rfl, hb⟩
  have HY20 := Lib.hid (show Below w.heap.size w y19 ∧ Blk y19 w.heap.size 24 (tmC ka ua na sa (.slice oa ma ca)) ∧ Blk y19 a1.heap.size 24 (tmC kb ub nb sb (.slice ob mb cb)) ∧ Blk y19 a2.heap.size 24 (tmC kc uc nc sc (.slice oc mc cc)) ∧ Sl y19 (.slice xo xl xc) (ofK .u8 (bytesT a)) ∧ Sl y19 (.slice yo yl yc) (ofK .u8 (bytesT b)) from ⟨below_thn HY18.out.1 hb (Nat.le_refl _), HY18.out.2.1.below hb HY18.out.2.1.lt, HY18.out.2.2.1.below hb HY18.out.2.2.1.lt, HY18.out.2.2.2.1.below hb HY18.out.2.2.2.1.lt, HY18.out.2.2.2.2.1.below hb (Nat.le_refl _), HY18.out.2.2.2.2.2.below hb (Nat.le_refl _)⟩)
  clear hb
  go_wp2_with fail
  have hx := equal_any _ _ (bytesT a) (bytesT b) y19 HY20.out.2.2.2.2.1 HY20.out.2.2.2.2.2 (bytesT_B a (sizeT_good Na.out).1) (bytesT_B b (sizeT_good Nb.out).1)
  rw [show decide (bytesT a = bytesT b) = sm from by rw [← Esm.out]; by_cases h : a = b; rw [(sameT_iff a b).2 h, decide_eq_true (G.out.2.1.2 h)]; rw [decide_eq_false (fun e => h (G.out.2.1.1 e))]; exact (Bool.eq_false_iff.2 (fun e => h ((sameT_iff a b).1 e))).symm] at hx
  refine Calls.mono hx ?_
  clear hx
  rintro e' w9 ⟨rfl, rfl⟩
  cases sm
  rotate_left
  · obtain ⟨rfl, rfl⟩ := G.out.1.self rfl
    go_wp2_with (first
    | (with_reducible refine wpList_load_any rfl 24 (.tmp 3) rfl w.heap.size 0 rfl (tmC ka ua na sa (.slice oa ma ca)) _ (rangeW_blk HY20.out.2.1) Try.underlying24 rfl (tmC_info _ _ _ _ _) ?_)
    | ((with_reducible refine wpList_load_want ?_ 24 (.tmp 3) rfl w.heap.size 0 rfl (tmC ka ua na sa (.slice oa ma ca)) _ (rangeW_blk HY20.out.2.1) Try.underlying24 rfl (tmC_info _ _ _ _ _) ?_); focus rfl)
    | (with_reducible refine wpList_load_any rfl 24 (.tmp 4) rfl a1.heap.size 0 rfl (tmC kb ub nb sb (.slice ob mb cb)) _ (rangeW_blk HY20.out.2.2.1) Try.underlying24 rfl (tmC_info _ _ _ _ _) ?_)
    | ((with_reducible refine wpList_load_want ?_ 24 (.tmp 4) rfl a1.heap.size 0 rfl (tmC kb ub nb sb (.slice ob mb cb)) _ (rangeW_blk HY20.out.2.2.1) Try.underlying24 rfl (tmC_info _ _ _ _ _) ?_); focus rfl)
    | (with_reducible refine wpList_load_any rfl 24 (.tmp 5) rfl a2.heap.size 0 rfl (tmC kc uc nc sc (.slice oc mc cc)) _ (rangeW_blk HY20.out.2.2.2.1) Try.underlying24 rfl (tmC_info _ _ _ _ _) ?_)
    | ((with_reducible refine wpList_load_want ?_ 24 (.tmp 5) rfl a2.heap.size 0 rfl (tmC kc uc nc sc (.slice oc mc cc)) _ (rangeW_blk HY20.out.2.2.2.1) Try.underlying24 rfl (tmC_info _ _ _ _ _) ?_); focus rfl))
    have hx := less_any5 a b _ _ _ _ y19 (Ta.out.below HY20.out.1) (Tb.out.below HY20.out.1)
    rw [Eab.out] at hx
    refine Calls.mono hx ?_
    clear hx
    rintro e' y21 ⟨rfl, hb⟩
    have HY22 := Lib.hid (show Below w.heap.size w y21 ∧ Blk y21 w.heap.size 24 (tmC ka ua na sa (.slice oa ma ca)) ∧ Blk y21 a1.heap.size 24 (tmC kb ub nb sb (.slice ob mb cb)) ∧ Blk y21 a2.heap.size 24 (tmC kc uc nc sc (.slice oc mc cc)) ∧ Sl y21 (.slice xo xl xc) (ofK .u8 (bytesT a)) ∧ Sl y21 (.slice yo yl yc) (ofK .u8 (bytesT b)) from ⟨below_thn HY20.out.1 hb (Nat.le_refl _), HY20.out.2.1.below hb HY20.out.2.1.lt, HY20.out.2.2.1.below hb HY20.out.2.2.1.lt, HY20.out.2.2.2.1.below hb HY20.out.2.2.2.1.lt, HY20.out.2.2.2.2.1.below hb (Nat.le_refl _), HY20.out.2.2.2.2.2.below hb (Nat.le_refl _)⟩)
    clear hb
    go_wp2_with (first
    | (with_reducible refine wpList_load_any rfl 24 (.tmp 3) rfl w.heap.size 0 rfl (tmC ka ua na sa (.slice oa ma ca)) _ (rangeW_blk HY22.out.2.1) Try.underlying24 rfl (tmC_info _ _ _ _ _) ?_)
    | ((with_reducible refine wpList_load_want ?_ 24 (.tmp 3) rfl w.heap.size 0 rfl (tmC ka ua na sa (.slice oa ma ca)) _ (rangeW_blk HY22.out.2.1) Try.underlying24 rfl (tmC_info _ _ _ _ _) ?_); focus rfl)
    | (with_reducible refine wpList_load_any rfl 24 (.tmp 4) rfl a1.heap.size 0 rfl (tmC kb ub nb sb (.slice ob mb cb)) _ (rangeW_blk HY22.out.2.2.1) Try.underlying24 rfl (tmC_info _ _ _ _ _) ?_)
    | ((with_reducible refine wpList_load_want ?_ 24 (.tmp 4) rfl a1.heap.size 0 rfl (tmC kb ub nb sb (.slice ob mb cb)) _ (rangeW_blk HY22.out.2.2.1) Try.underlying24 rfl (tmC_info _ _ _ _ _) ?_); focus rfl)
    | (with_reducible refine wpList_load_any rfl 24 (.tmp 5) rfl a2.heap.size 0 rfl (tmC kc uc nc sc (.slice oc mc cc)) _ (rangeW_blk HY22.out.2.2.2.1) Try.underlying24 rfl (tmC_info _ _ _ _ _) ?_)
    | ((with_reducible refine wpList_load_want ?_ 24 (.tmp 5) rfl a2.heap.size 0 rfl (tmC kc uc nc sc (.slice oc mc cc)) _ (rangeW_blk HY22.out.2.2.2.1) Try.underlying24 rfl (tmC_info _ _ _ _ _) ?_); focus rfl))
    have hx := less_any5 b a _ _ _ _ y21 (Tb.out.below HY22.out.1) (Ta.out.below HY22.out.1)
    rw [Eba.out] at hx
    refine Calls.mono hx ?_
    clear hx
    rintro e' y23 ⟨rfl, hb⟩
    have HY24 := Lib.hid (show Below w.heap.size w y23 ∧ Blk y23 w.heap.size 24 (tmC ka ua na sa (.slice oa ma ca)) ∧ Blk y23 a1.heap.size 24 (tmC kb ub nb sb (.slice ob mb cb)) ∧ Blk y23 a2.heap.size 24 (tmC kc uc nc sc (.slice oc mc cc)) ∧ Sl y23 (.slice xo xl xc) (ofK .u8 (bytesT a)) ∧ Sl y23 (.slice yo yl yc) (ofK .u8 (bytesT b)) from ⟨below_thn HY22.out.1 hb (Nat.le_refl _), HY22.out.2.1.below hb HY22.out.2.1.lt, HY22.out.2.2.1.below hb HY22.out.2.2.1.lt, HY22.out.2.2.2.1.below hb HY22.out.2.2.2.1.lt, HY22.out.2.2.2.2.1.below hb (Nat.le_refl _), HY22.out.2.2.2.2.2.below hb (Nat.le_refl _)⟩)
    clear hb
    go_wp2_with (first
    | (with_reducible refine wpList_load_any rfl 24 (.tmp 3) rfl w.heap.size 0 rfl (tmC ka ua na sa (.slice oa ma ca)) _ (rangeW_blk HY24.out.2.1) Try.underlying24 rfl (tmC_info _ _ _ _ _) ?_)
    | ((with_reducible refine wpList_load_want ?_ 24 (.tmp 3) rfl w.heap.size 0 rfl (tmC ka ua na sa (.slice oa ma ca)) _ (rangeW_blk HY24.out.2.1) Try.underlying24 rfl (tmC_info _ _ _ _ _) ?_); focus rfl)
    | (with_reducible refine wpList_load_any rfl 24 (.tmp 4) rfl a1.heap.size 0 rfl (tmC kb ub nb sb (.slice ob mb cb)) _ (rangeW_blk HY24.out.2.2.1) Try.underlying24 rfl (tmC_info _ _ _ _ _) ?_)
    | ((with_reducible refine wpList_load_want ?_ 24 (.tmp 4) rfl a1.heap.size 0 rfl (tmC kb ub nb sb (.slice ob mb cb)) _ (rangeW_blk HY24.out.2.2.1) Try.underlying24 rfl (tmC_info _ _ _ _ _) ?_); focus rfl)
    | (with_reducible refine wpList_load_any rfl 24 (.tmp 5) rfl a2.heap.size 0 rfl (tmC kc uc nc sc (.slice oc mc cc)) _ (rangeW_blk HY24.out.2.2.2.1) Try.underlying24 rfl (tmC_info _ _ _ _ _) ?_)
    | ((with_reducible refine wpList_load_want ?_ 24 (.tmp 5) rfl a2.heap.size 0 rfl (tmC kc uc nc sc (.slice oc mc cc)) _ (rangeW_blk HY24.out.2.2.2.1) Try.underlying24 rfl (tmC_info _ _ _ _ _) ?_); focus rfl))
    have hx := less_any5 a b _ _ _ _ y23 (Ta.out.below HY24.out.1) (Tb.out.below HY24.out.1)
    rw [Eab.out] at hx
    refine Calls.mono hx ?_
    clear hx
    rintro e' y25 ⟨rfl, hb⟩
    have HY26 := Lib.hid (show Below w.heap.size w y25 ∧ Blk y25 w.heap.size 24 (tmC ka ua na sa (.slice oa ma ca)) ∧ Blk y25 a1.heap.size 24 (tmC kb ub nb sb (.slice ob mb cb)) ∧ Blk y25 a2.heap.size 24 (tmC kc uc nc sc (.slice oc mc cc)) ∧ Sl y25 (.slice xo xl xc) (ofK .u8 (bytesT a)) ∧ Sl y25 (.slice yo yl yc) (ofK .u8 (bytesT b)) from ⟨below_thn HY24.out.1 hb (Nat.le_refl _), HY24.out.2.1.below hb HY24.out.2.1.lt, HY24.out.2.2.1.below hb HY24.out.2.2.1.lt, HY24.out.2.2.2.1.below hb HY24.out.2.2.2.1.lt, HY24.out.2.2.2.2.1.below hb (Nat.le_refl _), HY24.out.2.2.2.2.2.below hb (Nat.le_refl _)⟩)
    clear hb
    go_wp2_with (first
    | (with_reducible refine wpList_load_any rfl 24 (.tmp 3) rfl w.heap.size 0 rfl (tmC ka ua na sa (.slice oa ma ca)) _ (rangeW_blk HY26.out.2.1) Try.underlying24 rfl (tmC_info _ _ _ _ _) ?_)
    | ((with_reducible refine wpList_load_want ?_ 24 (.tmp 3) rfl w.heap.size 0 rfl (tmC ka ua na sa (.slice oa ma ca)) _ (rangeW_blk HY26.out.2.1) Try.underlying24 rfl (tmC_info _ _ _ _ _) ?_); focus rfl)
    | (with_reducible refine wpList_load_any rfl 24 (.tmp 4) rfl a1.heap.size 0 rfl (tmC kb ub nb sb (.slice ob mb cb)) _ (rangeW_blk HY26.out.2.2.1) Try.underlying24 rfl (tmC_info _ _ _ _ _) ?_)
    | ((with_reducible refine wpList_load_want ?_ 24 (.tmp 4) rfl a1.heap.size 0 rfl (tmC kb ub nb sb (.slice ob mb cb)) _ (rangeW_blk HY26.out.2.2.1) Try.underlying24 rfl (tmC_info _ _ _ _ _) ?_); focus rfl)
    | (with_reducible refine wpList_load_any rfl 24 (.tmp 5) rfl a2.heap.size 0 rfl (tmC kc uc nc sc (.slice oc mc cc)) _ (rangeW_blk HY26.out.2.2.2.1) Try.underlying24 rfl (tmC_info _ _ _ _ _) ?_)
    | ((with_reducible refine wpList_load_want ?_ 24 (.tmp 5) rfl a2.heap.size 0 rfl (tmC kc uc nc sc (.slice oc mc cc)) _ (rangeW_blk HY26.out.2.2.2.1) Try.underlying24 rfl (tmC_info _ _ _ _ _) ?_); focus rfl))
    have hx := less_any5 a b _ _ _ _ y25 (Ta.out.below HY26.out.1) (Tb.out.below HY26.out.1)
    rw [Eab.out] at hx
    refine Calls.mono hx ?_
    clear hx
    rintro e' y27 ⟨rfl, hb⟩
    have HY28 := Lib.hid (show Below w.heap.size w y27 ∧ Blk y27 w.heap.size 24 (tmC ka ua na sa (.slice oa ma ca)) ∧ Blk y27 a1.heap.size 24 (tmC kb ub nb sb (.slice ob mb cb)) ∧ Blk y27 a2.heap.size 24 (tmC kc uc nc sc (.slice oc mc cc)) ∧ Sl y27 (.slice xo xl xc) (ofK .u8 (bytesT a)) ∧ Sl y27 (.slice yo yl yc) (ofK .u8 (bytesT b)) from ⟨below_thn HY26.out.1 hb (Nat.le_refl _), HY26.out.2.1.below hb HY26.out.2.1.lt, HY26.out.2.2.1.below hb HY26.out.2.2.1.lt, HY26.out.2.2.2.1.below hb HY26.out.2.2.2.1.lt, HY26.out.2.2.2.2.1.below hb (Nat.le_refl _), HY26.out.2.2.2.2.2.below hb (Nat.le_refl _)⟩)
    clear hb
    go_wp2_with fail
    go_ret
    exact ⟨rfl, HY28.out.1⟩
  have h1 := G.out.1.one rfl
  have HPX := Lib.hid (show ¬ bytesT a = (bytesT b).take xl from fun h => by have e := G.out.2.2 (by rw [Lx.out]; exact h); have h3 := (sameT_iff a b).2 e; rw [Esm.out] at h3; cases h3)
  cases ab
  · obtain rfl : ba = true := h1
    go_wp2_with (first
    | (with_reducible refine wpList_load_any rfl 24 (.tmp 3) rfl w.heap.size 0 rfl (tmC ka ua na sa (.slice oa ma ca)) _ (rangeW_blk HY20.out.2.1) Try.underlying24 rfl (tmC_info _ _ _ _ _) ?_)
    | ((with_reducible refine wpList_load_want ?_ 24 (.tmp 3) rfl w.heap.size 0 rfl (tmC ka ua na sa (.slice oa ma ca)) _ (rangeW_blk HY20.out.2.1) Try.underlying24 rfl (tmC_info _ _ _ _ _) ?_); focus rfl)
    | (with_reducible refine wpList_load_any rfl 24 (.tmp 4) rfl a1.heap.size 0 rfl (tmC kb ub nb sb (.slice ob mb cb)) _ (rangeW_blk HY20.out.2.2.1) Try.underlying24 rfl (tmC_info _ _ _ _ _) ?_)
    | ((with_reducible refine wpList_load_want ?_ 24 (.tmp 4) rfl a1.heap.size 0 rfl (tmC kb ub nb sb (.slice ob mb cb)) _ (rangeW_blk HY20.out.2.2.1) Try.underlying24 rfl (tmC_info _ _ _ _ _) ?_); focus rfl)
    | (with_reducible refine wpList_load_any rfl 24 (.tmp 5) rfl a2.heap.size 0 rfl (tmC kc uc nc sc (.slice oc mc cc)) _ (rangeW_blk HY20.out.2.2.2.1) Try.underlying24 rfl (tmC_info _ _ _ _ _) ?_)
    | ((with_reducible refine wpList_load_want ?_ 24 (.tmp 5) rfl a2.heap.size 0 rfl (tmC kc uc nc sc (.slice oc mc cc)) _ (rangeW_blk HY20.out.2.2.2.1) Try.underlying24 rfl (tmC_info _ _ _ _ _) ?_); focus rfl))
    have hx := less_any5 a b _ _ _ _ y19 (Ta.out.below HY20.out.1) (Tb.out.below HY20.out.1)
    rw [Eab.out] at hx
    refine Calls.mono hx ?_
    clear hx
    rintro e' y29 ⟨rfl, hb⟩
    have HY30 := Lib.hid (show Below w.heap.size w y29 ∧ Blk y29 w.heap.size 24 (tmC ka ua na sa (.slice oa ma ca)) ∧ Blk y29 a1.heap.size 24 (tmC kb ub nb sb (.slice ob mb cb)) ∧ Blk y29 a2.heap.size 24 (tmC kc uc nc sc (.slice oc mc cc)) ∧ Sl y29 (.slice xo xl xc) (ofK .u8 (bytesT a)) ∧ Sl y29 (.slice yo yl yc) (ofK .u8 (bytesT b)) from ⟨below_thn HY20.out.1 hb (Nat.le_refl _), HY20.out.2.1.below hb HY20.out.2.1.lt, HY20.out.2.2.1.below hb HY20.out.2.2.1.lt, HY20.out.2.2.2.1.below hb HY20.out.2.2.2.1.lt, HY20.out.2.2.2.2.1.below hb (Nat.le_refl _), HY20.out.2.2.2.2.2.below hb (Nat.le_refl _)⟩)
    clear hb
    go_wp2_with (first
    | (with_reducible refine wpList_load_any rfl 24 (.tmp 3) rfl w.heap.size 0 rfl (tmC ka ua na sa (.slice oa ma ca)) _ (rangeW_blk HY30.out.2.1) Try.underlying24 rfl (tmC_info _ _ _ _ _) ?_)
    | ((with_reducible refine wpList_load_want ?_ 24 (.tmp 3) rfl w.heap.size 0 rfl (tmC ka ua na sa (.slice oa ma ca)) _ (rangeW_blk HY30.out.2.1) Try.underlying24 rfl (tmC_info _ _ _ _ _) ?_); focus rfl)
    | (with_reducible refine wpList_load_any rfl 24 (.tmp 4) rfl a1.heap.size 0 rfl (tmC kb ub nb sb (.slice ob mb cb)) _ (rangeW_blk HY30.out.2.2.1) Try.underlying24 rfl (tmC_info _ _ _ _ _) ?_)
    | ((with_reducible refine wpList_load_want ?_ 24 (.tmp 4) rfl a1.heap.size 0 rfl (tmC kb ub nb sb (.slice ob mb cb)) _ (rangeW_blk HY30.out.2.2.1) Try.underlying24 rfl (tmC_info _ _ _ _ _) ?_); focus rfl)
    | (with_reducible refine wpList_load_any rfl 24 (.tmp 5) rfl a2.heap.size 0 rfl (tmC kc uc nc sc (.slice oc mc cc)) _ (rangeW_blk HY30.out.2.2.2.1) Try.underlying24 rfl (tmC_info _ _ _ _ _) ?_)
    | ((with_reducible refine wpList_load_want ?_ 24 (.tmp 5) rfl a2.heap.size 0 rfl (tmC kc uc nc sc (.slice oc mc cc)) _ (rangeW_blk HY30.out.2.2.2.1) Try.underlying24 rfl (tmC_info _ _ _ _ _) ?_); focus rfl))
    have hx := less_any5 b a _ _ _ _ y29 (Tb.out.below HY30.out.1) (Ta.out.below HY30.out.1)
    rw [Eba.out] at hx
    refine Calls.mono hx ?_
    clear hx
    rintro e' y31 ⟨rfl, hb⟩
    have HY32 := Lib.hid (show Below w.heap.size w y31 ∧ Blk y31 w.heap.size 24 (tmC ka ua na sa (.slice oa ma ca)) ∧ Blk y31 a1.heap.size 24 (tmC kb ub nb sb (.slice ob mb cb)) ∧ Blk y31 a2.heap.size 24 (tmC kc uc nc sc (.slice oc mc cc)) ∧ Sl y31 (.slice xo xl xc) (ofK .u8 (bytesT a)) ∧ Sl y31 (.slice yo yl yc) (ofK .u8 (bytesT b)) from ⟨below_thn HY30.out.1 hb (Nat.le_refl _), HY30.out.2.1.below hb HY30.out.2.1.lt, HY30.out.2.2.1.below hb HY30.out.2.2.1.lt, HY30.out.2.2.2.1.below hb HY30.out.2.2.2.1.lt, HY30.out.2.2.2.2.1.below hb (Nat.le_refl _), HY30.out.2.2.2.2.2.below hb (Nat.le_refl _)⟩)
    clear hb
    go_wp2_with (first
    | (with_reducible refine wpList_load_any rfl 24 (.tmp 3) rfl w.heap.size 0 rfl (tmC ka ua na sa (.slice oa ma ca)) _ (rangeW_blk HY32.out.2.1) Try.underlying24 rfl (tmC_info _ _ _ _ _) ?_)
    | ((with_reducible refine wpList_load_want ?_ 24 (.tmp 3) rfl w.heap.size 0 rfl (tmC ka ua na sa (.slice oa ma ca)) _ (rangeW_blk HY32.out.2.1) Try.underlying24 rfl (tmC_info _ _ _ _ _) ?_); focus rfl)
    | (with_reducible refine wpList_load_any rfl 24 (.tmp 4) rfl a1.heap.size 0 rfl (tmC kb ub nb sb (.slice ob mb cb)) _ (rangeW_blk HY32.out.2.2.1) Try.underlying24 rfl (tmC_info _ _ _ _ _) ?_)
    | ((with_reducible refine wpList_load_want ?_ 24 (.tmp 4) rfl a1.heap.size 0 rfl (tmC kb ub nb sb (.slice ob mb cb)) _ (rangeW_blk HY32.out.2.2.1) Try.underlying24 rfl (tmC_info _ _ _ _ _) ?_); focus rfl)
    | (with_reducible refine wpList_load_any rfl 24 (.tmp 5) rfl a2.heap.size 0 rfl (tmC kc uc nc sc (.slice oc mc cc)) _ (rangeW_blk HY32.out.2.2.2.1) Try.underlying24 rfl (tmC_info _ _ _ _ _) ?_)
    | ((with_reducible refine wpList_load_want ?_ 24 (.tmp 5) rfl a2.heap.size 0 rfl (tmC kc uc nc sc (.slice oc mc cc)) _ (rangeW_blk HY32.out.2.2.2.1) Try.underlying24 rfl (tmC_info _ _ _ _ _) ?_); focus rfl))
    have hx := less_any5 a b _ _ _ _ y31 (Ta.out.below HY32.out.1) (Tb.out.below HY32.out.1)
    rw [Eab.out] at hx
    refine Calls.mono hx ?_
    clear hx
    rintro e' y33 ⟨rfl, hb⟩
    have HY34 := Lib.hid (show Below w.heap.size w y33 ∧ Blk y33 w.heap.size 24 (tmC ka ua na sa (.slice oa ma ca)) ∧ Blk y33 a1.heap.size 24 (tmC kb ub nb sb (.slice ob mb cb)) ∧ Blk y33 a2.heap.size 24 (tmC kc uc nc sc (.slice oc mc cc)) ∧ Sl y33 (.slice xo xl xc) (ofK .u8 (bytesT a)) ∧ Sl y33 (.slice yo yl yc) (ofK .u8 (bytesT b)) from ⟨below_thn HY32.out.1 hb (Nat.le_refl _), HY32.out.2.1.below hb HY32.out.2.1.lt, HY32.out.2.2.1.below hb HY32.out.2.2.1.lt, HY32.out.2.2.2.1.below hb HY32.out.2.2.2.1.lt, HY32.out.2.2.2.2.1.below hb (Nat.le_refl _), HY32.out.2.2.2.2.2.below hb (Nat.le_refl _)⟩)
    clear hb
    by_cases hle : xl ≤ yl
    · have hle' : (xl : Int) ≤ (yl : Int) := by omega
      have hlc : (xl : Int) ≤ (yc : Int) := by have := CXy.out; omega
      have hx0 : (0 : Int) ≤ (xl : Int) := by omega
      have HLE := Lib.hid hle
      clear hle
      go_wp2_with fail
      have hx := equal_any _ _ (bytesT a) ((bytesT b).take xl) y33 HY34.out.2.2.2.2.1 (HY34.out.2.2.2.2.2.pre xl HLE.out) (bytesT_B a (sizeT_good Na.out).1) (fun c hc => bytesT_B b (sizeT_good Nb.out).1 c (List.mem_of_mem_take hc))
      rw [decide_eq_false HPX.out] at hx
      refine Calls.mono hx ?_
      clear hx
      rintro e' w9 ⟨rfl, rfl⟩
      go_wp2_with (first
    | (with_reducible refine wpList_load_any rfl 24 (.tmp 3) rfl w.heap.size 0 rfl (tmC ka ua na sa (.slice oa ma ca)) _ (rangeW_blk HY34.out.2.1) Try.underlying24 rfl (tmC_info _ _ _ _ _) ?_)
    | ((with_reducible refine wpList_load_want ?_ 24 (.tmp 3) rfl w.heap.size 0 rfl (tmC ka ua na sa (.slice oa ma ca)) _ (rangeW_blk HY34.out.2.1) Try.underlying24 rfl (tmC_info _ _ _ _ _) ?_); focus rfl)
    | (with_reducible refine wpList_load_any rfl 24 (.tmp 4) rfl a1.heap.size 0 rfl (tmC kb ub nb sb (.slice ob mb cb)) _ (rangeW_blk HY34.out.2.2.1) Try.underlying24 rfl (tmC_info _ _ _ _ _) ?_)
    | ((with_reducible refine wpList_load_want ?_ 24 (.tmp 4) rfl a1.heap.size 0 rfl (tmC kb ub nb sb (.slice ob mb cb)) _ (rangeW_blk HY34.out.2.2.1) Try.underlying24 rfl (tmC_info _ _ _ _ _) ?_); focus rfl)
    | (with_reducible refine wpList_load_any rfl 24 (.tmp 5) rfl a2.heap.size 0 rfl (tmC kc uc nc sc (.slice oc mc cc)) _ (rangeW_blk HY34.out.2.2.2.1) Try.underlying24 rfl (tmC_info _ _ _ _ _) ?_)
    | ((with_reducible refine wpList_load_want ?_ 24 (.tmp 5) rfl a2.heap.size 0 rfl (tmC kc uc nc sc (.slice oc mc cc)) _ (rangeW_blk HY34.out.2.2.2.1) Try.underlying24 rfl (tmC_info _ _ _ _ _) ?_); focus rfl))
      have hx := less_any5 a b _ _ _ _ y33 (Ta.out.below HY34.out.1) (Tb.out.below HY34.out.1)
      rw [Eab.out] at hx
      refine Calls.mono hx ?_
      clear hx
      rintro e' y35 ⟨rfl, hb⟩
      have HY36 := Lib.hid (show Below w.heap.size w y35 ∧ Blk y35 w.heap.size 24 (tmC ka ua na sa (.slice oa ma ca)) ∧ Blk y35 a1.heap.size 24 (tmC kb ub nb sb (.slice ob mb cb)) ∧ Blk y35 a2.heap.size 24 (tmC kc uc nc sc (.slice oc mc cc)) ∧ Sl y35 (.slice xo xl xc) (ofK .u8 (bytesT a)) ∧ Sl y35 (.slice yo yl yc) (ofK .u8 (bytesT b)) from ⟨below_thn HY34.out.1 hb (Nat.le_refl _), HY34.out.2.1.below hb HY34.out.2.1.lt, HY34.out.2.2.1.below hb HY34.out.2.2.1.lt, HY34.out.2.2.2.1.below hb HY34.out.2.2.2.1.lt, HY34.out.2.2.2.2.1.below hb (Nat.le_refl _), HY34.out.2.2.2.2.2.below hb (Nat.le_refl _)⟩)
      clear hb
      go_wp2_with fail
      go_ret
      exact ⟨rfl, HY36.out.1⟩
    · have hle' : ¬ (xl : Int) ≤ (yl : Int) := by omega
      clear hle
      go_wp2_with (first
    | (with_reducible refine wpList_load_any rfl 24 (.tmp 3) rfl w.heap.size 0 rfl (tmC ka ua na sa (.slice oa ma ca)) _ (rangeW_blk HY34.out.2.1) Try.underlying24 rfl (tmC_info _ _ _ _ _) ?_)
    | ((with_reducible refine wpList_load_want ?_ 24 (.tmp 3) rfl w.heap.size 0 rfl (tmC ka ua na sa (.slice oa ma ca)) _ (rangeW_blk HY34.out.2.1) Try.underlying24 rfl (tmC_info _ _ _ _ _) ?_); focus rfl)
    | (with_reducible refine wpList_load_any rfl 24 (.tmp 4) rfl a1.heap.size 0 rfl (tmC kb ub nb sb (.slice ob mb cb)) _ (rangeW_blk HY34.out.2.2.1) Try.underlying24 rfl (tmC_info _ _ _ _ _) ?_)
    | ((with_reducible refine wpList_load_want ?_ 24 (.tmp 4) rfl a1.heap.size 0 rfl (tmC kb ub nb sb (.slice ob mb cb)) _ (rangeW_blk HY34.out.2.2.1) Try.underlying24 rfl (tmC_info _ _ _ _ _) ?_); focus rfl)
    | (with_reducible refine wpList_load_any rfl 24 (.tmp 5) rfl a2.heap.size 0 rfl (tmC kc uc nc sc (.slice oc mc cc)) _ (rangeW_blk HY34.out.2.2.2.1) Try.underlying24 rfl (tmC_info _ _ _ _ _) ?_)
    | ((with_reducible refine wpList_load_want ?_ 24 (.tmp 5) rfl a2.heap.size 0 rfl (tmC kc uc nc sc (.slice oc mc cc)) _ (rangeW_blk HY34.out.2.2.2.1) Try.underlying24 rfl (tmC_info _ _ _ _ _) ?_); focus rfl))
      have hx := less_any5 a b _ _ _ _ y33 (Ta.out.below HY34.out.1) (Tb.out.below HY34.out.1)
      rw [Eab.out] at hx
      refine Calls.mono hx ?_
      clear hx
      rintro e' y37 ⟨rfl, hb⟩
      have HY38 := Lib.hid (show Below w.heap.size w y37 ∧ Blk y37 w.heap.size 24 (tmC ka ua na sa (.slice oa ma ca)) ∧ Blk y37 a1.heap.size 24 (tmC kb ub nb sb (.slice ob mb cb)) ∧ Blk y37 a2.heap.size 24 (tmC kc uc nc sc (.slice oc mc cc)) ∧ Sl y37 (.slice xo xl xc) (ofK .u8 (bytesT a)) ∧ Sl y37 (.slice yo yl yc) (ofK .u8 (bytesT b)) from ⟨below_thn HY34.out.1 hb (Nat.le_refl _), HY34.out.2.1.below hb HY34.out.2.1.lt, HY34.out.2.2.1.below hb HY34.out.2.2.1.lt, HY34.out.2.2.2.1.below hb HY34.out.2.2.2.1.lt, HY34.out.2.2.2.2.1.below hb (Nat.le_refl _), HY34.out.2.2.2.2.2.below hb (Nat.le_refl _)⟩)
      clear hb
      go_wp2_with fail
      go_ret
      exact ⟨rfl, HY38.out.1⟩
  · obtain rfl : ba = false := h1
    go_wp2_with (first
    | (with_reducible refine wpList_load_any rfl 24 (.tmp 3) rfl w.heap.size 0 rfl (tmC ka ua na sa (.slice oa ma ca)) _ (rangeW_blk HY20.out.2.1) Try.underlying24 rfl (tmC_info _ _ _ _ _) ?_)
    | ((with_reducible refine wpList_load_want ?_ 24 (.tmp 3) rfl w.heap.size 0 rfl (tmC ka ua na sa (.slice oa ma ca)) _ (rangeW_blk HY20.out.2.1) Try.underlying24 rfl (tmC_info _ _ _ _ _) ?_); focus rfl)
    | (with_reducible refine wpList_load_any rfl 24 (.tmp 4) rfl a1.heap.size 0 rfl (tmC kb ub nb sb (.slice ob mb cb)) _ (rangeW_blk HY20.out.2.2.1) Try.underlying24 rfl (tmC_info _ _ _ _ _) ?_)
    | ((with_reducible refine wpList_load_want ?_ 24 (.tmp 4) rfl a1.heap.size 0 rfl (tmC kb ub nb sb (.slice ob mb cb)) _ (rangeW_blk HY20.out.2.2.1) Try.underlying24 rfl (tmC_info _ _ _ _ _) ?_); focus rfl)
    | (with_reducible refine wpList_load_any rfl 24 (.tmp 5) rfl a2.heap.size 0 rfl (tmC kc uc nc sc (.slice oc mc cc)) _ (rangeW_blk HY20.out.2.2.2.1) Try.underlying24 rfl (tmC_info _ _ _ _ _) ?_)
    | ((with_reducible refine wpList_load_want ?_ 24 (.tmp 5) rfl a2.heap.size 0 rfl (tmC kc uc nc sc (.slice oc mc cc)) _ (rangeW_blk HY20.out.2.2.2.1) Try.underlying24 rfl (tmC_info _ _ _ _ _) ?_); focus rfl))
    have hx := less_any5 a b _ _ _ _ y19 (Ta.out.below HY20.out.1) (Tb.out.below HY20.out.1)
    rw [Eab.out] at hx
    refine Calls.mono hx ?_
    clear hx
    rintro e' y39 ⟨rfl, hb⟩
    have HY40 := Lib.hid (show Below w.heap.size w y39 ∧ Blk y39 w.heap.size 24 (tmC ka ua na sa (.slice oa ma ca)) ∧ Blk y39 a1.heap.size 24 (tmC kb ub nb sb (.slice ob mb cb)) ∧ Blk y39 a2.heap.size 24 (tmC kc uc nc sc (.slice oc mc cc)) ∧ Sl y39 (.slice xo xl xc) (ofK .u8 (bytesT a)) ∧ Sl y39 (.slice yo yl yc) (ofK .u8 (bytesT b)) from ⟨below_thn HY20.out.1 hb (Nat.le_refl _), HY20.out.2.1.below hb HY20.out.2.1.lt, HY20.out.2.2.1.below hb HY20.out.2.2.1.lt, HY20.out.2.2.2.1.below hb HY20.out.2.2.2.1.lt, HY20.out.2.2.2.2.1.below hb (Nat.le_refl _), HY20.out.2.2.2.2.2.below hb (Nat.le_refl _)⟩)
    clear hb
    go_wp2_with (first
    | (with_reducible refine wpList_load_any rfl 24 (.tmp 3) rfl w.heap.size 0 rfl (tmC ka ua na sa (.slice oa ma ca)) _ (rangeW_blk HY40.out.2.1) Try.underlying24 rfl (tmC_info _ _ _ _ _) ?_)
    | ((with_reducible refine wpList_load_want ?_ 24 (.tmp 3) rfl w.heap.size 0 rfl (tmC ka ua na sa (.slice oa ma ca)) _ (rangeW_blk HY40.out.2.1) Try.underlying24 rfl (tmC_info _ _ _ _ _) ?_); focus rfl)
    | (with_reducible refine wpList_load_any rfl 24 (.tmp 4) rfl a1.heap.size 0 rfl (tmC kb ub nb sb (.slice ob mb cb)) _ (rangeW_blk HY40.out.2.2.1) Try.underlying24 rfl (tmC_info _ _ _ _ _) ?_)
    | ((with_reducible refine wpList_load_want ?_ 24 (.tmp 4) rfl a1.heap.size 0 rfl (tmC kb ub nb sb (.slice ob mb cb)) _ (rangeW_blk HY40.out.2.2.1) Try.underlying24 rfl (tmC_info _ _ _ _ _) ?_); focus rfl)
    | (with_reducible refine wpList_load_any rfl 24 (.tmp 5) rfl a2.heap.size 0 rfl (tmC kc uc nc sc (.slice oc mc cc)) _ (rangeW_blk HY40.out.2.2.2.1) Try.underlying24 rfl (tmC_info _ _ _ _ _) ?_)
    | ((with_reducible refine wpList_load_want ?_ 24 (.tmp 5) rfl a2.heap.size 0 rfl (tmC kc uc nc sc (.slice oc mc cc)) _ (rangeW_blk HY40.out.2.2.2.1) Try.underlying24 rfl (tmC_info _ _ _ _ _) ?_); focus rfl))
    have hx := less_any5 a b _ _ _ _ y39 (Ta.out.below HY40.out.1) (Tb.out.below HY40.out.1)
    rw [Eab.out] at hx
    refine Calls.mono hx ?_
    clear hx
    rintro e' y41 ⟨rfl, hb⟩
    have HY42 := Lib.hid (show Below w.heap.size w y41 ∧ Blk y41 w.heap.size 24 (tmC ka ua na sa (.slice oa ma ca)) ∧ Blk y41 a1.heap.size 24 (tmC kb ub nb sb (.slice ob mb cb)) ∧ Blk y41 a2.heap.size 24 (tmC kc uc nc sc (.slice oc mc cc)) ∧ Sl y41 (.slice xo xl xc) (ofK .u8 (bytesT a)) ∧ Sl y41 (.slice yo yl yc) (ofK .u8 (bytesT b)) from ⟨below_thn HY40.out.1 hb (Nat.le_refl _), HY40.out.2.1.below hb HY40.out.2.1.lt, HY40.out.2.2.1.below hb HY40.out.2.2.1.lt, HY40.out.2.2.2.1.below hb HY40.out.2.2.2.1.lt, HY40.out.2.2.2.2.1.below hb (Nat.le_refl _), HY40.out.2.2.2.2.2.below hb (Nat.le_refl _)⟩)
    clear hb
    go_wp2_with (first
    | (with_reducible refine wpList_load_any rfl 24 (.tmp 3) rfl w.heap.size 0 rfl (tmC ka ua na sa (.slice oa ma ca)) _ (rangeW_blk HY42.out.2.1) Try.underlying24 rfl (tmC_info _ _ _ _ _) ?_)
    | ((with_reducible refine wpList_load_want ?_ 24 (.tmp 3) rfl w.heap.size 0 rfl (tmC ka ua na sa (.slice oa ma ca)) _ (rangeW_blk HY42.out.2.1) Try.underlying24 rfl (tmC_info _ _ _ _ _) ?_); focus rfl)
    | (with_reducible refine wpList_load_any rfl 24 (.tmp 4) rfl a1.heap.size 0 rfl (tmC kb ub nb sb (.slice ob mb cb)) _ (rangeW_blk HY42.out.2.2.1) Try.underlying24 rfl (tmC_info _ _ _ _ _) ?_)
    | ((with_reducible refine wpList_load_want ?_ 24 (.tmp 4) rfl a1.heap.size 0 rfl (tmC kb ub nb sb (.slice ob mb cb)) _ (rangeW_blk HY42.out.2.2.1) Try.underlying24 rfl (tmC_info _ _ _ _ _) ?_); focus rfl)
    | (with_reducible refine wpList_load_any rfl 24 (.tmp 5) rfl a2.heap.size 0 rfl (tmC kc uc nc sc (.slice oc mc cc)) _ (rangeW_blk HY42.out.2.2.2.1) Try.underlying24 rfl (tmC_info _ _ _ _ _) ?_)
    | ((with_reducible refine wpList_load_want ?_ 24 (.tmp 5) rfl a2.heap.size 0 rfl (tmC kc uc nc sc (.slice oc mc cc)) _ (rangeW_blk HY42.out.2.2.2.1) Try.underlying24 rfl (tmC_info _ _ _ _ _) ?_); focus rfl))
    have hx := less_any5 b a _ _ _ _ y41 (Tb.out.below HY42.out.1) (Ta.out.below HY42.out.1)
    rw [Eba.out] at hx
    refine Calls.mono hx ?_
    clear hx
    rintro e' y43 ⟨rfl, hb⟩
    have HY44 := Lib.hid (show Below w.heap.size w y43 ∧ Blk y43 w.heap.size 24 (tmC ka ua na sa (.slice oa ma ca)) ∧ Blk y43 a1.heap.size 24 (tmC kb ub nb sb (.slice ob mb cb)) ∧ Blk y43 a2.heap.size 24 (tmC kc uc nc sc (.slice oc mc cc)) ∧ Sl y43 (.slice xo xl xc) (ofK .u8 (bytesT a)) ∧ Sl y43 (.slice yo yl yc) (ofK .u8 (bytesT b)) from ⟨below_thn HY42.out.1 hb (Nat.le_refl _), HY42.out.2.1.below hb HY42.out.2.1.lt, HY42.out.2.2.1.below hb HY42.out.2.2.1.lt, HY42.out.2.2.2.1.below hb HY42.out.2.2.2.1.lt, HY42.out.2.2.2.2.1.below hb (Nat.le_refl _), HY42.out.2.2.2.2.2.below hb (Nat.le_refl _)⟩)
    clear hb
    by_cases hle : xl ≤ yl
    · have hle' : (xl : Int) ≤ (yl : Int) := by omega
      have hlc : (xl : Int) ≤ (yc : Int) := by have := CXy.out; omega
      have hx0 : (0 : Int) ≤ (xl : Int) := by omega
      have HLE := Lib.hid hle
      clear hle
      go_wp2_with fail
      have hx := equal_any _ _ (bytesT a) ((bytesT b).take xl) y43 HY44.out.2.2.2.2.1 (HY44.out.2.2.2.2.2.pre xl HLE.out) (bytesT_B a (sizeT_good Na.out).1) (fun c hc => bytesT_B b (sizeT_good Nb.out).1 c (List.mem_of_mem_take hc))
      rw [decide_eq_false HPX.out] at hx
      refine Calls.mono hx ?_
      clear hx
      rintro e' w9 ⟨rfl, rfl⟩
      go_wp2_with (first
    | (with_reducible refine wpList_load_any rfl 24 (.tmp 3) rfl w.heap.size 0 rfl (tmC ka ua na sa (.slice oa ma ca)) _ (rangeW_blk HY44.out.2.1) Try.underlying24 rfl (tmC_info _ _ _ _ _) ?_)
    | ((with_reducible refine wpList_load_want ?_ 24 (.tmp 3) rfl w.heap.size 0 rfl (tmC ka ua na sa (.slice oa ma ca)) _ (rangeW_blk HY44.out.2.1) Try.underlying24 rfl (tmC_info _ _ _ _ _) ?_); focus rfl)
    | (with_reducible refine wpList_load_any rfl 24 (.tmp 4) rfl a1.heap.size 0 rfl (tmC kb ub nb sb (.slice ob mb cb)) _ (rangeW_blk HY44.out.2.2.1) Try.underlying24 rfl (tmC_info _ _ _ _ _) ?_)
    | ((with_reducible refine wpList_load_want ?_ 24 (.tmp 4) rfl a1.heap.size 0 rfl (tmC kb ub nb sb (.slice ob mb cb)) _ (rangeW_blk HY44.out.2.2.1) Try.underlying24 rfl (tmC_info _ _ _ _ _) ?_); focus rfl)
    | (with_reducible refine wpList_load_any rfl 24 (.tmp 5) rfl a2.heap.size 0 rfl (tmC kc uc nc sc (.slice oc mc cc)) _ (rangeW_blk HY44.out.2.2.2.1) Try.underlying24 rfl (tmC_info _ _ _ _ _) ?_)
    | ((with_reducible refine wpList_load_want ?_ 24 (.tmp 5) rfl a2.heap.size 0 rfl (tmC kc uc nc sc (.slice oc mc cc)) _ (rangeW_blk HY44.out.2.2.2.1) Try.underlying24 rfl (tmC_info _ _ _ _ _) ?_); focus rfl))
      have hx := less_any5 a b _ _ _ _ y43 (Ta.out.below HY44.out.1) (Tb.out.below HY44.out.1)
      rw [Eab.out] at hx
      refine Calls.mono hx ?_
      clear hx
      rintro e' y45 ⟨rfl, hb⟩
      have HY46 := Lib.hid (show Below w.heap.size w y45 ∧ Blk y45 w.heap.size 24 (tmC ka ua na sa (.slice oa ma ca)) ∧ Blk y45 a1.heap.size 24 (tmC kb ub nb sb (.slice ob mb cb)) ∧ Blk y45 a2.heap.size 24 (tmC kc uc nc sc (.slice oc mc cc)) ∧ Sl y45 (.slice xo xl xc) (ofK .u8 (bytesT a)) ∧ Sl y45 (.slice yo yl yc) (ofK .u8 (bytesT b)) from ⟨below_thn HY44.out.1 hb (Nat.le_refl _), HY44.out.2.1.below hb HY44.out.2.1.lt, HY44.out.2.2.1.below hb HY44.out.2.2.1.lt, HY44.out.2.2.2.1.below hb HY44.out.2.2.2.1.lt, HY44.out.2.2.2.2.1.below hb (Nat.le_refl _), HY44.out.2.2.2.2.2.below hb (Nat.le_refl _)⟩)
      clear hb
      go_wp2_with (first
    | (with_reducible refine wpList_load_any rfl 24 (.tmp 3) rfl w.heap.size 0 rfl (tmC ka ua na sa (.slice oa ma ca)) _ (rangeW_blk HY46.out.2.1) Try.underlying24 rfl (tmC_info _ _ _ _ _) ?_)
    | ((with_reducible refine wpList_load_want ?_ 24 (.tmp 3) rfl w.heap.size 0 rfl (tmC ka ua na sa (.slice oa ma ca)) _ (rangeW_blk HY46.out.2.1) Try.underlying24 rfl (tmC_info _ _ _ _ _) ?_); focus rfl)
    | (with_reducible refine wpList_load_any rfl 24 (.tmp 4) rfl a1.heap.size 0 rfl (tmC kb ub nb sb (.slice ob mb cb)) _ (rangeW_blk HY46.out.2.2.1) Try.underlying24 rfl (tmC_info _ _ _ _ _) ?_)
    | ((with_reducible refine wpList_load_want ?_ 24 (.tmp 4) rfl a1.heap.size 0 rfl (tmC kb ub nb sb (.slice ob mb cb)) _ (rangeW_blk HY46.out.2.2.1) Try.underlying24 rfl (tmC_info _ _ _ _ _) ?_); focus rfl)
    | (with_reducible refine wpList_load_any rfl 24 (.tmp 5) rfl a2.heap.size 0 rfl (tmC kc uc nc sc (.slice oc mc cc)) _ (rangeW_blk HY46.out.2.2.2.1) Try.underlying24 rfl (tmC_info _ _ _ _ _) ?_)
    | ((with_reducible refine wpList_load_want ?_ 24 (.tmp 5) rfl a2.heap.size 0 rfl (tmC kc uc nc sc (.slice oc mc cc)) _ (rangeW_blk HY46.out.2.2.2.1) Try.underlying24 rfl (tmC_info _ _ _ _ _) ?_); focus rfl))
      have hx := less_any5 b c _ _ _ _ y45 (Tb.out.below HY46.out.1) (Tc.out.below HY46.out.1)
      rw [Ebc.out] at hx
      refine Calls.mono hx ?_
      clear hx
      rintro e' y47 ⟨rfl, hb⟩
      have HY48 := Lib.hid (show Below w.heap.size w y47 ∧ Blk y47 w.heap.size 24 (tmC ka ua na sa (.slice oa ma ca)) ∧ Blk y47 a1.heap.size 24 (tmC kb ub nb sb (.slice ob mb cb)) ∧ Blk y47 a2.heap.size 24 (tmC kc uc nc sc (.slice oc mc cc)) ∧ Sl y47 (.slice xo xl xc) (ofK .u8 (bytesT a)) ∧ Sl y47 (.slice yo yl yc) (ofK .u8 (bytesT b)) from ⟨below_thn HY46.out.1 hb (Nat.le_refl _), HY46.out.2.1.below hb HY46.out.2.1.lt, HY46.out.2.2.1.below hb HY46.out.2.2.1.lt, HY46.out.2.2.2.1.below hb HY46.out.2.2.2.1.lt, HY46.out.2.2.2.2.1.below hb (Nat.le_refl _), HY46.out.2.2.2.2.2.below hb (Nat.le_refl _)⟩)
      clear hb
      cases bc
      · skip
        go_wp2_with fail
        go_ret
        exact ⟨rfl, HY48.out.1⟩
      obtain rfl := G.out.1.tr rfl rfl
      go_wp2_with (first
    | (with_reducible refine wpList_load_any rfl 24 (.tmp 3) rfl w.heap.size 0 rfl (tmC ka ua na sa (.slice oa ma ca)) _ (rangeW_blk HY48.out.2.1) Try.underlying24 rfl (tmC_info _ _ _ _ _) ?_)
    | ((with_reducible refine wpList_load_want ?_ 24 (.tmp 3) rfl w.heap.size 0 rfl (tmC ka ua na sa (.slice oa ma ca)) _ (rangeW_blk HY48.out.2.1) Try.underlying24 rfl (tmC_info _ _ _ _ _) ?_); focus rfl)
    | (with_reducible refine wpList_load_any rfl 24 (.tmp 4) rfl a1.heap.size 0 rfl (tmC kb ub nb sb (.slice ob mb cb)) _ (rangeW_blk HY48.out.2.2.1) Try.underlying24 rfl (tmC_info _ _ _ _ _) ?_)
    | ((with_reducible refine wpList_load_want ?_ 24 (.tmp 4) rfl a1.heap.size 0 rfl (tmC kb ub nb sb (.slice ob mb cb)) _ (rangeW_blk HY48.out.2.2.1) Try.underlying24 rfl (tmC_info _ _ _ _ _) ?_); focus rfl)
    | (with_reducible refine wpList_load_any rfl 24 (.tmp 5) rfl a2.heap.size 0 rfl (tmC kc uc nc sc (.slice oc mc cc)) _ (rangeW_blk HY48.out.2.2.2.1) Try.underlying24 rfl (tmC_info _ _ _ _ _) ?_)
    | ((with_reducible refine wpList_load_want ?_ 24 (.tmp 5) rfl a2.heap.size 0 rfl (tmC kc uc nc sc (.slice oc mc cc)) _ (rangeW_blk HY48.out.2.2.2.1) Try.underlying24 rfl (tmC_info _ _ _ _ _) ?_); focus rfl))
      have hx := less_any5 a c _ _ _ _ y47 (Ta.out.below HY48.out.1) (Tc.out.below HY48.out.1)
      rw [Eac.out] at hx
      refine Calls.mono hx ?_
      clear hx
      rintro e' y49 ⟨rfl, hb⟩
      have HY50 := Lib.hid (show Below w.heap.size w y49 ∧ Blk y49 w.heap.size 24 (tmC ka ua na sa (.slice oa ma ca)) ∧ Blk y49 a1.heap.size 24 (tmC kb ub nb sb (.slice ob mb cb)) ∧ Blk y49 a2.heap.size 24 (tmC kc uc nc sc (.slice oc mc cc)) ∧ Sl y49 (.slice xo xl xc) (ofK .u8 (bytesT a)) ∧ Sl y49 (.slice yo yl yc) (ofK .u8 (bytesT b)) from ⟨below_thn HY48.out.1 hb (Nat.le_refl _), HY48.out.2.1.below hb HY48.out.2.1.lt, HY48.out.2.2.1.below hb HY48.out.2.2.1.lt, HY48.out.2.2.2.1.below hb HY48.out.2.2.2.1.lt, HY48.out.2.2.2.2.1.below hb (Nat.le_refl _), HY48.out.2.2.2.2.2.below hb (Nat.le_refl _)⟩)
      clear hb
      go_wp2_with fail
      go_ret
      exact ⟨rfl, HY50.out.1⟩
    · have hle' : ¬ (xl : Int) ≤ (yl : Int) := by omega
      clear hle
      go_wp2_with (first
    | (with_reducible refine wpList_load_any rfl 24 (.tmp 3) rfl w.heap.size 0 rfl (tmC ka ua na sa (.slice oa ma ca)) _ (rangeW_blk HY44.out.2.1) Try.underlying24 rfl (tmC_info _ _ _ _ _) ?_)
    | ((with_reducible refine wpList_load_want ?_ 24 (.tmp 3) rfl w.heap.size 0 rfl (tmC ka ua na sa (.slice oa ma ca)) _ (rangeW_blk HY44.out.2.1) Try.underlying24 rfl (tmC_info _ _ _ _ _) ?_); focus rfl)
    | (with_reducible refine wpList_load_any rfl 24 (.tmp 4) rfl a1.heap.size 0 rfl (tmC kb ub nb sb (.slice ob mb cb)) _ (rangeW_blk HY44.out.2.2.1) Try.underlying24 rfl (tmC_info _ _ _ _ _) ?_)
    | ((with_reducible refine wpList_load_want ?_ 24 (.tmp 4) rfl a1.heap.size 0 rfl (tmC kb ub nb sb (.slice ob mb cb)) _ (rangeW_blk HY44.out.2.2.1) Try.underlying24 rfl (tmC_info _ _ _ _ _) ?_); focus rfl)
    | (with_reducible refine wpList_load_any rfl 24 (.tmp 5) rfl a2.heap.size 0 rfl (tmC kc uc nc sc (.slice oc mc cc)) _ (rangeW_blk HY44.out.2.2.2.1) Try.underlying24 rfl (tmC_info _ _ _ _ _) ?_)
    | ((with_reducible refine wpList_load_want ?_ 24 (.tmp 5) rfl a2.heap.size 0 rfl (tmC kc uc nc sc (.slice oc mc cc)) _ (rangeW_blk HY44.out.2.2.2.1) Try.underlying24 rfl (tmC_info _ _ _ _ _) ?_); focus rfl))
      have hx := less_any5 a b _ _ _ _ y43 (Ta.out.below HY44.out.1) (Tb.out.below HY44.out.1)
      rw [Eab.out] at hx
      refine Calls.mono hx ?_
      clear hx
      rintro e' y51 ⟨rfl, hb⟩
      have HY52 := Lib.hid (show Below w.heap.size w y51 ∧ Blk y51 w.heap.size 24 (tmC ka ua na sa (.slice oa ma ca)) ∧ Blk y51 a1.heap.size 24 (tmC kb ub nb sb (.slice ob mb cb)) ∧ Blk y51 a2.heap.size 24 (tmC kc uc nc sc (.slice oc mc cc)) ∧ Sl y51 (.slice xo xl xc) (ofK .u8 (bytesT a)) ∧ Sl y51 (.slice yo yl yc) (ofK .u8 (bytesT b)) from ⟨below_thn HY44.out.1 hb (Nat.le_refl _), HY44.out.2.1.below hb HY44.out.2.1.lt, HY44.out.2.2.1.below hb HY44.out.2.2.1.lt, HY44.out.2.2.2.1.below hb HY44.out.2.2.2.1.lt, HY44.out.2.2.2.2.1.below hb (Nat.le_refl _), HY44.out.2.2.2.2.2.below hb (Nat.le_refl _)⟩)
      clear hb
      go_wp2_with (first
    | (with_reducible refine wpList_load_any rfl 24 (.tmp 3) rfl w.heap.size 0 rfl (tmC ka ua na sa (.slice oa ma ca)) _ (rangeW_blk HY52.out.2.1) Try.underlying24 rfl (tmC_info _ _ _ _ _) ?_)
    | ((with_reducible refine wpList_load_want ?_ 24 (.tmp 3) rfl w.heap.size 0 rfl (tmC ka ua na sa (.slice oa ma ca)) _ (rangeW_blk HY52.out.2.1) Try.underlying24 rfl (tmC_info _ _ _ _ _) ?_); focus rfl)
    | (with_reducible refine wpList_load_any rfl 24 (.tmp 4) rfl a1.heap.size 0 rfl (tmC kb ub nb sb (.slice ob mb cb)) _ (rangeW_blk HY52.out.2.2.1) Try.underlying24 rfl (tmC_info _ _ _ _ _) ?_)
    | ((with_reducible refine wpList_load_want ?_ 24 (.tmp 4) rfl a1.heap.size 0 rfl (tmC kb ub nb sb (.slice ob mb cb)) _ (rangeW_blk HY52.out.2.2.1) Try.underlying24 rfl (tmC_info _ _ _ _ _) ?_); focus rfl)
    | (with_reducible refine wpList_load_any rfl 24 (.tmp 5) rfl a2.heap.size 0 rfl (tmC kc uc nc sc (.slice oc mc cc)) _ (rangeW_blk HY52.out.2.2.2.1) Try.underlying24 rfl (tmC_info _ _ _ _ _) ?_)
    | ((with_reducible refine wpList_load_want ?_ 24 (.tmp 5) rfl a2.heap.size 0 rfl (tmC kc uc nc sc (.slice oc mc cc)) _ (rangeW_blk HY52.out.2.2.2.1) Try.underlying24 rfl (tmC_info _ _ _ _ _) ?_); focus rfl))
      have hx := less_any5 b c _ _ _ _ y51 (Tb.out.below HY52.out.1) (Tc.out.below HY52.out.1)
      rw [Ebc.out] at hx
      refine Calls.mono hx ?_
      clear hx
      rintro e' y53 ⟨rfl, hb⟩
      have HY54 := Lib.hid (show Below w.heap.size w y53 ∧ Blk y53 w.heap.size 24 (tmC ka ua na sa (.slice oa ma ca)) ∧ Blk y53 a1.heap.size 24 (tmC kb ub nb sb (.slice ob mb cb)) ∧ Blk y53 a2.heap.size 24 (tmC kc uc nc sc (.slice oc mc cc)) ∧ Sl y53 (.slice xo xl xc) (ofK .u8 (bytesT a)) ∧ Sl y53 (.slice yo yl yc) (ofK .u8 (bytesT b)) from ⟨below_thn HY52.out.1 hb (Nat.le_refl _), HY52.out.2.1.below hb HY52.out.2.1.lt, HY52.out.2.2.1.below hb HY52.out.2.2.1.lt, HY52.out.2.2.2.1.below hb HY52.out.2.2.2.1.lt, HY52.out.2.2.2.2.1.below hb (Nat.le_refl _), HY52.out.2.2.2.2.2.below hb (Nat.le_refl _)⟩)
      clear hb
      cases bc
      · skip
        go_wp2_with fail
        go_ret
        exact ⟨rfl, HY54.out.1⟩
      obtain rfl := G.out.1.tr rfl rfl
      go_wp2_with (first
    | (with_reducible refine wpList_load_any rfl 24 (.tmp 3) rfl w.heap.size 0 rfl (tmC ka ua na sa (.slice oa ma ca)) _ (rangeW_blk HY54.out.2.1) Try.underlying24 rfl (tmC_info _ _ _ _ _) ?_)
    | ((with_reducible refine wpList_load_want ?_ 24 (.tmp 3) rfl w.heap.size 0 rfl (tmC ka ua na sa (.slice oa ma ca)) _ (rangeW_blk HY54.out.2.1) Try.underlying24 rfl (tmC_info _ _ _ _ _) ?_); focus rfl)
    | (with_reducible refine wpList_load_any rfl 24 (.tmp 4) rfl a1.heap.size 0 rfl (tmC kb ub nb sb (.slice ob mb cb)) _ (rangeW_blk HY54.out.2.2.1) Try.underlying24 rfl (tmC_info _ _ _ _ _) ?_)
    | ((with_reducible refine wpList_load_want ?_ 24 (.tmp 4) rfl a1.heap.size 0 rfl (tmC kb ub nb sb (.slice ob mb cb)) _ (rangeW_blk HY54.out.2.2.1) Try.underlying24 rfl (tmC_info _ _ _ _ _) ?_); focus rfl)
    | (with_reducible refine wpList_load_any rfl 24 (.tmp 5) rfl a2.heap.size 0 rfl (tmC kc uc nc sc (.slice oc mc cc)) _ (rangeW_blk HY54.out.2.2.2.1) Try.underlying24 rfl (tmC_info _ _ _ _ _) ?_)
    | ((with_reducible refine wpList_load_want ?_ 24 (.tmp 5) rfl a2.heap.size 0 rfl (tmC kc uc nc sc (.slice oc mc cc)) _ (rangeW_blk HY54.out.2.2.2.1) Try.underlying24 rfl (tmC_info _ _ _ _ _) ?_); focus rfl))
      have hx := less_any5 a c _ _ _ _ y53 (Ta.out.below HY54.out.1) (Tc.out.below HY54.out.1)
      rw [Eac.out] at hx
      refine Calls.mono hx ?_
      clear hx
      rintro e' y55 ⟨rfl, hb⟩
      have HY56 := Lib.hid (show Below w.heap.size w y55 ∧ Blk y55 w.heap.size 24 (tmC ka ua na sa (.slice oa ma ca)) ∧ Blk y55 a1.heap.size 24 (tmC kb ub nb sb (.slice ob mb cb)) ∧ Blk y55 a2.heap.size 24 (tmC kc uc nc sc (.slice oc mc cc)) ∧ Sl y55 (.slice xo xl xc) (ofK .u8 (bytesT a)) ∧ Sl y55 (.slice yo yl yc) (ofK .u8 (bytesT b)) from ⟨below_thn HY54.out.1 hb (Nat.le_refl _), HY54.out.2.1.below hb HY54.out.2.1.lt, HY54.out.2.2.1.below hb HY54.out.2.2.1.lt, HY54.out.2.2.2.1.below hb HY54.out.2.2.2.1.lt, HY54.out.2.2.2.2.1.below hb (Nat.le_refl _), HY54.out.2.2.2.2.2.below hb (Nat.le_refl _)⟩)
      clear hb
      go_wp2_with fail
      go_ret
      exact ⟨rfl, HY56.out.1⟩


end Go.Proofs.Ytfenikoajadiaaa
