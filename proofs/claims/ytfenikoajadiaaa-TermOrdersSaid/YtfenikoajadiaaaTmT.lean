/-
  Layer 5: law 05: TermOrders, walked. Conditions: none.
-/
import Derived.Test.YtfenikoajadiaaaTmN
import Derived.Test.YtfenikoajadiaaaTmO
import Derived.Test.YtfenikoajadiaaaTmM
namespace Go.Proofs.Ytfenikoajadiaaa
open Go Go.RowKit
set_option linter.unusedSimpArgs false
set_option linter.unusedVariables false


set_option maxRecDepth 100000 in
set_option maxHeartbeats 16000000 in
theorem termOrders_walk (a : Tm) (ca' : List Value) (b : Tm) (cb' : List Value) (w : World) (ha : TmC AnyF w ca' a) (hb : TmC AnyF w cb' b) :
    Calls Try.prog 4 #[.agg ca'.toArray, .agg cb'.toArray] w (TrueP w) := by
  obtain ⟨oa, ca, rfl, -, -, -⟩ := ha.shape
  have Ta := Lib.hid ha.old
  obtain ⟨ob, cb, rfl, -, -, -⟩ := hb.shape
  have Tb := Lib.hid hb.old
  obtain ⟨ova, hova⟩ : ∃ x, overB a = x := ⟨_, rfl⟩
  have Eova := Lib.hid hova
  obtain ⟨ovb, hovb⟩ : ∃ x, overB b = x := ⟨_, rfl⟩
  have Eovb := Lib.hid hovb
  obtain ⟨sm, hsm⟩ : ∃ x, sameT a b = x := ⟨_, rfl⟩
  have Esm := Lib.hid hsm
  obtain ⟨ls, hls⟩ : ∃ x, lessT a b = x := ⟨_, rfl⟩
  have Els := Lib.hid hls
  obtain ⟨za, hza⟩ : ∃ x, decide (sizeT a ≠ 0) = x := ⟨_, rfl⟩
  have Za := Lib.hid hza
  obtain ⟨zb, hzb⟩ : ∃ x, decide (sizeT b ≠ 0) = x := ⟨_, rfl⟩
  have Zb := Lib.hid hzb
  have ZL := Lib.hid (show (za && zb) = false → ls = false from fun h => by
    rw [← hls]; unfold lessT
    rw [← hza, ← hzb] at h
    by_cases h1 : sizeT a = 0
    · rw [h1]; rfl
    · rw [decide_eq_true h1, Bool.true_and] at h
      have h2 : sizeT b = 0 := by simpa using h
      rw [h2]; simp)
  have nn : (sm != sm) = false := by simp
  have nl : (ls == ls) = true := by simp
  have SS := Lib.hid ((sameT_iff a a).2 rfl)
  clear hova hovb hsm hls hza ha hzb hb
  generalize a.ks.length = ma at Ta ⊢
  generalize a.k = ka at Ta ⊢
  generalize a.u = ua at Ta ⊢
  generalize a.n = na at Ta ⊢
  generalize a.s = sa at Ta ⊢
  generalize b.ks.length = mb at Tb ⊢
  generalize b.k = kb at Tb ⊢
  generalize b.u = ub at Tb ⊢
  generalize b.n = nb at Tb ⊢
  generalize b.s = sb at Tb ⊢
  have H0 := Lib.hid (Below.refl w.heap.size w)
  go_enter Try.func4, Try.ntmps4
  go_wp2_with (first
    | ((with_reducible refine wpList_box_blk w rfl 24 (.tmp 0) rfl (tmC ka ua na sa (.slice oa ma ca)) rfl ?_); intro a1 hb hbel hsz; have HA1 := Lib.hid (show Below w.heap.size w a1 ∧ Blk a1 w.heap.size 24 (tmC ka ua na sa (.slice oa ma ca)) from ⟨below_thn H0.out hbel (Nat.le_refl _), hb⟩); clear hb hbel hsz)
    | ((with_reducible refine wpList_box_blk a1 rfl 24 (.tmp 1) rfl (tmC kb ub nb sb (.slice ob mb cb)) rfl ?_); intro a2 hb hbel hsz; have HA2 := Lib.hid (show Below w.heap.size w a2 ∧ Blk a2 w.heap.size 24 (tmC ka ua na sa (.slice oa ma ca)) ∧ Blk a2 a1.heap.size 24 (tmC kb ub nb sb (.slice ob mb cb)) from ⟨below_thn HA1.out.1 hbel (Nat.le_refl _), HA1.out.2.below hbel HA1.out.2.lt, hb⟩); clear hb hbel hsz))
  have hx := wakes5_any a2
  refine Calls.mono hx ?_
  clear hx
  rintro e' y1 ⟨rfl, hb⟩
  have HY2 := Lib.hid (show Below w.heap.size w y1 ∧ Blk y1 w.heap.size 24 (tmC ka ua na sa (.slice oa ma ca)) ∧ Blk y1 a1.heap.size 24 (tmC kb ub nb sb (.slice ob mb cb)) from ⟨below_thn HA2.out.1 hb (Nat.le_refl _), HA2.out.2.1.below hb HA2.out.2.1.lt, HA2.out.2.2.below hb HA2.out.2.2.lt⟩)
  clear hb
  go_wp2_with (first
    | (with_reducible refine wpList_load_any rfl 24 (.tmp 2) rfl w.heap.size 0 rfl (tmC ka ua na sa (.slice oa ma ca)) _ (rangeW_blk HY2.out.2.1) Try.underlying24 rfl (tmC_info _ _ _ _ _) ?_)
    | ((with_reducible refine wpList_load_want ?_ 24 (.tmp 2) rfl w.heap.size 0 rfl (tmC ka ua na sa (.slice oa ma ca)) _ (rangeW_blk HY2.out.2.1) Try.underlying24 rfl (tmC_info _ _ _ _ _) ?_); focus rfl)
    | (with_reducible refine wpList_load_any rfl 24 (.tmp 3) rfl a1.heap.size 0 rfl (tmC kb ub nb sb (.slice ob mb cb)) _ (rangeW_blk HY2.out.2.2) Try.underlying24 rfl (tmC_info _ _ _ _ _) ?_)
    | ((with_reducible refine wpList_load_want ?_ 24 (.tmp 3) rfl a1.heap.size 0 rfl (tmC kb ub nb sb (.slice ob mb cb)) _ (rangeW_blk HY2.out.2.2) Try.underlying24 rfl (tmC_info _ _ _ _ _) ?_); focus rfl))
  have hx := over_any a _ _ y1 (Ta.out.below HY2.out.1)
  rw [Eova.out] at hx
  refine Calls.mono hx ?_
  clear hx
  rintro e' y3 ⟨rfl, hb⟩
  have HY4 := Lib.hid (show Below w.heap.size w y3 ∧ Blk y3 w.heap.size 24 (tmC ka ua na sa (.slice oa ma ca)) ∧ Blk y3 a1.heap.size 24 (tmC kb ub nb sb (.slice ob mb cb)) from ⟨below_thn HY2.out.1 hb (Nat.le_refl _), HY2.out.2.1.below hb HY2.out.2.1.lt, HY2.out.2.2.below hb HY2.out.2.2.lt⟩)
  clear hb
  cases ova
  rotate_left
  · skip
    go_wp2_with fail
    go_ret
    exact ⟨rfl, HY4.out.1⟩
  go_wp2_with (first
    | (with_reducible refine wpList_load_any rfl 24 (.tmp 2) rfl w.heap.size 0 rfl (tmC ka ua na sa (.slice oa ma ca)) _ (rangeW_blk HY4.out.2.1) Try.underlying24 rfl (tmC_info _ _ _ _ _) ?_)
    | ((with_reducible refine wpList_load_want ?_ 24 (.tmp 2) rfl w.heap.size 0 rfl (tmC ka ua na sa (.slice oa ma ca)) _ (rangeW_blk HY4.out.2.1) Try.underlying24 rfl (tmC_info _ _ _ _ _) ?_); focus rfl)
    | (with_reducible refine wpList_load_any rfl 24 (.tmp 3) rfl a1.heap.size 0 rfl (tmC kb ub nb sb (.slice ob mb cb)) _ (rangeW_blk HY4.out.2.2) Try.underlying24 rfl (tmC_info _ _ _ _ _) ?_)
    | ((with_reducible refine wpList_load_want ?_ 24 (.tmp 3) rfl a1.heap.size 0 rfl (tmC kb ub nb sb (.slice ob mb cb)) _ (rangeW_blk HY4.out.2.2) Try.underlying24 rfl (tmC_info _ _ _ _ _) ?_); focus rfl))
  have hx := over_any b _ _ y3 (Tb.out.below HY4.out.1)
  rw [Eovb.out] at hx
  refine Calls.mono hx ?_
  clear hx
  rintro e' y5 ⟨rfl, hb⟩
  have HY6 := Lib.hid (show Below w.heap.size w y5 ∧ Blk y5 w.heap.size 24 (tmC ka ua na sa (.slice oa ma ca)) ∧ Blk y5 a1.heap.size 24 (tmC kb ub nb sb (.slice ob mb cb)) from ⟨below_thn HY4.out.1 hb (Nat.le_refl _), HY4.out.2.1.below hb HY4.out.2.1.lt, HY4.out.2.2.below hb HY4.out.2.2.lt⟩)
  clear hb
  cases ovb
  rotate_left
  · skip
    go_wp2_with fail
    go_ret
    exact ⟨rfl, HY6.out.1⟩
  go_wp2_with fail
  refine wp_region_takes (fun w' => w'.rangeAt w.heap.size 0 (tmC ka ua na sa (.slice oa ma ca)) ∧ w'.rangeAt a1.heap.size 0 (tmC kb ub nb sb (.slice ob mb cb))) [0, 1, 3, 4] 10 (by kernel_rfl) rfl (by kernel_rfl) (by kernel_rfl) ⟨rangeW_blk HY6.out.2.1, rangeW_blk HY6.out.2.2⟩ ?_
  iterate 4 (refine' HeldL.run ?_ ?_ ?_ ?_; rotate_left 2; (simp only [List.getElem?_toArray, List.getElem?_cons_zero, List.getElem?_cons_succ]; rfl); rfl; (rintro w' ⟨k0, k1⟩; first | exact exec_load_mid rfl rfl k0 Try.underlying24 rfl (tmC_info _ _ _ _ _) | exact exec_load_mid rfl rfl k1 Try.underlying24 rfl (tmC_info _ _ _ _ _)); simp only [Act.put, List.setIfInBounds_toArray, List.set_cons_zero, List.set_cons_succ])
  have sm := (Sm.refl y5).drew
  have HV8 := Lib.hid (show Below w.heap.size w y5.drew ∧ Blk y5.drew w.heap.size 24 (tmC ka ua na sa (.slice oa ma ca)) ∧ Blk y5.drew a1.heap.size 24 (tmC kb ub nb sb (.slice ob mb cb)) from ⟨below_thn HY6.out.1 (sm.below _) (Nat.le_refl _), HY6.out.2.1.below (sm.below _) HY6.out.2.1.lt, HY6.out.2.2.below (sm.below _) HY6.out.2.2.lt⟩)
  clear sm
  generalize y5.drew = v7 at HV8 ⊢
  refine' wpAnyH_one 2 (by kernel_rfl) ?_ ?_; rotate_left; (simp only [List.getElem?_toArray, List.getElem?_cons_zero, List.getElem?_cons_succ]; rfl)
  try simp only [Act.put]
  go_wp2_with fail
  have hx := same_any5 a b _ _ _ _ v7 (Ta.out.below HV8.out.1) (Tb.out.below HV8.out.1)
  rw [Esm.out] at hx
  refine Calls.mono hx ?_
  clear hx
  rintro e' y9 ⟨rfl, hb⟩
  have HY10 := Lib.hid (show Below w.heap.size w y9 ∧ Blk y9 w.heap.size 24 (tmC ka ua na sa (.slice oa ma ca)) ∧ Blk y9 a1.heap.size 24 (tmC kb ub nb sb (.slice ob mb cb)) from ⟨below_thn HV8.out.1 hb (Nat.le_refl _), HV8.out.2.1.below hb HV8.out.2.1.lt, HV8.out.2.2.below hb HV8.out.2.2.lt⟩)
  clear hb
  go_wp2_with fail
  refine QK.normal ⟨⟨rangeW_blk HY10.out.2.1, rangeW_blk HY10.out.2.2⟩, ?_⟩
  refine' wpAnyH_one 5 (by kernel_rfl) ?_ ?_; rotate_left; (simp only [List.getElem?_toArray, List.getElem?_cons_zero, List.getElem?_cons_succ]; rfl)
  try simp only [Act.put]
  go_wp2_with fail
  have hx := rsame_any5 a b _ _ _ _ y9 (Ta.out.below HY10.out.1) (Tb.out.below HY10.out.1)
  rw [Esm.out] at hx
  refine Calls.mono hx ?_
  clear hx
  rintro e' y11 ⟨rfl, hb⟩
  have HY12 := Lib.hid (show Below w.heap.size w y11 ∧ Blk y11 w.heap.size 24 (tmC ka ua na sa (.slice oa ma ca)) ∧ Blk y11 a1.heap.size 24 (tmC kb ub nb sb (.slice ob mb cb)) from ⟨below_thn HY10.out.1 hb (Nat.le_refl _), HY10.out.2.1.below hb HY10.out.2.1.lt, HY10.out.2.2.below hb HY10.out.2.2.lt⟩)
  clear hb
  go_wp2_with fail
  refine QK.normal ⟨⟨rangeW_blk HY12.out.2.1, rangeW_blk HY12.out.2.2⟩, ?_⟩
  refine' wpAnyH_one 6 (by kernel_rfl) ?_ ?_; rotate_left; (simp only [List.getElem?_toArray, List.getElem?_cons_zero, List.getElem?_cons_succ]; rfl)
  try simp only [Act.put]
  go_wp2_with fail
  refine QK.normal ⟨⟨rangeW_blk HY12.out.2.1, rangeW_blk HY12.out.2.2⟩, ?_⟩
  refine' wpAnyH_one 7 (by kernel_rfl) ?_ ?_; rotate_left; (simp only [List.getElem?_toArray, List.getElem?_cons_zero, List.getElem?_cons_succ]; rfl)
  try simp only [Act.put]
  go_wp2_with fail
  refine QK.normal ⟨⟨rangeW_blk HY12.out.2.1, rangeW_blk HY12.out.2.2⟩, ?_⟩
  refine' wpAnyH_two 8 9 (by kernel_rfl) ?_ ?_ ?_ ?_; rotate_left 2; (simp only [List.getElem?_toArray, List.getElem?_cons_zero, List.getElem?_cons_succ]; rfl); (simp only [List.getElem?_toArray, List.getElem?_cons_zero, List.getElem?_cons_succ]; rfl)
  · skip
    try simp only [Act.put]
    go_wp2_with (first
    | (with_reducible refine wpList_load_any rfl 24 (.tmp 2) rfl w.heap.size 0 rfl (tmC ka ua na sa (.slice oa ma ca)) _ (rangeW_blk HY12.out.2.1) Try.underlying24 rfl (tmC_info _ _ _ _ _) ?_)
    | ((with_reducible refine wpList_load_want ?_ 24 (.tmp 2) rfl w.heap.size 0 rfl (tmC ka ua na sa (.slice oa ma ca)) _ (rangeW_blk HY12.out.2.1) Try.underlying24 rfl (tmC_info _ _ _ _ _) ?_); focus rfl)
    | (with_reducible refine wpList_load_any rfl 24 (.tmp 3) rfl a1.heap.size 0 rfl (tmC kb ub nb sb (.slice ob mb cb)) _ (rangeW_blk HY12.out.2.2) Try.underlying24 rfl (tmC_info _ _ _ _ _) ?_)
    | ((with_reducible refine wpList_load_want ?_ 24 (.tmp 3) rfl a1.heap.size 0 rfl (tmC kb ub nb sb (.slice ob mb cb)) _ (rangeW_blk HY12.out.2.2) Try.underlying24 rfl (tmC_info _ _ _ _ _) ?_); focus rfl))
    refine QK.normal ⟨⟨rangeW_blk HY12.out.2.1, rangeW_blk HY12.out.2.2⟩, ?_⟩
    refine' wpAnyH_one 9 (by kernel_rfl) ?_ ?_; rotate_left; (simp only [List.getElem?_toArray, List.getElem?_cons_zero, List.getElem?_cons_succ]; rfl)
    try simp only [Act.put]
    go_wp2_with (first
    | (with_reducible refine wpList_load_any rfl 24 (.tmp 2) rfl w.heap.size 0 rfl (tmC ka ua na sa (.slice oa ma ca)) _ (rangeW_blk HY12.out.2.1) Try.underlying24 rfl (tmC_info _ _ _ _ _) ?_)
    | ((with_reducible refine wpList_load_want ?_ 24 (.tmp 2) rfl w.heap.size 0 rfl (tmC ka ua na sa (.slice oa ma ca)) _ (rangeW_blk HY12.out.2.1) Try.underlying24 rfl (tmC_info _ _ _ _ _) ?_); focus rfl)
    | (with_reducible refine wpList_load_any rfl 24 (.tmp 3) rfl a1.heap.size 0 rfl (tmC kb ub nb sb (.slice ob mb cb)) _ (rangeW_blk HY12.out.2.2) Try.underlying24 rfl (tmC_info _ _ _ _ _) ?_)
    | ((with_reducible refine wpList_load_want ?_ 24 (.tmp 3) rfl a1.heap.size 0 rfl (tmC kb ub nb sb (.slice ob mb cb)) _ (rangeW_blk HY12.out.2.2) Try.underlying24 rfl (tmC_info _ _ _ _ _) ?_); focus rfl))
    refine QK.normal ⟨⟨rangeW_blk HY12.out.2.1, rangeW_blk HY12.out.2.2⟩, ?_⟩
    refine' wpAnyH_one 10 (by kernel_rfl) ?_ ?_; rotate_left; (simp only [List.getElem?_toArray, List.getElem?_cons_zero, List.getElem?_cons_succ]; rfl)
    try simp only [Act.put]
    go_wp2_with fail
    refine (rcopy_any a _ _ y11 (overB_few Eova.out) (Ta.out.below HY12.out.1)).mono ?_
    rintro e' y13 ⟨cq, rfl, htm, hb⟩
    have HY14 := Lib.hid (show Below w.heap.size w y13 ∧ Blk y13 w.heap.size 24 (tmC ka ua na sa (.slice oa ma ca)) ∧ Blk y13 a1.heap.size 24 (tmC kb ub nb sb (.slice ob mb cb)) ∧ ∃ Fq, TmC Fq y13 cq a from ⟨below_thn HY12.out.1 hb (Nat.le_refl _), HY12.out.2.1.below hb HY12.out.2.1.lt, HY12.out.2.2.below hb HY12.out.2.2.lt, ⟨_, htm⟩⟩)
    clear htm hb
    go_wp2_with fail
    refine QK.normal ⟨⟨rangeW_blk HY14.out.2.1, rangeW_blk HY14.out.2.2.1⟩, ?_⟩
    refine' wpAnyH_one 11 (by kernel_rfl) ?_ ?_; rotate_left; (simp only [List.getElem?_toArray, List.getElem?_cons_zero, List.getElem?_cons_succ]; rfl)
    try simp only [Act.put]
    go_wp2_with fail
    obtain ⟨Fq, hq⟩ := HY14.out.2.2.2
    have hx := same_any5 a a _ _ _ _ y13 (Ta.out.below HY14.out.1) hq
    rw [SS.out] at hx
    clear hq
    refine Calls.mono hx ?_
    clear hx
    rintro e' y15 ⟨rfl, hb⟩
    have HY16 := Lib.hid (show Below w.heap.size w y15 ∧ Blk y15 w.heap.size 24 (tmC ka ua na sa (.slice oa ma ca)) ∧ Blk y15 a1.heap.size 24 (tmC kb ub nb sb (.slice ob mb cb)) from ⟨below_thn HY14.out.1 hb (Nat.le_refl _), HY14.out.2.1.below hb HY14.out.2.1.lt, HY14.out.2.2.1.below hb HY14.out.2.2.1.lt⟩)
    clear hb
    go_wp2_with fail
    refine QK.normal ⟨⟨rangeW_blk HY16.out.2.1, rangeW_blk HY16.out.2.2⟩, ?_⟩
    refine' wpAnyH_one 12 (by kernel_rfl) ?_ ?_; rotate_left; (simp only [List.getElem?_toArray, List.getElem?_cons_zero, List.getElem?_cons_succ]; rfl)
    try simp only [Act.put]
    go_wp2_with fail
    refine QK.normal ⟨⟨rangeW_blk HY16.out.2.1, rangeW_blk HY16.out.2.2⟩, ?_⟩
    refine' wpAnyH_one 13 (by kernel_rfl) ?_ ?_; rotate_left; (simp only [List.getElem?_toArray, List.getElem?_cons_zero, List.getElem?_cons_succ]; rfl)
    try simp only [Act.put]
    go_wp2_with fail
    refine QK.normal ⟨⟨rangeW_blk HY16.out.2.1, rangeW_blk HY16.out.2.2⟩, ?_⟩
    refine wpAnyH_done (by kernel_rfl) ?_ _
    refine NoPanic.normal ?_
    go_wp2_with (first
    | (with_reducible refine wpList_load_any rfl 24 (.tmp 2) rfl w.heap.size 0 rfl (tmC ka ua na sa (.slice oa ma ca)) _ (rangeW_blk HY16.out.2.1) Try.underlying24 rfl (tmC_info _ _ _ _ _) ?_)
    | ((with_reducible refine wpList_load_want ?_ 24 (.tmp 2) rfl w.heap.size 0 rfl (tmC ka ua na sa (.slice oa ma ca)) _ (rangeW_blk HY16.out.2.1) Try.underlying24 rfl (tmC_info _ _ _ _ _) ?_); focus rfl)
    | (with_reducible refine wpList_load_any rfl 24 (.tmp 3) rfl a1.heap.size 0 rfl (tmC kb ub nb sb (.slice ob mb cb)) _ (rangeW_blk HY16.out.2.2) Try.underlying24 rfl (tmC_info _ _ _ _ _) ?_)
    | ((with_reducible refine wpList_load_want ?_ 24 (.tmp 3) rfl a1.heap.size 0 rfl (tmC kb ub nb sb (.slice ob mb cb)) _ (rangeW_blk HY16.out.2.2) Try.underlying24 rfl (tmC_info _ _ _ _ _) ?_); focus rfl))
    have hx := rright_any a _ _ y15 (Ta.out.below HY16.out.1)
    rw [Za.out] at hx
    refine Calls.mono hx ?_
    clear hx
    rintro e' y17 ⟨rfl, hb⟩
    have HY18 := Lib.hid (show Below w.heap.size w y17 ∧ Blk y17 w.heap.size 24 (tmC ka ua na sa (.slice oa ma ca)) ∧ Blk y17 a1.heap.size 24 (tmC kb ub nb sb (.slice ob mb cb)) from ⟨below_thn HY16.out.1 hb (Nat.le_refl _), HY16.out.2.1.below hb HY16.out.2.1.lt, HY16.out.2.2.below hb HY16.out.2.2.lt⟩)
    clear hb
    cases za
    · skip
      obtain rfl : ls = false := ZL.out rfl
      go_wp2_with (first
    | (with_reducible refine wpList_load_any rfl 24 (.tmp 2) rfl w.heap.size 0 rfl (tmC ka ua na sa (.slice oa ma ca)) _ (rangeW_blk HY18.out.2.1) Try.underlying24 rfl (tmC_info _ _ _ _ _) ?_)
    | ((with_reducible refine wpList_load_want ?_ 24 (.tmp 2) rfl w.heap.size 0 rfl (tmC ka ua na sa (.slice oa ma ca)) _ (rangeW_blk HY18.out.2.1) Try.underlying24 rfl (tmC_info _ _ _ _ _) ?_); focus rfl)
    | (with_reducible refine wpList_load_any rfl 24 (.tmp 3) rfl a1.heap.size 0 rfl (tmC kb ub nb sb (.slice ob mb cb)) _ (rangeW_blk HY18.out.2.2) Try.underlying24 rfl (tmC_info _ _ _ _ _) ?_)
    | ((with_reducible refine wpList_load_want ?_ 24 (.tmp 3) rfl a1.heap.size 0 rfl (tmC kb ub nb sb (.slice ob mb cb)) _ (rangeW_blk HY18.out.2.2) Try.underlying24 rfl (tmC_info _ _ _ _ _) ?_); focus rfl))
      have hx := less_any5 a b _ _ _ _ y17 (Ta.out.below HY18.out.1) (Tb.out.below HY18.out.1)
      rw [Els.out] at hx
      refine Calls.mono hx ?_
      clear hx
      rintro e' y19 ⟨rfl, hb⟩
      have HY20 := Lib.hid (show Below w.heap.size w y19 ∧ Blk y19 w.heap.size 24 (tmC ka ua na sa (.slice oa ma ca)) ∧ Blk y19 a1.heap.size 24 (tmC kb ub nb sb (.slice ob mb cb)) from ⟨below_thn HY18.out.1 hb (Nat.le_refl _), HY18.out.2.1.below hb HY18.out.2.1.lt, HY18.out.2.2.below hb HY18.out.2.2.lt⟩)
      clear hb
      go_wp2_with fail
      go_ret
      exact ⟨rfl, HY20.out.1⟩
    go_wp2_with (first
    | (with_reducible refine wpList_load_any rfl 24 (.tmp 2) rfl w.heap.size 0 rfl (tmC ka ua na sa (.slice oa ma ca)) _ (rangeW_blk HY18.out.2.1) Try.underlying24 rfl (tmC_info _ _ _ _ _) ?_)
    | ((with_reducible refine wpList_load_want ?_ 24 (.tmp 2) rfl w.heap.size 0 rfl (tmC ka ua na sa (.slice oa ma ca)) _ (rangeW_blk HY18.out.2.1) Try.underlying24 rfl (tmC_info _ _ _ _ _) ?_); focus rfl)
    | (with_reducible refine wpList_load_any rfl 24 (.tmp 3) rfl a1.heap.size 0 rfl (tmC kb ub nb sb (.slice ob mb cb)) _ (rangeW_blk HY18.out.2.2) Try.underlying24 rfl (tmC_info _ _ _ _ _) ?_)
    | ((with_reducible refine wpList_load_want ?_ 24 (.tmp 3) rfl a1.heap.size 0 rfl (tmC kb ub nb sb (.slice ob mb cb)) _ (rangeW_blk HY18.out.2.2) Try.underlying24 rfl (tmC_info _ _ _ _ _) ?_); focus rfl))
    have hx := rright_any b _ _ y17 (Tb.out.below HY18.out.1)
    rw [Zb.out] at hx
    refine Calls.mono hx ?_
    clear hx
    rintro e' y21 ⟨rfl, hb⟩
    have HY22 := Lib.hid (show Below w.heap.size w y21 ∧ Blk y21 w.heap.size 24 (tmC ka ua na sa (.slice oa ma ca)) ∧ Blk y21 a1.heap.size 24 (tmC kb ub nb sb (.slice ob mb cb)) from ⟨below_thn HY18.out.1 hb (Nat.le_refl _), HY18.out.2.1.below hb HY18.out.2.1.lt, HY18.out.2.2.below hb HY18.out.2.2.lt⟩)
    clear hb
    cases zb
    · skip
      obtain rfl : ls = false := ZL.out rfl
      go_wp2_with (first
    | (with_reducible refine wpList_load_any rfl 24 (.tmp 2) rfl w.heap.size 0 rfl (tmC ka ua na sa (.slice oa ma ca)) _ (rangeW_blk HY22.out.2.1) Try.underlying24 rfl (tmC_info _ _ _ _ _) ?_)
    | ((with_reducible refine wpList_load_want ?_ 24 (.tmp 2) rfl w.heap.size 0 rfl (tmC ka ua na sa (.slice oa ma ca)) _ (rangeW_blk HY22.out.2.1) Try.underlying24 rfl (tmC_info _ _ _ _ _) ?_); focus rfl)
    | (with_reducible refine wpList_load_any rfl 24 (.tmp 3) rfl a1.heap.size 0 rfl (tmC kb ub nb sb (.slice ob mb cb)) _ (rangeW_blk HY22.out.2.2) Try.underlying24 rfl (tmC_info _ _ _ _ _) ?_)
    | ((with_reducible refine wpList_load_want ?_ 24 (.tmp 3) rfl a1.heap.size 0 rfl (tmC kb ub nb sb (.slice ob mb cb)) _ (rangeW_blk HY22.out.2.2) Try.underlying24 rfl (tmC_info _ _ _ _ _) ?_); focus rfl))
      have hx := less_any5 a b _ _ _ _ y21 (Ta.out.below HY22.out.1) (Tb.out.below HY22.out.1)
      rw [Els.out] at hx
      refine Calls.mono hx ?_
      clear hx
      rintro e' y23 ⟨rfl, hb⟩
      have HY24 := Lib.hid (show Below w.heap.size w y23 ∧ Blk y23 w.heap.size 24 (tmC ka ua na sa (.slice oa ma ca)) ∧ Blk y23 a1.heap.size 24 (tmC kb ub nb sb (.slice ob mb cb)) from ⟨below_thn HY22.out.1 hb (Nat.le_refl _), HY22.out.2.1.below hb HY22.out.2.1.lt, HY22.out.2.2.below hb HY22.out.2.2.lt⟩)
      clear hb
      go_wp2_with fail
      go_ret
      exact ⟨rfl, HY24.out.1⟩
    have NA := Lib.hid (show sizeT a ≠ 0 from of_decide_eq_true Za.out)
    have NB := Lib.hid (show sizeT b ≠ 0 from of_decide_eq_true Zb.out)
    have Ga := Lib.hid (sizeT_good NA.out)
    have Gb := Lib.hid (sizeT_good NB.out)
    have EL := Lib.hid (show decide (cmpL (bytesT a) (bytesT b) < 0) = ls from by rw [← lessT_eq NA.out NB.out]; exact Els.out)
    go_wp2_with fail
    refine wp_region_takes (fun w' => w'.rangeAt w.heap.size 0 (tmC ka ua na sa (.slice oa ma ca)) ∧ w'.rangeAt a1.heap.size 0 (tmC kb ub nb sb (.slice ob mb cb))) [0, 1, 3, 5] 6 (by kernel_rfl) rfl (by kernel_rfl) (by kernel_rfl) ⟨rangeW_blk HY22.out.2.1, rangeW_blk HY22.out.2.2⟩ ?_
    iterate 4 (refine' HeldL.run ?_ ?_ ?_ ?_; rotate_left 2; (simp only [List.getElem?_toArray, List.getElem?_cons_zero, List.getElem?_cons_succ]; rfl); rfl; (rintro w' ⟨k0, k1⟩; first | exact exec_load_mid rfl rfl k0 Try.underlying24 rfl (tmC_info _ _ _ _ _) | exact exec_load_mid rfl rfl k1 Try.underlying24 rfl (tmC_info _ _ _ _ _)); simp only [Act.put, List.setIfInBounds_toArray, List.set_cons_zero, List.set_cons_succ])
    have sm := (Sm.refl y21).drew
    have HV26 := Lib.hid (show Below w.heap.size w y21.drew ∧ Blk y21.drew w.heap.size 24 (tmC ka ua na sa (.slice oa ma ca)) ∧ Blk y21.drew a1.heap.size 24 (tmC kb ub nb sb (.slice ob mb cb)) from ⟨below_thn HY22.out.1 (sm.below _) (Nat.le_refl _), HY22.out.2.1.below (sm.below _) HY22.out.2.1.lt, HY22.out.2.2.below (sm.below _) HY22.out.2.2.lt⟩)
    clear sm
    generalize y21.drew = v25 at HV26 ⊢
    refine' wpAnyH_one 2 (by kernel_rfl) ?_ ?_; rotate_left; (simp only [List.getElem?_toArray, List.getElem?_cons_zero, List.getElem?_cons_succ]; rfl)
    try simp only [Act.put]
    go_wp2_with fail
    have hx := less_any5 a b _ _ _ _ v25 (Ta.out.below HV26.out.1) (Tb.out.below HV26.out.1)
    rw [Els.out] at hx
    refine Calls.mono hx ?_
    clear hx
    rintro e' y27 ⟨rfl, hb⟩
    have HY28 := Lib.hid (show Below w.heap.size w y27 ∧ Blk y27 w.heap.size 24 (tmC ka ua na sa (.slice oa ma ca)) ∧ Blk y27 a1.heap.size 24 (tmC kb ub nb sb (.slice ob mb cb)) from ⟨below_thn HV26.out.1 hb (Nat.le_refl _), HV26.out.2.1.below hb HV26.out.2.1.lt, HV26.out.2.2.below hb HV26.out.2.2.lt⟩)
    clear hb
    go_wp2_with fail
    refine QK.normal ⟨⟨rangeW_blk HY28.out.2.1, rangeW_blk HY28.out.2.2⟩, ?_⟩
    refine' wpAnyH_one 4 (by kernel_rfl) ?_ ?_; rotate_left; (simp only [List.getElem?_toArray, List.getElem?_cons_zero, List.getElem?_cons_succ]; rfl)
    try simp only [Act.put]
    go_wp2_with fail
    refine (rbytes_any a _ _ y27 Ga.out.1 (Ta.out.below HY28.out.1) (by have := Ga.out.2.2.2; omega)).mono ?_
    rintro e' y29 ⟨xo, xc, rfl, hrow, hb⟩
    generalize (bytesT a).length = xl at hrow ⊢
    have HY30 := Lib.hid (show Below w.heap.size w y29 ∧ Blk y29 w.heap.size 24 (tmC ka ua na sa (.slice oa ma ca)) ∧ Blk y29 a1.heap.size 24 (tmC kb ub nb sb (.slice ob mb cb)) ∧ Sl y29 (.slice xo xl xc) (ofK .u8 (bytesT a)) from ⟨below_thn HY28.out.1 hb (Nat.le_refl _), HY28.out.2.1.below hb HY28.out.2.1.lt, HY28.out.2.2.below hb HY28.out.2.2.lt, Sl.of_owns hrow⟩)
    clear hrow hb
    go_wp2_with fail
    refine QK.normal ⟨⟨rangeW_blk HY30.out.2.1, rangeW_blk HY30.out.2.2.1⟩, ?_⟩
    refine' wpAnyH_one 6 (by kernel_rfl) ?_ ?_; rotate_left; (simp only [List.getElem?_toArray, List.getElem?_cons_zero, List.getElem?_cons_succ]; rfl)
    try simp only [Act.put]
    go_wp2_with fail
    refine (rbytes_any b _ _ y29 Gb.out.1 (Tb.out.below HY30.out.1) (by have := Gb.out.2.2.2; omega)).mono ?_
    rintro e' y31 ⟨yo, yc, rfl, hrow, hb⟩
    generalize (bytesT b).length = yl at hrow ⊢
    have HY32 := Lib.hid (show Below w.heap.size w y31 ∧ Blk y31 w.heap.size 24 (tmC ka ua na sa (.slice oa ma ca)) ∧ Blk y31 a1.heap.size 24 (tmC kb ub nb sb (.slice ob mb cb)) ∧ Sl y31 (.slice xo xl xc) (ofK .u8 (bytesT a)) ∧ Sl y31 (.slice yo yl yc) (ofK .u8 (bytesT b)) from ⟨below_thn HY30.out.1 hb (Nat.le_refl _), HY30.out.2.1.below hb HY30.out.2.1.lt, HY30.out.2.2.1.below hb HY30.out.2.2.1.lt, HY30.out.2.2.2.below hb (Nat.le_refl _), Sl.of_owns hrow⟩)
    clear hrow hb
    go_wp2_with fail
    refine QK.normal ⟨⟨rangeW_blk HY32.out.2.1, rangeW_blk HY32.out.2.2.1⟩, ?_⟩
    refine' wpAnyH_one 7 (by kernel_rfl) ?_ ?_; rotate_left; (simp only [List.getElem?_toArray, List.getElem?_cons_zero, List.getElem?_cons_succ]; rfl)
    try simp only [Act.put]
    go_wp2_with fail
    have hx := rless_any _ _ (bytesT a) (bytesT b) y31 HY32.out.2.2.2.1 HY32.out.2.2.2.2
    rw [EL.out] at hx
    refine Calls.mono hx ?_
    clear hx
    rintro e' y33 ⟨rfl, hb⟩
    have HY34 := Lib.hid (show Below w.heap.size w y33 ∧ Blk y33 w.heap.size 24 (tmC ka ua na sa (.slice oa ma ca)) ∧ Blk y33 a1.heap.size 24 (tmC kb ub nb sb (.slice ob mb cb)) from ⟨below_thn HY32.out.1 hb (Nat.le_refl _), HY32.out.2.1.below hb HY32.out.2.1.lt, HY32.out.2.2.1.below hb HY32.out.2.2.1.lt⟩)
    clear hb
    go_wp2_with fail
    refine QK.normal ⟨⟨rangeW_blk HY34.out.2.1, rangeW_blk HY34.out.2.2⟩, ?_⟩
    refine' wpAnyH_one 8 (by kernel_rfl) ?_ ?_; rotate_left; (simp only [List.getElem?_toArray, List.getElem?_cons_zero, List.getElem?_cons_succ]; rfl)
    try simp only [Act.put]
    go_wp2_with fail
    refine QK.normal ⟨⟨rangeW_blk HY34.out.2.1, rangeW_blk HY34.out.2.2⟩, ?_⟩
    refine' wpAnyH_one 9 (by kernel_rfl) ?_ ?_; rotate_left; (simp only [List.getElem?_toArray, List.getElem?_cons_zero, List.getElem?_cons_succ]; rfl)
    try simp only [Act.put]
    go_wp2_with fail
    refine QK.normal ⟨⟨rangeW_blk HY34.out.2.1, rangeW_blk HY34.out.2.2⟩, ?_⟩
    refine wpAnyH_done (by kernel_rfl) ?_ _
    refine NoPanic.normal ?_
    go_wp2_with fail
    go_ret
    exact ⟨rfl, HY34.out.1⟩
  · skip
    try simp only [Act.put]
    go_wp2_with (first
    | (with_reducible refine wpList_load_any rfl 24 (.tmp 2) rfl w.heap.size 0 rfl (tmC ka ua na sa (.slice oa ma ca)) _ (rangeW_blk HY12.out.2.1) Try.underlying24 rfl (tmC_info _ _ _ _ _) ?_)
    | ((with_reducible refine wpList_load_want ?_ 24 (.tmp 2) rfl w.heap.size 0 rfl (tmC ka ua na sa (.slice oa ma ca)) _ (rangeW_blk HY12.out.2.1) Try.underlying24 rfl (tmC_info _ _ _ _ _) ?_); focus rfl)
    | (with_reducible refine wpList_load_any rfl 24 (.tmp 3) rfl a1.heap.size 0 rfl (tmC kb ub nb sb (.slice ob mb cb)) _ (rangeW_blk HY12.out.2.2) Try.underlying24 rfl (tmC_info _ _ _ _ _) ?_)
    | ((with_reducible refine wpList_load_want ?_ 24 (.tmp 3) rfl a1.heap.size 0 rfl (tmC kb ub nb sb (.slice ob mb cb)) _ (rangeW_blk HY12.out.2.2) Try.underlying24 rfl (tmC_info _ _ _ _ _) ?_); focus rfl))
    refine QK.normal ⟨⟨rangeW_blk HY12.out.2.1, rangeW_blk HY12.out.2.2⟩, ?_⟩
    refine' wpAnyH_two 8 10 (by kernel_rfl) ?_ ?_ ?_ ?_; rotate_left 2; (simp only [List.getElem?_toArray, List.getElem?_cons_zero, List.getElem?_cons_succ]; rfl); (simp only [List.getElem?_toArray, List.getElem?_cons_zero, List.getElem?_cons_succ]; rfl)
    · skip
      try simp only [Act.put]
      go_wp2_with (first
    | (with_reducible refine wpList_load_any rfl 24 (.tmp 2) rfl w.heap.size 0 rfl (tmC ka ua na sa (.slice oa ma ca)) _ (rangeW_blk HY12.out.2.1) Try.underlying24 rfl (tmC_info _ _ _ _ _) ?_)
    | ((with_reducible refine wpList_load_want ?_ 24 (.tmp 2) rfl w.heap.size 0 rfl (tmC ka ua na sa (.slice oa ma ca)) _ (rangeW_blk HY12.out.2.1) Try.underlying24 rfl (tmC_info _ _ _ _ _) ?_); focus rfl)
    | (with_reducible refine wpList_load_any rfl 24 (.tmp 3) rfl a1.heap.size 0 rfl (tmC kb ub nb sb (.slice ob mb cb)) _ (rangeW_blk HY12.out.2.2) Try.underlying24 rfl (tmC_info _ _ _ _ _) ?_)
    | ((with_reducible refine wpList_load_want ?_ 24 (.tmp 3) rfl a1.heap.size 0 rfl (tmC kb ub nb sb (.slice ob mb cb)) _ (rangeW_blk HY12.out.2.2) Try.underlying24 rfl (tmC_info _ _ _ _ _) ?_); focus rfl))
      refine QK.normal ⟨⟨rangeW_blk HY12.out.2.1, rangeW_blk HY12.out.2.2⟩, ?_⟩
      refine' wpAnyH_one 10 (by kernel_rfl) ?_ ?_; rotate_left; (simp only [List.getElem?_toArray, List.getElem?_cons_zero, List.getElem?_cons_succ]; rfl)
      try simp only [Act.put]
      go_wp2_with fail
      refine (rcopy_any a _ _ y11 (overB_few Eova.out) (Ta.out.below HY12.out.1)).mono ?_
      rintro e' y35 ⟨cq, rfl, htm, hb⟩
      have HY36 := Lib.hid (show Below w.heap.size w y35 ∧ Blk y35 w.heap.size 24 (tmC ka ua na sa (.slice oa ma ca)) ∧ Blk y35 a1.heap.size 24 (tmC kb ub nb sb (.slice ob mb cb)) ∧ ∃ Fq, TmC Fq y35 cq a from ⟨below_thn HY12.out.1 hb (Nat.le_refl _), HY12.out.2.1.below hb HY12.out.2.1.lt, HY12.out.2.2.below hb HY12.out.2.2.lt, ⟨_, htm⟩⟩)
      clear htm hb
      go_wp2_with fail
      refine QK.normal ⟨⟨rangeW_blk HY36.out.2.1, rangeW_blk HY36.out.2.2.1⟩, ?_⟩
      refine' wpAnyH_one 11 (by kernel_rfl) ?_ ?_; rotate_left; (simp only [List.getElem?_toArray, List.getElem?_cons_zero, List.getElem?_cons_succ]; rfl)
      try simp only [Act.put]
      go_wp2_with fail
      obtain ⟨Fq, hq⟩ := HY36.out.2.2.2
      have hx := same_any5 a a _ _ _ _ y35 (Ta.out.below HY36.out.1) hq
      rw [SS.out] at hx
      clear hq
      refine Calls.mono hx ?_
      clear hx
      rintro e' y37 ⟨rfl, hb⟩
      have HY38 := Lib.hid (show Below w.heap.size w y37 ∧ Blk y37 w.heap.size 24 (tmC ka ua na sa (.slice oa ma ca)) ∧ Blk y37 a1.heap.size 24 (tmC kb ub nb sb (.slice ob mb cb)) from ⟨below_thn HY36.out.1 hb (Nat.le_refl _), HY36.out.2.1.below hb HY36.out.2.1.lt, HY36.out.2.2.1.below hb HY36.out.2.2.1.lt⟩)
      clear hb
      go_wp2_with fail
      refine QK.normal ⟨⟨rangeW_blk HY38.out.2.1, rangeW_blk HY38.out.2.2⟩, ?_⟩
      refine' wpAnyH_one 12 (by kernel_rfl) ?_ ?_; rotate_left; (simp only [List.getElem?_toArray, List.getElem?_cons_zero, List.getElem?_cons_succ]; rfl)
      try simp only [Act.put]
      go_wp2_with fail
      refine QK.normal ⟨⟨rangeW_blk HY38.out.2.1, rangeW_blk HY38.out.2.2⟩, ?_⟩
      refine' wpAnyH_one 13 (by kernel_rfl) ?_ ?_; rotate_left; (simp only [List.getElem?_toArray, List.getElem?_cons_zero, List.getElem?_cons_succ]; rfl)
      try simp only [Act.put]
      go_wp2_with fail
      refine QK.normal ⟨⟨rangeW_blk HY38.out.2.1, rangeW_blk HY38.out.2.2⟩, ?_⟩
      refine wpAnyH_done (by kernel_rfl) ?_ _
      refine NoPanic.normal ?_
      go_wp2_with (first
    | (with_reducible refine wpList_load_any rfl 24 (.tmp 2) rfl w.heap.size 0 rfl (tmC ka ua na sa (.slice oa ma ca)) _ (rangeW_blk HY38.out.2.1) Try.underlying24 rfl (tmC_info _ _ _ _ _) ?_)
    | ((with_reducible refine wpList_load_want ?_ 24 (.tmp 2) rfl w.heap.size 0 rfl (tmC ka ua na sa (.slice oa ma ca)) _ (rangeW_blk HY38.out.2.1) Try.underlying24 rfl (tmC_info _ _ _ _ _) ?_); focus rfl)
    | (with_reducible refine wpList_load_any rfl 24 (.tmp 3) rfl a1.heap.size 0 rfl (tmC kb ub nb sb (.slice ob mb cb)) _ (rangeW_blk HY38.out.2.2) Try.underlying24 rfl (tmC_info _ _ _ _ _) ?_)
    | ((with_reducible refine wpList_load_want ?_ 24 (.tmp 3) rfl a1.heap.size 0 rfl (tmC kb ub nb sb (.slice ob mb cb)) _ (rangeW_blk HY38.out.2.2) Try.underlying24 rfl (tmC_info _ _ _ _ _) ?_); focus rfl))
      have hx := rright_any a _ _ y37 (Ta.out.below HY38.out.1)
      rw [Za.out] at hx
      refine Calls.mono hx ?_
      clear hx
      rintro e' y39 ⟨rfl, hb⟩
      have HY40 := Lib.hid (show Below w.heap.size w y39 ∧ Blk y39 w.heap.size 24 (tmC ka ua na sa (.slice oa ma ca)) ∧ Blk y39 a1.heap.size 24 (tmC kb ub nb sb (.slice ob mb cb)) from ⟨below_thn HY38.out.1 hb (Nat.le_refl _), HY38.out.2.1.below hb HY38.out.2.1.lt, HY38.out.2.2.below hb HY38.out.2.2.lt⟩)
      clear hb
      cases za
      · skip
        obtain rfl : ls = false := ZL.out rfl
        go_wp2_with (first
    | (with_reducible refine wpList_load_any rfl 24 (.tmp 2) rfl w.heap.size 0 rfl (tmC ka ua na sa (.slice oa ma ca)) _ (rangeW_blk HY40.out.2.1) Try.underlying24 rfl (tmC_info _ _ _ _ _) ?_)
    | ((with_reducible refine wpList_load_want ?_ 24 (.tmp 2) rfl w.heap.size 0 rfl (tmC ka ua na sa (.slice oa ma ca)) _ (rangeW_blk HY40.out.2.1) Try.underlying24 rfl (tmC_info _ _ _ _ _) ?_); focus rfl)
    | (with_reducible refine wpList_load_any rfl 24 (.tmp 3) rfl a1.heap.size 0 rfl (tmC kb ub nb sb (.slice ob mb cb)) _ (rangeW_blk HY40.out.2.2) Try.underlying24 rfl (tmC_info _ _ _ _ _) ?_)
    | ((with_reducible refine wpList_load_want ?_ 24 (.tmp 3) rfl a1.heap.size 0 rfl (tmC kb ub nb sb (.slice ob mb cb)) _ (rangeW_blk HY40.out.2.2) Try.underlying24 rfl (tmC_info _ _ _ _ _) ?_); focus rfl))
        have hx := less_any5 a b _ _ _ _ y39 (Ta.out.below HY40.out.1) (Tb.out.below HY40.out.1)
        rw [Els.out] at hx
        refine Calls.mono hx ?_
        clear hx
        rintro e' y41 ⟨rfl, hb⟩
        have HY42 := Lib.hid (show Below w.heap.size w y41 ∧ Blk y41 w.heap.size 24 (tmC ka ua na sa (.slice oa ma ca)) ∧ Blk y41 a1.heap.size 24 (tmC kb ub nb sb (.slice ob mb cb)) from ⟨below_thn HY40.out.1 hb (Nat.le_refl _), HY40.out.2.1.below hb HY40.out.2.1.lt, HY40.out.2.2.below hb HY40.out.2.2.lt⟩)
        clear hb
        go_wp2_with fail
        go_ret
        exact ⟨rfl, HY42.out.1⟩
      go_wp2_with (first
    | (with_reducible refine wpList_load_any rfl 24 (.tmp 2) rfl w.heap.size 0 rfl (tmC ka ua na sa (.slice oa ma ca)) _ (rangeW_blk HY40.out.2.1) Try.underlying24 rfl (tmC_info _ _ _ _ _) ?_)
    | ((with_reducible refine wpList_load_want ?_ 24 (.tmp 2) rfl w.heap.size 0 rfl (tmC ka ua na sa (.slice oa ma ca)) _ (rangeW_blk HY40.out.2.1) Try.underlying24 rfl (tmC_info _ _ _ _ _) ?_); focus rfl)
    | (with_reducible refine wpList_load_any rfl 24 (.tmp 3) rfl a1.heap.size 0 rfl (tmC kb ub nb sb (.slice ob mb cb)) _ (rangeW_blk HY40.out.2.2) Try.underlying24 rfl (tmC_info _ _ _ _ _) ?_)
    | ((with_reducible refine wpList_load_want ?_ 24 (.tmp 3) rfl a1.heap.size 0 rfl (tmC kb ub nb sb (.slice ob mb cb)) _ (rangeW_blk HY40.out.2.2) Try.underlying24 rfl (tmC_info _ _ _ _ _) ?_); focus rfl))
      have hx := rright_any b _ _ y39 (Tb.out.below HY40.out.1)
      rw [Zb.out] at hx
      refine Calls.mono hx ?_
      clear hx
      rintro e' y43 ⟨rfl, hb⟩
      have HY44 := Lib.hid (show Below w.heap.size w y43 ∧ Blk y43 w.heap.size 24 (tmC ka ua na sa (.slice oa ma ca)) ∧ Blk y43 a1.heap.size 24 (tmC kb ub nb sb (.slice ob mb cb)) from ⟨below_thn HY40.out.1 hb (Nat.le_refl _), HY40.out.2.1.below hb HY40.out.2.1.lt, HY40.out.2.2.below hb HY40.out.2.2.lt⟩)
      clear hb
      cases zb
      · skip
        obtain rfl : ls = false := ZL.out rfl
        go_wp2_with (first
    | (with_reducible refine wpList_load_any rfl 24 (.tmp 2) rfl w.heap.size 0 rfl (tmC ka ua na sa (.slice oa ma ca)) _ (rangeW_blk HY44.out.2.1) Try.underlying24 rfl (tmC_info _ _ _ _ _) ?_)
    | ((with_reducible refine wpList_load_want ?_ 24 (.tmp 2) rfl w.heap.size 0 rfl (tmC ka ua na sa (.slice oa ma ca)) _ (rangeW_blk HY44.out.2.1) Try.underlying24 rfl (tmC_info _ _ _ _ _) ?_); focus rfl)
    | (with_reducible refine wpList_load_any rfl 24 (.tmp 3) rfl a1.heap.size 0 rfl (tmC kb ub nb sb (.slice ob mb cb)) _ (rangeW_blk HY44.out.2.2) Try.underlying24 rfl (tmC_info _ _ _ _ _) ?_)
    | ((with_reducible refine wpList_load_want ?_ 24 (.tmp 3) rfl a1.heap.size 0 rfl (tmC kb ub nb sb (.slice ob mb cb)) _ (rangeW_blk HY44.out.2.2) Try.underlying24 rfl (tmC_info _ _ _ _ _) ?_); focus rfl))
        have hx := less_any5 a b _ _ _ _ y43 (Ta.out.below HY44.out.1) (Tb.out.below HY44.out.1)
        rw [Els.out] at hx
        refine Calls.mono hx ?_
        clear hx
        rintro e' y45 ⟨rfl, hb⟩
        have HY46 := Lib.hid (show Below w.heap.size w y45 ∧ Blk y45 w.heap.size 24 (tmC ka ua na sa (.slice oa ma ca)) ∧ Blk y45 a1.heap.size 24 (tmC kb ub nb sb (.slice ob mb cb)) from ⟨below_thn HY44.out.1 hb (Nat.le_refl _), HY44.out.2.1.below hb HY44.out.2.1.lt, HY44.out.2.2.below hb HY44.out.2.2.lt⟩)
        clear hb
        go_wp2_with fail
        go_ret
        exact ⟨rfl, HY46.out.1⟩
      have NA := Lib.hid (show sizeT a ≠ 0 from of_decide_eq_true Za.out)
      have NB := Lib.hid (show sizeT b ≠ 0 from of_decide_eq_true Zb.out)
      have Ga := Lib.hid (sizeT_good NA.out)
      have Gb := Lib.hid (sizeT_good NB.out)
      have EL := Lib.hid (show decide (cmpL (bytesT a) (bytesT b) < 0) = ls from by rw [← lessT_eq NA.out NB.out]; exact Els.out)
      go_wp2_with fail
      refine wp_region_takes (fun w' => w'.rangeAt w.heap.size 0 (tmC ka ua na sa (.slice oa ma ca)) ∧ w'.rangeAt a1.heap.size 0 (tmC kb ub nb sb (.slice ob mb cb))) [0, 1, 3, 5] 6 (by kernel_rfl) rfl (by kernel_rfl) (by kernel_rfl) ⟨rangeW_blk HY44.out.2.1, rangeW_blk HY44.out.2.2⟩ ?_
      iterate 4 (refine' HeldL.run ?_ ?_ ?_ ?_; rotate_left 2; (simp only [List.getElem?_toArray, List.getElem?_cons_zero, List.getElem?_cons_succ]; rfl); rfl; (rintro w' ⟨k0, k1⟩; first | exact exec_load_mid rfl rfl k0 Try.underlying24 rfl (tmC_info _ _ _ _ _) | exact exec_load_mid rfl rfl k1 Try.underlying24 rfl (tmC_info _ _ _ _ _)); simp only [Act.put, List.setIfInBounds_toArray, List.set_cons_zero, List.set_cons_succ])
      have sm := (Sm.refl y43).drew
      have HV48 := Lib.hid (show Below w.heap.size w y43.drew ∧ Blk y43.drew w.heap.size 24 (tmC ka ua na sa (.slice oa ma ca)) ∧ Blk y43.drew a1.heap.size 24 (tmC kb ub nb sb (.slice ob mb cb)) from ⟨below_thn HY44.out.1 (sm.below _) (Nat.le_refl _), HY44.out.2.1.below (sm.below _) HY44.out.2.1.lt, HY44.out.2.2.below (sm.below _) HY44.out.2.2.lt⟩)
      clear sm
      generalize y43.drew = v47 at HV48 ⊢
      refine' wpAnyH_one 2 (by kernel_rfl) ?_ ?_; rotate_left; (simp only [List.getElem?_toArray, List.getElem?_cons_zero, List.getElem?_cons_succ]; rfl)
      try simp only [Act.put]
      go_wp2_with fail
      have hx := less_any5 a b _ _ _ _ v47 (Ta.out.below HV48.out.1) (Tb.out.below HV48.out.1)
      rw [Els.out] at hx
      refine Calls.mono hx ?_
      clear hx
      rintro e' y49 ⟨rfl, hb⟩
      have HY50 := Lib.hid (show Below w.heap.size w y49 ∧ Blk y49 w.heap.size 24 (tmC ka ua na sa (.slice oa ma ca)) ∧ Blk y49 a1.heap.size 24 (tmC kb ub nb sb (.slice ob mb cb)) from ⟨below_thn HV48.out.1 hb (Nat.le_refl _), HV48.out.2.1.below hb HV48.out.2.1.lt, HV48.out.2.2.below hb HV48.out.2.2.lt⟩)
      clear hb
      go_wp2_with fail
      refine QK.normal ⟨⟨rangeW_blk HY50.out.2.1, rangeW_blk HY50.out.2.2⟩, ?_⟩
      refine' wpAnyH_one 4 (by kernel_rfl) ?_ ?_; rotate_left; (simp only [List.getElem?_toArray, List.getElem?_cons_zero, List.getElem?_cons_succ]; rfl)
      try simp only [Act.put]
      go_wp2_with fail
      refine (rbytes_any a _ _ y49 Ga.out.1 (Ta.out.below HY50.out.1) (by have := Ga.out.2.2.2; omega)).mono ?_
      rintro e' y51 ⟨xo, xc, rfl, hrow, hb⟩
      generalize (bytesT a).length = xl at hrow ⊢
      have HY52 := Lib.hid (show Below w.heap.size w y51 ∧ Blk y51 w.heap.size 24 (tmC ka ua na sa (.slice oa ma ca)) ∧ Blk y51 a1.heap.size 24 (tmC kb ub nb sb (.slice ob mb cb)) ∧ Sl y51 (.slice xo xl xc) (ofK .u8 (bytesT a)) from ⟨below_thn HY50.out.1 hb (Nat.le_refl _), HY50.out.2.1.below hb HY50.out.2.1.lt, HY50.out.2.2.below hb HY50.out.2.2.lt, Sl.of_owns hrow⟩)
      clear hrow hb
      go_wp2_with fail
      refine QK.normal ⟨⟨rangeW_blk HY52.out.2.1, rangeW_blk HY52.out.2.2.1⟩, ?_⟩
      refine' wpAnyH_one 6 (by kernel_rfl) ?_ ?_; rotate_left; (simp only [List.getElem?_toArray, List.getElem?_cons_zero, List.getElem?_cons_succ]; rfl)
      try simp only [Act.put]
      go_wp2_with fail
      refine (rbytes_any b _ _ y51 Gb.out.1 (Tb.out.below HY52.out.1) (by have := Gb.out.2.2.2; omega)).mono ?_
      rintro e' y53 ⟨yo, yc, rfl, hrow, hb⟩
      generalize (bytesT b).length = yl at hrow ⊢
      have HY54 := Lib.hid (show Below w.heap.size w y53 ∧ Blk y53 w.heap.size 24 (tmC ka ua na sa (.slice oa ma ca)) ∧ Blk y53 a1.heap.size 24 (tmC kb ub nb sb (.slice ob mb cb)) ∧ Sl y53 (.slice xo xl xc) (ofK .u8 (bytesT a)) ∧ Sl y53 (.slice yo yl yc) (ofK .u8 (bytesT b)) from ⟨below_thn HY52.out.1 hb (Nat.le_refl _), HY52.out.2.1.below hb HY52.out.2.1.lt, HY52.out.2.2.1.below hb HY52.out.2.2.1.lt, HY52.out.2.2.2.below hb (Nat.le_refl _), Sl.of_owns hrow⟩)
      clear hrow hb
      go_wp2_with fail
      refine QK.normal ⟨⟨rangeW_blk HY54.out.2.1, rangeW_blk HY54.out.2.2.1⟩, ?_⟩
      refine' wpAnyH_one 7 (by kernel_rfl) ?_ ?_; rotate_left; (simp only [List.getElem?_toArray, List.getElem?_cons_zero, List.getElem?_cons_succ]; rfl)
      try simp only [Act.put]
      go_wp2_with fail
      have hx := rless_any _ _ (bytesT a) (bytesT b) y53 HY54.out.2.2.2.1 HY54.out.2.2.2.2
      rw [EL.out] at hx
      refine Calls.mono hx ?_
      clear hx
      rintro e' y55 ⟨rfl, hb⟩
      have HY56 := Lib.hid (show Below w.heap.size w y55 ∧ Blk y55 w.heap.size 24 (tmC ka ua na sa (.slice oa ma ca)) ∧ Blk y55 a1.heap.size 24 (tmC kb ub nb sb (.slice ob mb cb)) from ⟨below_thn HY54.out.1 hb (Nat.le_refl _), HY54.out.2.1.below hb HY54.out.2.1.lt, HY54.out.2.2.1.below hb HY54.out.2.2.1.lt⟩)
      clear hb
      go_wp2_with fail
      refine QK.normal ⟨⟨rangeW_blk HY56.out.2.1, rangeW_blk HY56.out.2.2⟩, ?_⟩
      refine' wpAnyH_one 8 (by kernel_rfl) ?_ ?_; rotate_left; (simp only [List.getElem?_toArray, List.getElem?_cons_zero, List.getElem?_cons_succ]; rfl)
      try simp only [Act.put]
      go_wp2_with fail
      refine QK.normal ⟨⟨rangeW_blk HY56.out.2.1, rangeW_blk HY56.out.2.2⟩, ?_⟩
      refine' wpAnyH_one 9 (by kernel_rfl) ?_ ?_; rotate_left; (simp only [List.getElem?_toArray, List.getElem?_cons_zero, List.getElem?_cons_succ]; rfl)
      try simp only [Act.put]
      go_wp2_with fail
      refine QK.normal ⟨⟨rangeW_blk HY56.out.2.1, rangeW_blk HY56.out.2.2⟩, ?_⟩
      refine wpAnyH_done (by kernel_rfl) ?_ _
      refine NoPanic.normal ?_
      go_wp2_with fail
      go_ret
      exact ⟨rfl, HY56.out.1⟩
    · skip
      try simp only [Act.put]
      go_wp2_with fail
      refine (rcopy_any a _ _ y11 (overB_few Eova.out) (Ta.out.below HY12.out.1)).mono ?_
      rintro e' y57 ⟨cq, rfl, htm, hb⟩
      have HY58 := Lib.hid (show Below w.heap.size w y57 ∧ Blk y57 w.heap.size 24 (tmC ka ua na sa (.slice oa ma ca)) ∧ Blk y57 a1.heap.size 24 (tmC kb ub nb sb (.slice ob mb cb)) ∧ ∃ Fq, TmC Fq y57 cq a from ⟨below_thn HY12.out.1 hb (Nat.le_refl _), HY12.out.2.1.below hb HY12.out.2.1.lt, HY12.out.2.2.below hb HY12.out.2.2.lt, ⟨_, htm⟩⟩)
      clear htm hb
      go_wp2_with fail
      refine QK.normal ⟨⟨rangeW_blk HY58.out.2.1, rangeW_blk HY58.out.2.2.1⟩, ?_⟩
      refine' wpAnyH_one 8 (by kernel_rfl) ?_ ?_; rotate_left; (simp only [List.getElem?_toArray, List.getElem?_cons_zero, List.getElem?_cons_succ]; rfl)
      try simp only [Act.put]
      go_wp2_with (first
    | (with_reducible refine wpList_load_any rfl 24 (.tmp 2) rfl w.heap.size 0 rfl (tmC ka ua na sa (.slice oa ma ca)) _ (rangeW_blk HY58.out.2.1) Try.underlying24 rfl (tmC_info _ _ _ _ _) ?_)
    | ((with_reducible refine wpList_load_want ?_ 24 (.tmp 2) rfl w.heap.size 0 rfl (tmC ka ua na sa (.slice oa ma ca)) _ (rangeW_blk HY58.out.2.1) Try.underlying24 rfl (tmC_info _ _ _ _ _) ?_); focus rfl)
    | (with_reducible refine wpList_load_any rfl 24 (.tmp 3) rfl a1.heap.size 0 rfl (tmC kb ub nb sb (.slice ob mb cb)) _ (rangeW_blk HY58.out.2.2.1) Try.underlying24 rfl (tmC_info _ _ _ _ _) ?_)
    | ((with_reducible refine wpList_load_want ?_ 24 (.tmp 3) rfl a1.heap.size 0 rfl (tmC kb ub nb sb (.slice ob mb cb)) _ (rangeW_blk HY58.out.2.2.1) Try.underlying24 rfl (tmC_info _ _ _ _ _) ?_); focus rfl))
      refine QK.normal ⟨⟨rangeW_blk HY58.out.2.1, rangeW_blk HY58.out.2.2.1⟩, ?_⟩
      refine' wpAnyH_one 11 (by kernel_rfl) ?_ ?_; rotate_left; (simp only [List.getElem?_toArray, List.getElem?_cons_zero, List.getElem?_cons_succ]; rfl)
      try simp only [Act.put]
      go_wp2_with fail
      obtain ⟨Fq, hq⟩ := HY58.out.2.2.2
      have hx := same_any5 a a _ _ _ _ y57 (Ta.out.below HY58.out.1) hq
      rw [SS.out] at hx
      clear hq
      refine Calls.mono hx ?_
      clear hx
      rintro e' y59 ⟨rfl, hb⟩
      have HY60 := Lib.hid (show Below w.heap.size w y59 ∧ Blk y59 w.heap.size 24 (tmC ka ua na sa (.slice oa ma ca)) ∧ Blk y59 a1.heap.size 24 (tmC kb ub nb sb (.slice ob mb cb)) from ⟨below_thn HY58.out.1 hb (Nat.le_refl _), HY58.out.2.1.below hb HY58.out.2.1.lt, HY58.out.2.2.1.below hb HY58.out.2.2.1.lt⟩)
      clear hb
      go_wp2_with fail
      refine QK.normal ⟨⟨rangeW_blk HY60.out.2.1, rangeW_blk HY60.out.2.2⟩, ?_⟩
      refine' wpAnyH_one 12 (by kernel_rfl) ?_ ?_; rotate_left; (simp only [List.getElem?_toArray, List.getElem?_cons_zero, List.getElem?_cons_succ]; rfl)
      try simp only [Act.put]
      go_wp2_with fail
      refine QK.normal ⟨⟨rangeW_blk HY60.out.2.1, rangeW_blk HY60.out.2.2⟩, ?_⟩
      refine' wpAnyH_one 13 (by kernel_rfl) ?_ ?_; rotate_left; (simp only [List.getElem?_toArray, List.getElem?_cons_zero, List.getElem?_cons_succ]; rfl)
      try simp only [Act.put]
      go_wp2_with fail
      refine QK.normal ⟨⟨rangeW_blk HY60.out.2.1, rangeW_blk HY60.out.2.2⟩, ?_⟩
      refine wpAnyH_done (by kernel_rfl) ?_ _
      refine NoPanic.normal ?_
      go_wp2_with (first
    | (with_reducible refine wpList_load_any rfl 24 (.tmp 2) rfl w.heap.size 0 rfl (tmC ka ua na sa (.slice oa ma ca)) _ (rangeW_blk HY60.out.2.1) Try.underlying24 rfl (tmC_info _ _ _ _ _) ?_)
    | ((with_reducible refine wpList_load_want ?_ 24 (.tmp 2) rfl w.heap.size 0 rfl (tmC ka ua na sa (.slice oa ma ca)) _ (rangeW_blk HY60.out.2.1) Try.underlying24 rfl (tmC_info _ _ _ _ _) ?_); focus rfl)
    | (with_reducible refine wpList_load_any rfl 24 (.tmp 3) rfl a1.heap.size 0 rfl (tmC kb ub nb sb (.slice ob mb cb)) _ (rangeW_blk HY60.out.2.2) Try.underlying24 rfl (tmC_info _ _ _ _ _) ?_)
    | ((with_reducible refine wpList_load_want ?_ 24 (.tmp 3) rfl a1.heap.size 0 rfl (tmC kb ub nb sb (.slice ob mb cb)) _ (rangeW_blk HY60.out.2.2) Try.underlying24 rfl (tmC_info _ _ _ _ _) ?_); focus rfl))
      have hx := rright_any a _ _ y59 (Ta.out.below HY60.out.1)
      rw [Za.out] at hx
      refine Calls.mono hx ?_
      clear hx
      rintro e' y61 ⟨rfl, hb⟩
      have HY62 := Lib.hid (show Below w.heap.size w y61 ∧ Blk y61 w.heap.size 24 (tmC ka ua na sa (.slice oa ma ca)) ∧ Blk y61 a1.heap.size 24 (tmC kb ub nb sb (.slice ob mb cb)) from ⟨below_thn HY60.out.1 hb (Nat.le_refl _), HY60.out.2.1.below hb HY60.out.2.1.lt, HY60.out.2.2.below hb HY60.out.2.2.lt⟩)
      clear hb
      cases za
      · skip
        obtain rfl : ls = false := ZL.out rfl
        go_wp2_with (first
    | (with_reducible refine wpList_load_any rfl 24 (.tmp 2) rfl w.heap.size 0 rfl (tmC ka ua na sa (.slice oa ma ca)) _ (rangeW_blk HY62.out.2.1) Try.underlying24 rfl (tmC_info _ _ _ _ _) ?_)
    | ((with_reducible refine wpList_load_want ?_ 24 (.tmp 2) rfl w.heap.size 0 rfl (tmC ka ua na sa (.slice oa ma ca)) _ (rangeW_blk HY62.out.2.1) Try.underlying24 rfl (tmC_info _ _ _ _ _) ?_); focus rfl)
    | (with_reducible refine wpList_load_any rfl 24 (.tmp 3) rfl a1.heap.size 0 rfl (tmC kb ub nb sb (.slice ob mb cb)) _ (rangeW_blk HY62.out.2.2) Try.underlying24 rfl (tmC_info _ _ _ _ _) ?_)
    | ((with_reducible refine wpList_load_want ?_ 24 (.tmp 3) rfl a1.heap.size 0 rfl (tmC kb ub nb sb (.slice ob mb cb)) _ (rangeW_blk HY62.out.2.2) Try.underlying24 rfl (tmC_info _ _ _ _ _) ?_); focus rfl))
        have hx := less_any5 a b _ _ _ _ y61 (Ta.out.below HY62.out.1) (Tb.out.below HY62.out.1)
        rw [Els.out] at hx
        refine Calls.mono hx ?_
        clear hx
        rintro e' y63 ⟨rfl, hb⟩
        have HY64 := Lib.hid (show Below w.heap.size w y63 ∧ Blk y63 w.heap.size 24 (tmC ka ua na sa (.slice oa ma ca)) ∧ Blk y63 a1.heap.size 24 (tmC kb ub nb sb (.slice ob mb cb)) from ⟨below_thn HY62.out.1 hb (Nat.le_refl _), HY62.out.2.1.below hb HY62.out.2.1.lt, HY62.out.2.2.below hb HY62.out.2.2.lt⟩)
        clear hb
        go_wp2_with fail
        go_ret
        exact ⟨rfl, HY64.out.1⟩
      go_wp2_with (first
    | (with_reducible refine wpList_load_any rfl 24 (.tmp 2) rfl w.heap.size 0 rfl (tmC ka ua na sa (.slice oa ma ca)) _ (rangeW_blk HY62.out.2.1) Try.underlying24 rfl (tmC_info _ _ _ _ _) ?_)
    | ((with_reducible refine wpList_load_want ?_ 24 (.tmp 2) rfl w.heap.size 0 rfl (tmC ka ua na sa (.slice oa ma ca)) _ (rangeW_blk HY62.out.2.1) Try.underlying24 rfl (tmC_info _ _ _ _ _) ?_); focus rfl)
    | (with_reducible refine wpList_load_any rfl 24 (.tmp 3) rfl a1.heap.size 0 rfl (tmC kb ub nb sb (.slice ob mb cb)) _ (rangeW_blk HY62.out.2.2) Try.underlying24 rfl (tmC_info _ _ _ _ _) ?_)
    | ((with_reducible refine wpList_load_want ?_ 24 (.tmp 3) rfl a1.heap.size 0 rfl (tmC kb ub nb sb (.slice ob mb cb)) _ (rangeW_blk HY62.out.2.2) Try.underlying24 rfl (tmC_info _ _ _ _ _) ?_); focus rfl))
      have hx := rright_any b _ _ y61 (Tb.out.below HY62.out.1)
      rw [Zb.out] at hx
      refine Calls.mono hx ?_
      clear hx
      rintro e' y65 ⟨rfl, hb⟩
      have HY66 := Lib.hid (show Below w.heap.size w y65 ∧ Blk y65 w.heap.size 24 (tmC ka ua na sa (.slice oa ma ca)) ∧ Blk y65 a1.heap.size 24 (tmC kb ub nb sb (.slice ob mb cb)) from ⟨below_thn HY62.out.1 hb (Nat.le_refl _), HY62.out.2.1.below hb HY62.out.2.1.lt, HY62.out.2.2.below hb HY62.out.2.2.lt⟩)
      clear hb
      cases zb
      · skip
        obtain rfl : ls = false := ZL.out rfl
        go_wp2_with (first
    | (with_reducible refine wpList_load_any rfl 24 (.tmp 2) rfl w.heap.size 0 rfl (tmC ka ua na sa (.slice oa ma ca)) _ (rangeW_blk HY66.out.2.1) Try.underlying24 rfl (tmC_info _ _ _ _ _) ?_)
    | ((with_reducible refine wpList_load_want ?_ 24 (.tmp 2) rfl w.heap.size 0 rfl (tmC ka ua na sa (.slice oa ma ca)) _ (rangeW_blk HY66.out.2.1) Try.underlying24 rfl (tmC_info _ _ _ _ _) ?_); focus rfl)
    | (with_reducible refine wpList_load_any rfl 24 (.tmp 3) rfl a1.heap.size 0 rfl (tmC kb ub nb sb (.slice ob mb cb)) _ (rangeW_blk HY66.out.2.2) Try.underlying24 rfl (tmC_info _ _ _ _ _) ?_)
    | ((with_reducible refine wpList_load_want ?_ 24 (.tmp 3) rfl a1.heap.size 0 rfl (tmC kb ub nb sb (.slice ob mb cb)) _ (rangeW_blk HY66.out.2.2) Try.underlying24 rfl (tmC_info _ _ _ _ _) ?_); focus rfl))
        have hx := less_any5 a b _ _ _ _ y65 (Ta.out.below HY66.out.1) (Tb.out.below HY66.out.1)
        rw [Els.out] at hx
        refine Calls.mono hx ?_
        clear hx
        rintro e' y67 ⟨rfl, hb⟩
        have HY68 := Lib.hid (show Below w.heap.size w y67 ∧ Blk y67 w.heap.size 24 (tmC ka ua na sa (.slice oa ma ca)) ∧ Blk y67 a1.heap.size 24 (tmC kb ub nb sb (.slice ob mb cb)) from ⟨below_thn HY66.out.1 hb (Nat.le_refl _), HY66.out.2.1.below hb HY66.out.2.1.lt, HY66.out.2.2.below hb HY66.out.2.2.lt⟩)
        clear hb
        go_wp2_with fail
        go_ret
        exact ⟨rfl, HY68.out.1⟩
      have NA := Lib.hid (show sizeT a ≠ 0 from of_decide_eq_true Za.out)
      have NB := Lib.hid (show sizeT b ≠ 0 from of_decide_eq_true Zb.out)
      have Ga := Lib.hid (sizeT_good NA.out)
      have Gb := Lib.hid (sizeT_good NB.out)
      have EL := Lib.hid (show decide (cmpL (bytesT a) (bytesT b) < 0) = ls from by rw [← lessT_eq NA.out NB.out]; exact Els.out)
      go_wp2_with fail
      refine wp_region_takes (fun w' => w'.rangeAt w.heap.size 0 (tmC ka ua na sa (.slice oa ma ca)) ∧ w'.rangeAt a1.heap.size 0 (tmC kb ub nb sb (.slice ob mb cb))) [0, 1, 3, 5] 6 (by kernel_rfl) rfl (by kernel_rfl) (by kernel_rfl) ⟨rangeW_blk HY66.out.2.1, rangeW_blk HY66.out.2.2⟩ ?_
      iterate 4 (refine' HeldL.run ?_ ?_ ?_ ?_; rotate_left 2; (simp only [List.getElem?_toArray, List.getElem?_cons_zero, List.getElem?_cons_succ]; rfl); rfl; (rintro w' ⟨k0, k1⟩; first | exact exec_load_mid rfl rfl k0 Try.underlying24 rfl (tmC_info _ _ _ _ _) | exact exec_load_mid rfl rfl k1 Try.underlying24 rfl (tmC_info _ _ _ _ _)); simp only [Act.put, List.setIfInBounds_toArray, List.set_cons_zero, List.set_cons_succ])
      have sm := (Sm.refl y65).drew
      have HV70 := Lib.hid (show Below w.heap.size w y65.drew ∧ Blk y65.drew w.heap.size 24 (tmC ka ua na sa (.slice oa ma ca)) ∧ Blk y65.drew a1.heap.size 24 (tmC kb ub nb sb (.slice ob mb cb)) from ⟨below_thn HY66.out.1 (sm.below _) (Nat.le_refl _), HY66.out.2.1.below (sm.below _) HY66.out.2.1.lt, HY66.out.2.2.below (sm.below _) HY66.out.2.2.lt⟩)
      clear sm
      generalize y65.drew = v69 at HV70 ⊢
      refine' wpAnyH_one 2 (by kernel_rfl) ?_ ?_; rotate_left; (simp only [List.getElem?_toArray, List.getElem?_cons_zero, List.getElem?_cons_succ]; rfl)
      try simp only [Act.put]
      go_wp2_with fail
      have hx := less_any5 a b _ _ _ _ v69 (Ta.out.below HV70.out.1) (Tb.out.below HV70.out.1)
      rw [Els.out] at hx
      refine Calls.mono hx ?_
      clear hx
      rintro e' y71 ⟨rfl, hb⟩
      have HY72 := Lib.hid (show Below w.heap.size w y71 ∧ Blk y71 w.heap.size 24 (tmC ka ua na sa (.slice oa ma ca)) ∧ Blk y71 a1.heap.size 24 (tmC kb ub nb sb (.slice ob mb cb)) from ⟨below_thn HV70.out.1 hb (Nat.le_refl _), HV70.out.2.1.below hb HV70.out.2.1.lt, HV70.out.2.2.below hb HV70.out.2.2.lt⟩)
      clear hb
      go_wp2_with fail
      refine QK.normal ⟨⟨rangeW_blk HY72.out.2.1, rangeW_blk HY72.out.2.2⟩, ?_⟩
      refine' wpAnyH_one 4 (by kernel_rfl) ?_ ?_; rotate_left; (simp only [List.getElem?_toArray, List.getElem?_cons_zero, List.getElem?_cons_succ]; rfl)
      try simp only [Act.put]
      go_wp2_with fail
      refine (rbytes_any a _ _ y71 Ga.out.1 (Ta.out.below HY72.out.1) (by have := Ga.out.2.2.2; omega)).mono ?_
      rintro e' y73 ⟨xo, xc, rfl, hrow, hb⟩
      generalize (bytesT a).length = xl at hrow ⊢
      have HY74 := Lib.hid (show Below w.heap.size w y73 ∧ Blk y73 w.heap.size 24 (tmC ka ua na sa (.slice oa ma ca)) ∧ Blk y73 a1.heap.size 24 (tmC kb ub nb sb (.slice ob mb cb)) ∧ Sl y73 (.slice xo xl xc) (ofK .u8 (bytesT a)) from ⟨below_thn HY72.out.1 hb (Nat.le_refl _), HY72.out.2.1.below hb HY72.out.2.1.lt, HY72.out.2.2.below hb HY72.out.2.2.lt, Sl.of_owns hrow⟩)
      clear hrow hb
      go_wp2_with fail
      refine QK.normal ⟨⟨rangeW_blk HY74.out.2.1, rangeW_blk HY74.out.2.2.1⟩, ?_⟩
      refine' wpAnyH_one 6 (by kernel_rfl) ?_ ?_; rotate_left; (simp only [List.getElem?_toArray, List.getElem?_cons_zero, List.getElem?_cons_succ]; rfl)
      try simp only [Act.put]
      go_wp2_with fail
      refine (rbytes_any b _ _ y73 Gb.out.1 (Tb.out.below HY74.out.1) (by have := Gb.out.2.2.2; omega)).mono ?_
      rintro e' y75 ⟨yo, yc, rfl, hrow, hb⟩
      generalize (bytesT b).length = yl at hrow ⊢
      have HY76 := Lib.hid (show Below w.heap.size w y75 ∧ Blk y75 w.heap.size 24 (tmC ka ua na sa (.slice oa ma ca)) ∧ Blk y75 a1.heap.size 24 (tmC kb ub nb sb (.slice ob mb cb)) ∧ Sl y75 (.slice xo xl xc) (ofK .u8 (bytesT a)) ∧ Sl y75 (.slice yo yl yc) (ofK .u8 (bytesT b)) from ⟨below_thn HY74.out.1 hb (Nat.le_refl _), HY74.out.2.1.below hb HY74.out.2.1.lt, HY74.out.2.2.1.below hb HY74.out.2.2.1.lt, HY74.out.2.2.2.below hb (Nat.le_refl _), Sl.of_owns hrow⟩)
      clear hrow hb
      go_wp2_with fail
      refine QK.normal ⟨⟨rangeW_blk HY76.out.2.1, rangeW_blk HY76.out.2.2.1⟩, ?_⟩
      refine' wpAnyH_one 7 (by kernel_rfl) ?_ ?_; rotate_left; (simp only [List.getElem?_toArray, List.getElem?_cons_zero, List.getElem?_cons_succ]; rfl)
      try simp only [Act.put]
      go_wp2_with fail
      have hx := rless_any _ _ (bytesT a) (bytesT b) y75 HY76.out.2.2.2.1 HY76.out.2.2.2.2
      rw [EL.out] at hx
      refine Calls.mono hx ?_
      clear hx
      rintro e' y77 ⟨rfl, hb⟩
      have HY78 := Lib.hid (show Below w.heap.size w y77 ∧ Blk y77 w.heap.size 24 (tmC ka ua na sa (.slice oa ma ca)) ∧ Blk y77 a1.heap.size 24 (tmC kb ub nb sb (.slice ob mb cb)) from ⟨below_thn HY76.out.1 hb (Nat.le_refl _), HY76.out.2.1.below hb HY76.out.2.1.lt, HY76.out.2.2.1.below hb HY76.out.2.2.1.lt⟩)
      clear hb
      go_wp2_with fail
      refine QK.normal ⟨⟨rangeW_blk HY78.out.2.1, rangeW_blk HY78.out.2.2⟩, ?_⟩
      refine' wpAnyH_one 8 (by kernel_rfl) ?_ ?_; rotate_left; (simp only [List.getElem?_toArray, List.getElem?_cons_zero, List.getElem?_cons_succ]; rfl)
      try simp only [Act.put]
      go_wp2_with fail
      refine QK.normal ⟨⟨rangeW_blk HY78.out.2.1, rangeW_blk HY78.out.2.2⟩, ?_⟩
      refine' wpAnyH_one 9 (by kernel_rfl) ?_ ?_; rotate_left; (simp only [List.getElem?_toArray, List.getElem?_cons_zero, List.getElem?_cons_succ]; rfl)
      try simp only [Act.put]
      go_wp2_with fail
      refine QK.normal ⟨⟨rangeW_blk HY78.out.2.1, rangeW_blk HY78.out.2.2⟩, ?_⟩
      refine wpAnyH_done (by kernel_rfl) ?_ _
      refine NoPanic.normal ?_
      go_wp2_with fail
      go_ret
      exact ⟨rfl, HY78.out.1⟩


end Go.Proofs.Ytfenikoajadiaaa
