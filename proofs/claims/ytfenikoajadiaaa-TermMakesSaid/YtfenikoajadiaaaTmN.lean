/-
  Layer 5: the reference's Same, Less, walked. Conditions: none.
-/
import Derived.Test.YtfenikoajadiaaaTmX
import Derived.Test.YtfenikoajadiaaaTmP
namespace Go.Proofs.Ytfenikoajadiaaa
open Go Go.RowKit
set_option linter.unusedSimpArgs false
set_option linter.unusedVariables false


theorem bne_of {α : Type} [BEq α] {a b : α} {c : Bool} (h : (a == b) = c) : (a != b) = !c := by unfold bne; rw [h]


set_option maxRecDepth 100000 in
set_option maxHeartbeats 8000000 in
theorem rsame_any5 : ∀ (a : Tm), ∀ (b : Tm) (ca cb : List Value) (Fa Fb : Nat → Prop) (w : World), TmC Fa w ca a → TmC Fb w cb b → Calls Try.prog 15 #[.agg ca.toArray, .agg cb.toArray] w (fun e w' => e = .returned (.bool (sameT a b)) ∧ Below w.heap.size w w') := by
  refine Tm.ind fun k u n s ks ih b ca cb Fa Fb w ha hb => ?_
  obtain ⟨k', u', n', s', ks'⟩ := b
  obtain ⟨ao, c, rfl, hca, hcm, hsa⟩ := ha.shape
  obtain ⟨bo, d, rfl, hdb, hdm, hsb⟩ := hb.shape
  simp only [Tm.k, Tm.u, Tm.n, Tm.s, Tm.ks] at hca hdb hsa hsb ⊢
  have HIH := Lib.hid ih
  have HS := Lib.hid (And.intro hsa hsb)
  rw [sameT]
  obtain ⟨l, hl⟩ : ∃ l, ks.length = l := ⟨_, rfl⟩
  obtain ⟨m, hm⟩ : ∃ l, ks'.length = l := ⟨_, rfl⟩
  have HM := Lib.hid hl
  have HN := Lib.hid hm
  rw [hl, hm] at HS
  rw [hl] at hca
  rw [hm] at hdb
  rw [hl, hm]
  have hl63 : l ≤ 9223372036854775807 := by unfold maxLen at hcm; omega
  have hm63 : m ≤ 9223372036854775807 := by unfold maxLen at hdm; omega
  clear ha hb ih hsa hsb hl hm hca hdb hcm hdm
  obtain ⟨bk, hk⟩ : ∃ b, (k == k') = b := ⟨_, rfl⟩
  obtain ⟨bu, hu⟩ : ∃ b, (u == u') = b := ⟨_, rfl⟩
  obtain ⟨bn, hn⟩ : ∃ b, (n == n') = b := ⟨_, rfl⟩
  obtain ⟨bs, hs⟩ : ∃ b, (s.toList == s'.toList) = b := ⟨_, rfl⟩
  obtain ⟨R, hR⟩ : ∃ R, (bk && (bu && (bn && (bs && sameL ks ks')))) = R := ⟨_, rfl⟩
  rw [hk, hu, hn, hs, hR]
  have HR := Lib.hid hR
  have nk := bne_of hk
  have nu := bne_of hu
  have nn := bne_of hn
  have ns := bne_of hs
  clear hR
  have H0 := Lib.hid (Below.refl w.heap.size w)
  cases bk
  · simp only [Bool.not_false] at nk
    go_enter Try.func15, Try.ntmps15
    go_wp2_with (first
    | ((with_reducible refine wpList_box_blk w rfl 24 (.tmp 0) rfl (tmC k u n s (.slice ao l c)) rfl ?_); intro a1 hb hbel hsz; have HA1 := Lib.hid (show Below w.heap.size w a1 ∧ Blk a1 w.heap.size 24 (tmC k u n s (.slice ao l c)) from ⟨below_thn H0.out hbel (Nat.le_refl _), hb⟩); clear hb hbel hsz)
    | ((with_reducible refine wpList_box_blk a1 rfl 24 (.tmp 1) rfl (tmC k' u' n' s' (.slice bo m d)) rfl ?_); intro a2 hb hbel hsz; have HA2 := Lib.hid (show Below w.heap.size w a2 ∧ Blk a2 w.heap.size 24 (tmC k u n s (.slice ao l c)) ∧ Blk a2 a1.heap.size 24 (tmC k' u' n' s' (.slice bo m d)) from ⟨below_thn HA1.out.1 hbel (Nat.le_refl _), HA1.out.2.below hbel HA1.out.2.lt, hb⟩); have c0 := HA2.out.2.1.cell 0; have d0 := HA2.out.2.2.cell 0; have c1 := HA2.out.2.1.cell 1; have d1 := HA2.out.2.2.cell 1; have c2 := HA2.out.2.1.cell 2; have d2 := HA2.out.2.2.cell 2; have c3 := HA2.out.2.1.cell 3; have d3 := HA2.out.2.2.cell 3; have c4 := HA2.out.2.1.cell 4; have d4 := HA2.out.2.2.cell 4; simp only [tmC, List.getElem?_cons_zero, List.getElem?_cons_succ] at c0 c1 c2 c3 c4 d0 d1 d2 d3 d4; clear hb hbel hsz))
    go_ret
    exact ⟨by rw [← HR.out]; rfl, HA2.out.1⟩
  simp only [Bool.not_true] at nk
  cases bu
  · simp only [Bool.not_false] at nu
    go_enter Try.func15, Try.ntmps15
    go_wp2_with (first
    | ((with_reducible refine wpList_box_blk w rfl 24 (.tmp 0) rfl (tmC k u n s (.slice ao l c)) rfl ?_); intro a1 hb hbel hsz; have HA1 := Lib.hid (show Below w.heap.size w a1 ∧ Blk a1 w.heap.size 24 (tmC k u n s (.slice ao l c)) from ⟨below_thn H0.out hbel (Nat.le_refl _), hb⟩); clear hb hbel hsz)
    | ((with_reducible refine wpList_box_blk a1 rfl 24 (.tmp 1) rfl (tmC k' u' n' s' (.slice bo m d)) rfl ?_); intro a2 hb hbel hsz; have HA2 := Lib.hid (show Below w.heap.size w a2 ∧ Blk a2 w.heap.size 24 (tmC k u n s (.slice ao l c)) ∧ Blk a2 a1.heap.size 24 (tmC k' u' n' s' (.slice bo m d)) from ⟨below_thn HA1.out.1 hbel (Nat.le_refl _), HA1.out.2.below hbel HA1.out.2.lt, hb⟩); have c0 := HA2.out.2.1.cell 0; have d0 := HA2.out.2.2.cell 0; have c1 := HA2.out.2.1.cell 1; have d1 := HA2.out.2.2.cell 1; have c2 := HA2.out.2.1.cell 2; have d2 := HA2.out.2.2.cell 2; have c3 := HA2.out.2.1.cell 3; have d3 := HA2.out.2.2.cell 3; have c4 := HA2.out.2.1.cell 4; have d4 := HA2.out.2.2.cell 4; simp only [tmC, List.getElem?_cons_zero, List.getElem?_cons_succ] at c0 c1 c2 c3 c4 d0 d1 d2 d3 d4; clear hb hbel hsz))
    go_ret
    exact ⟨by rw [← HR.out]; rfl, HA2.out.1⟩
  simp only [Bool.not_true] at nu
  cases bn
  · simp only [Bool.not_false] at nn
    go_enter Try.func15, Try.ntmps15
    go_wp2_with (first
    | ((with_reducible refine wpList_box_blk w rfl 24 (.tmp 0) rfl (tmC k u n s (.slice ao l c)) rfl ?_); intro a1 hb hbel hsz; have HA1 := Lib.hid (show Below w.heap.size w a1 ∧ Blk a1 w.heap.size 24 (tmC k u n s (.slice ao l c)) from ⟨below_thn H0.out hbel (Nat.le_refl _), hb⟩); clear hb hbel hsz)
    | ((with_reducible refine wpList_box_blk a1 rfl 24 (.tmp 1) rfl (tmC k' u' n' s' (.slice bo m d)) rfl ?_); intro a2 hb hbel hsz; have HA2 := Lib.hid (show Below w.heap.size w a2 ∧ Blk a2 w.heap.size 24 (tmC k u n s (.slice ao l c)) ∧ Blk a2 a1.heap.size 24 (tmC k' u' n' s' (.slice bo m d)) from ⟨below_thn HA1.out.1 hbel (Nat.le_refl _), HA1.out.2.below hbel HA1.out.2.lt, hb⟩); have c0 := HA2.out.2.1.cell 0; have d0 := HA2.out.2.2.cell 0; have c1 := HA2.out.2.1.cell 1; have d1 := HA2.out.2.2.cell 1; have c2 := HA2.out.2.1.cell 2; have d2 := HA2.out.2.2.cell 2; have c3 := HA2.out.2.1.cell 3; have d3 := HA2.out.2.2.cell 3; have c4 := HA2.out.2.1.cell 4; have d4 := HA2.out.2.2.cell 4; simp only [tmC, List.getElem?_cons_zero, List.getElem?_cons_succ] at c0 c1 c2 c3 c4 d0 d1 d2 d3 d4; clear hb hbel hsz))
    go_ret
    exact ⟨by rw [← HR.out]; rfl, HA2.out.1⟩
  simp only [Bool.not_true] at nn
  cases bs
  · simp only [Bool.not_false] at ns
    go_enter Try.func15, Try.ntmps15
    go_wp2_with (first
    | ((with_reducible refine wpList_box_blk w rfl 24 (.tmp 0) rfl (tmC k u n s (.slice ao l c)) rfl ?_); intro a1 hb hbel hsz; have HA1 := Lib.hid (show Below w.heap.size w a1 ∧ Blk a1 w.heap.size 24 (tmC k u n s (.slice ao l c)) from ⟨below_thn H0.out hbel (Nat.le_refl _), hb⟩); clear hb hbel hsz)
    | ((with_reducible refine wpList_box_blk a1 rfl 24 (.tmp 1) rfl (tmC k' u' n' s' (.slice bo m d)) rfl ?_); intro a2 hb hbel hsz; have HA2 := Lib.hid (show Below w.heap.size w a2 ∧ Blk a2 w.heap.size 24 (tmC k u n s (.slice ao l c)) ∧ Blk a2 a1.heap.size 24 (tmC k' u' n' s' (.slice bo m d)) from ⟨below_thn HA1.out.1 hbel (Nat.le_refl _), HA1.out.2.below hbel HA1.out.2.lt, hb⟩); have c0 := HA2.out.2.1.cell 0; have d0 := HA2.out.2.2.cell 0; have c1 := HA2.out.2.1.cell 1; have d1 := HA2.out.2.2.cell 1; have c2 := HA2.out.2.1.cell 2; have d2 := HA2.out.2.2.cell 2; have c3 := HA2.out.2.1.cell 3; have d3 := HA2.out.2.2.cell 3; have c4 := HA2.out.2.1.cell 4; have d4 := HA2.out.2.2.cell 4; simp only [tmC, List.getElem?_cons_zero, List.getElem?_cons_succ] at c0 c1 c2 c3 c4 d0 d1 d2 d3 d4; clear hb hbel hsz))
    go_ret
    exact ⟨by rw [← HR.out]; rfl, HA2.out.1⟩
  simp only [Bool.not_true] at ns
  by_cases hlm : l = m
  rotate_left
  · have e1 : ((l : Int) != (m : Int)) = true := by simp; omega
    have HE := Lib.hid (show R = false from by rw [← HR.out, sameL_len (by rw [HM.out, HN.out]; exact hlm)]; rfl)
    clear hlm
    go_enter Try.func15, Try.ntmps15
    go_wp2_with (first
    | ((with_reducible refine wpList_box_blk w rfl 24 (.tmp 0) rfl (tmC k u n s (.slice ao l c)) rfl ?_); intro a1 hb hbel hsz; have HA1 := Lib.hid (show Below w.heap.size w a1 ∧ Blk a1 w.heap.size 24 (tmC k u n s (.slice ao l c)) from ⟨below_thn H0.out hbel (Nat.le_refl _), hb⟩); clear hb hbel hsz)
    | ((with_reducible refine wpList_box_blk a1 rfl 24 (.tmp 1) rfl (tmC k' u' n' s' (.slice bo m d)) rfl ?_); intro a2 hb hbel hsz; have HA2 := Lib.hid (show Below w.heap.size w a2 ∧ Blk a2 w.heap.size 24 (tmC k u n s (.slice ao l c)) ∧ Blk a2 a1.heap.size 24 (tmC k' u' n' s' (.slice bo m d)) from ⟨below_thn HA1.out.1 hbel (Nat.le_refl _), HA1.out.2.below hbel HA1.out.2.lt, hb⟩); have c0 := HA2.out.2.1.cell 0; have d0 := HA2.out.2.2.cell 0; have c1 := HA2.out.2.1.cell 1; have d1 := HA2.out.2.2.cell 1; have c2 := HA2.out.2.1.cell 2; have d2 := HA2.out.2.2.cell 2; have c3 := HA2.out.2.1.cell 3; have d3 := HA2.out.2.2.cell 3; have c4 := HA2.out.2.1.cell 4; have d4 := HA2.out.2.2.cell 4; simp only [tmC, List.getElem?_cons_zero, List.getElem?_cons_succ] at c0 c1 c2 c3 c4 d0 d1 d2 d3 d4; clear hb hbel hsz))
    go_ret
    exact ⟨by rw [HE.out]; rfl, HA2.out.1⟩
  have e1 : ((l : Int) != (m : Int)) = false := by simp; omega
  have HMN := Lib.hid hlm
  have HL := Lib.hid (show sameL ks ks' = R from by rw [← HR.out]; rfl)
  clear hlm
  go_enter Try.func15, Try.ntmps15
  go_wp2_with (first
    | ((with_reducible refine wpList_box_blk w rfl 24 (.tmp 0) rfl (tmC k u n s (.slice ao l c)) rfl ?_); intro a1 hb hbel hsz; have HA1 := Lib.hid (show Below w.heap.size w a1 ∧ Blk a1 w.heap.size 24 (tmC k u n s (.slice ao l c)) from ⟨below_thn H0.out hbel (Nat.le_refl _), hb⟩); clear hb hbel hsz)
    | ((with_reducible refine wpList_box_blk a1 rfl 24 (.tmp 1) rfl (tmC k' u' n' s' (.slice bo m d)) rfl ?_); intro a2 hb hbel hsz; have HA2 := Lib.hid (show Below w.heap.size w a2 ∧ Blk a2 w.heap.size 24 (tmC k u n s (.slice ao l c)) ∧ Blk a2 a1.heap.size 24 (tmC k' u' n' s' (.slice bo m d)) from ⟨below_thn HA1.out.1 hbel (Nat.le_refl _), HA1.out.2.below hbel HA1.out.2.lt, hb⟩); have c0 := HA2.out.2.1.cell 0; have d0 := HA2.out.2.2.cell 0; have c1 := HA2.out.2.1.cell 1; have d1 := HA2.out.2.2.cell 1; have c2 := HA2.out.2.1.cell 2; have d2 := HA2.out.2.2.cell 2; have c3 := HA2.out.2.1.cell 3; have d3 := HA2.out.2.2.cell 3; have c4 := HA2.out.2.1.cell 4; have d4 := HA2.out.2.2.cell 4; simp only [tmC, List.getElem?_cons_zero, List.getElem?_cons_succ] at c0 c1 c2 c3 c4 d0 d1 d2 d3 d4; clear hb hbel hsz))
  clear c0 c1 c2 c3 c4 d0 d1 d2 d3 d4 nk nu nn ns hk hu hn hs e1
  go_loopw [5] (fun i wr => ∃ (j : Nat), i = .int .i64 j ∧ j ≤ l ∧ Hid (sameL (ks.drop j) (ks'.drop j) = R) ∧ Hid (Below w.heap.size w wr ∧ Blk wr w.heap.size 24 (tmC k u n s (.slice ao l c)) ∧ Blk wr a1.heap.size 24 (tmC k' u' n' s' (.slice bo m d)))) (fun i _ => l - (intOf i).toNat)
  case atStart => exact ⟨0, rfl, Nat.zero_le _, Lib.hid HL.out, HA2⟩
  case round =>
    clear HA2 HA1 HL
    obtain ⟨j, rfl, hj, HQ, HZ⟩ := hrel
    have c4 := HZ.out.2.1.cell 4
    have d4 := HZ.out.2.2.cell 4
    simp only [tmC, List.getElem?_cons_zero, List.getElem?_cons_succ] at c4 d4
    by_cases hlt : j < l
    · have hja : j < ks.length := by rw [HM.out]; exact hlt
      have hjb : j < ks'.length := by rw [HN.out, ← HMN.out]; exact hlt
      have hjz : (j : Int) < (l : Int) := by omega
      have hjn : (j : Int) < (m : Int) := by have := HMN.out; omega
      have hj0 : (0 : Int) ≤ (j : Int) := by omega
      obtain ⟨b1, o1, ca, rfl, -, -, hra, hta⟩ := (HS.out.1.below HZ.out.1).get hja
      obtain ⟨b2, o2, cb, rfl, -, -, hrb, htb⟩ := (HS.out.2.below HZ.out.1).get hjb
      have HMEM := Lib.hid (List.getElem_mem hja)
      have HQ2 := Lib.hid (show sameL (ks[j] :: ks.drop (j + 1)) (ks'[j] :: ks'.drop (j + 1)) = R from by rw [← List.drop_eq_getElem_cons hja, ← List.drop_eq_getElem_cons hjb]; exact HQ.out)
      generalize ks[j] = ta at hta HMEM HQ2
      generalize ks'[j] = tb at htb HQ2
      obtain ⟨aa, pa, rfl, -, -, -⟩ := hta.shape
      obtain ⟨ab, pb, rfl, -, -, -⟩ := htb.shape
      have HRA := Lib.hid (And.intro hra hrb)
      have HTM := Lib.hid (And.intro hta htb)
      obtain ⟨rb, hr⟩ : ∃ r, sameT ta tb = r := ⟨_, rfl⟩
      have HRB := Lib.hid hr
      have C1 := Lib.hid (fun x => show Calls Try.prog 15 #[.agg (tmC ta.k ta.u ta.n ta.s (.slice aa ta.ks.length pa)).toArray, .agg (tmC tb.k tb.u tb.n tb.s (.slice ab tb.ks.length pb)).toArray] (grew wr x) (fun e w' => e = .returned (.bool rb) ∧ Below (grew wr x).heap.size (grew wr x) w') from by have h := HIH.out ta HMEM.out tb _ _ Fa Fb (grew wr x) (HTM.out.1.below (below_grew wr x)) (HTM.out.2.below (below_grew wr x)); rw [HRB.out] at h; exact h)
      clear hra hrb hta htb hja hjb hr
      go_wp2_with fail
      replace c4 := fun q => cell_grew c4 q
      replace d4 := fun q => cell_grew d4 q
      refine wp_region_grew (by kernel_rfl) (by kernel_rfl) ?_
      repeat (first | go_big_quiet_skip | (go_big_quiet_want; (first | (refine quiet_load_mid 24 (.tmp 51) rfl b1 (o1 + j * 5) rfl (tmC ta.k ta.u ta.n ta.s (.slice aa ta.ks.length pa)) _ (fun w' hw' => rangeAt_grew HRA.out.1 w' hw') Try.underlying24 rfl (tmC_info _ _ _ _ _) ?_; go_simp; go_big_quiet_on) | (refine quiet_load_mid 24 (.tmp 56) rfl b2 (o2 + j * 5) rfl (tmC tb.k tb.u tb.n tb.s (.slice ab tb.ks.length pb)) _ (fun w' hw' => rangeAt_grew HRA.out.2 w' hw') Try.underlying24 rfl (tmC_info _ _ _ _ _) ?_; go_simp; go_big_quiet_on) | (go_big_quiet_op; (first | go_big_quiet_on | (apply Exists.intro; refine ⟨fun _ => ?_, ?_⟩; (focus (first | (go_at_call 15; with_reducible exact calls_grew (C1.out _)))); go_big_quiet_on))))))
      refine wpQuiet_nil ?_
      intro w9 hw9
      obtain ⟨x9, rfl⟩ := hw9
      clear c4 d4 C1
      have HW := Lib.hid (show Below w.heap.size w (grew wr x9) ∧ Blk (grew wr x9) w.heap.size 24 (tmC k u n s (.slice (some ⟨b1, o1, none⟩) l c)) ∧ Blk (grew wr x9) a1.heap.size 24 (tmC k' u' n' s' (.slice (some ⟨b2, o2, none⟩) m d)) from ⟨below_thn HZ.out.1 (below_grew wr x9) (Nat.le_refl _), HZ.out.2.1.below (below_grew wr x9) HZ.out.2.1.lt, HZ.out.2.2.below (below_grew wr x9) HZ.out.2.2.lt⟩)
      generalize grew wr x9 = wz at HW ⊢
      cases rb
      · have HE := Lib.hid (show R = false from by rw [← HQ2.out, sameL_cons, HRB.out, Bool.false_and])
        go_wp2_with fail
        go_ret
        exact ⟨by rw [HE.out]; rfl, HW.out.1⟩
      · have HQ3 := Lib.hid (show sameL (ks.drop (j + 1)) (ks'.drop (j + 1)) = R from by have h := HQ2.out; rw [sameL_cons, HRB.out, Bool.true_and] at h; exact h)
        go_wp2_with fail
        go_roundw
        case rel => exact ⟨j + 1, by go_num, by omega, HQ3, HW⟩
        case measure => simp [intOf]; omega
    · have hge : ¬ (j : Int) < (l : Int) := by omega
      have HE := Lib.hid (show R = true from by rw [← HQ.out, List.drop_of_length_le (by rw [HM.out]; omega), List.drop_of_length_le (by rw [HN.out, ← HMN.out]; omega), sameL])
      go_wp2_with fail
      go_ret
      exact ⟨by rw [HE.out]; rfl, HZ.out.1⟩


set_option maxRecDepth 100000 in
set_option maxHeartbeats 4000000 in
theorem rless_any (v1 v2 : Value) (xs ys : List Int) (w : World) (h1 : Sl w v1 (ofK .u8 xs)) (h2 : Sl w v2 (ofK .u8 ys)) :
    Calls Try.prog 19 #[v1, v2] w (fun e w' => e = .returned (.bool (decide (cmpL xs ys < 0))) ∧ Below w.heap.size w w') := by
  obtain ⟨R, hR⟩ : ∃ R, decide (cmpL xs ys < 0) = R := ⟨_, rfl⟩
  rw [hR]
  obtain ⟨ao, c, rfl, a2, a3, a4⟩ := h1.nums
  obtain ⟨bo, d, rfl, b2, b3, b4⟩ := h2.nums
  have HA := Lib.hid a4
  have HB := Lib.hid b4
  obtain ⟨l, hl⟩ : ∃ l, xs.length = l := ⟨_, rfl⟩
  obtain ⟨m, hm⟩ : ∃ l, ys.length = l := ⟨_, rfl⟩
  have HM := Lib.hid hl
  have HN := Lib.hid hm
  have HR := Lib.hid hR
  rw [hl] at a2 ⊢
  rw [hm] at b2 ⊢
  have hl63 : l ≤ 9223372036854775807 := by omega
  have hm63 : m ≤ 9223372036854775807 := by omega
  clear h1 h2 a2 a3 a4 b2 b3 b4 hl hm hR
  go_enter Try.func19, Try.ntmps19
  go_wp2_with fail
  go_loopw [5] (fun i wr => ∃ (j : Nat), i = .int .i64 j ∧ j ≤ l ∧ j ≤ m ∧ Hid (cmpL (xs.drop j) (ys.drop j) = cmpL xs ys) ∧ Hid (Below w.heap.size w wr)) (fun i _ => l - (intOf i).toNat)
  case atStart => exact ⟨0, rfl, Nat.zero_le _, Nat.zero_le _, Lib.hid rfl, Lib.hid (Below.refl _ _)⟩
  case round =>
    obtain ⟨j, rfl, hj, hj', HQ, HW⟩ := hrel
    by_cases hlt : j < l
    · have e1 : decide ((j : Int) < (l : Int)) = true := by simp; omega
      by_cases hlt2 : j < m
      · have e2 : decide ((j : Int) < (m : Int)) = true := by simp; omega
        have hja : j < xs.length := by rw [HM.out]; exact hlt
        have hjb : j < ys.length := by rw [HN.out]; exact hlt2
        have hjz : (j : Int) < (l : Int) := by omega
        have hjn : (j : Int) < (m : Int) := by omega
        have hj0 : (0 : Int) ≤ (j : Int) := by omega
        obtain ⟨b1, o1, rfl, hb1, hc1⟩ := HA.out (by omega)
        obtain ⟨b2, o2, rfl, hb2, hc2⟩ := HB.out (by omega)
        have k1 := (HW.out.cell (p := ⟨b1, o1 + j, none⟩) hb1).trans (hc1 j hja)
        have k2 := (HW.out.cell (p := ⟨b2, o2 + j, none⟩) hb2).trans (hc2 j hjb)
        have HQ2 := Lib.hid (show cmpL (xs[j] :: xs.drop (j + 1)) (ys[j] :: ys.drop (j + 1)) = cmpL xs ys from by rw [← List.drop_eq_getElem_cons hja, ← List.drop_eq_getElem_cons hjb]; exact HQ.out)
        generalize xs[j] = x at k1 HQ2
        generalize ys[j] = y at k2 HQ2
        clear hja hjb hc1 hc2 hb1 hb2
        by_cases hxy : x = y
        · have e3 : (x != y) = false := by simpa using hxy
          have HQ3 := Lib.hid (show cmpL (xs.drop (j + 1)) (ys.drop (j + 1)) = cmpL xs ys from by have h := HQ2.out; rw [cmpL, if_pos hxy] at h; exact h)
          clear hxy
          go_wp2_with fail
          replace k1 := fun q => cell_grew k1 q
          replace k2 := fun q => cell_grew k2 q
          refine wp_region_grew (by kernel_rfl) (by kernel_rfl) ?_
          repeat (first | go_big_quiet_skip | (go_big_quiet_want; go_big_quiet_op; go_big_quiet_on))
          refine wpQuiet_nil ?_
          intro w9 hw9
          obtain ⟨x9, rfl⟩ := hw9
          clear k1 k2
          have HW2 := Lib.hid (below_thn HW.out (below_grew wr x9) (Nat.le_refl _))
          generalize grew wr x9 = wz at HW2 ⊢
          go_wp2_with fail
          go_roundw
          case rel => exact ⟨j + 1, by go_num, by omega, by omega, HQ3, HW2⟩
          case measure => simp [intOf]; omega
        · have e3 : (x != y) = true := by simpa using hxy
          have HE := Lib.hid (show R = decide (x < y) from by rw [← HR.out, ← HQ2.out, cmpL, if_neg hxy]; by_cases h : x < y <;> simp [h])
          clear hxy
          have m1 := k1
          have m2 := k2
          go_wp2_with fail
          replace k1 := fun q => cell_grew k1 q
          replace k2 := fun q => cell_grew k2 q
          refine wp_region_grew (by kernel_rfl) (by kernel_rfl) ?_
          repeat (first | go_big_quiet_skip | (go_big_quiet_want; go_big_quiet_op; go_big_quiet_on))
          refine wpQuiet_nil ?_
          intro w9 hw9
          obtain ⟨x9, rfl⟩ := hw9
          clear k1 k2
          have HW2 := Lib.hid (below_thn HW.out (below_grew wr x9) (Nat.le_refl _))
          replace m1 := cell_grew m1 x9
          replace m2 := cell_grew m2 x9
          generalize grew wr x9 = wz at HW2 m1 m2 ⊢
          go_wp2_with fail
          replace m1 := fun q => cell_grew m1 q
          replace m2 := fun q => cell_grew m2 q
          refine wp_region_grew (by kernel_rfl) (by kernel_rfl) ?_
          repeat (first | go_big_quiet_skip | (go_big_quiet_want; go_big_quiet_op; go_big_quiet_on))
          refine wpQuiet_nil ?_
          intro w9 hw9
          obtain ⟨x8, rfl⟩ := hw9
          clear m1 m2
          go_wp2_with fail
          go_ret
          exact ⟨by rw [HE.out]; rfl, below_thn HW2.out (below_grew wz x8) (Nat.le_refl _)⟩
      · have e2 : decide ((j : Int) < (m : Int)) = false := by simp; omega
        have hml : ¬ (l : Int) < (m : Int) := by omega
        have HE := Lib.hid (show R = false from by
          have hd : ∃ x r, xs.drop j = x :: r := ⟨_, _, List.drop_eq_getElem_cons (by rw [HM.out]; exact hlt)⟩
          obtain ⟨x, r, hd⟩ := hd
          rw [← HR.out, ← HQ.out, List.drop_of_length_le (l := ys) (by rw [HN.out]; omega), hd, cmpL]; rfl)
        go_wp2_with fail
        go_ret
        exact ⟨by rw [HE.out]; simp <;> omega, HW.out⟩
    · have e1 : decide ((j : Int) < (l : Int)) = false := by simp; omega
      have HE := Lib.hid (show R = decide (l < m) from by
        rw [← HR.out, ← HQ.out, List.drop_of_length_le (l := xs) (by rw [HM.out]; omega)]
        by_cases h : j < m
        · have hd := List.drop_eq_getElem_cons (l := ys) (by rw [HN.out]; exact h)
          rw [hd, cmpL, decide_eq_true (show l < m by omega)]; rfl
        · rw [List.drop_of_length_le (l := ys) (by rw [HN.out]; omega), cmpL, decide_eq_false (show ¬ l < m by omega)]; rfl)
      go_wp2_with fail
      go_ret
      exact ⟨by rw [HE.out]; simp, HW.out⟩


end Go.Proofs.Ytfenikoajadiaaa
