/-
  Law 06: WotsLong, walked. Conditions: bytes.
-/
import Derived.Test.YtkbhehnpgnilmaaLwZ
namespace Go.Proofs.Ytkbhehnpgnilmaa
open Go Go.RowKit
set_option linter.unusedSimpArgs false

set_option maxRecDepth 100000 in
set_option maxHeartbeats 8000000 in
theorem long_small (key m : List Int) (v : Value) (r : List (List Int)) (w : World) (hk : IsD key) (hm : IsD m) (hv : SlD w v r) (hn : NilC v) (hD : ∀ x ∈ r, IsD x) (hsz : r.length ≤ 80) :
    Calls Try.prog 14 #[.agg (ofK .u8 key).toArray, .agg (ofK .u8 m).toArray, v] w (TrueP w) := by
  obtain ⟨ao, cp, rfl, hcp, hcp2, hcell⟩ := id hv
  have HV := Lib.hid (And.intro hv (And.intro hn hD))
  obtain ⟨n, hnl⟩ : ∃ n, r.length = n := ⟨_, rfl⟩
  rw [hnl] at hcp HV ⊢
  have HN := Lib.hid hnl
  have hnone : ao = none → cp = 0 := fun e => by
    subst e
    by_cases h0 : n = 0
    · subst h0; exact hn cp (by rw [hnl])
    · obtain ⟨_, _, h, _⟩ := hcell (by omega)
      cases h
  have HNO := Lib.hid hnone
  clear hv hn hD hcell hnl hnone
  have HKD := Lib.hid hk
  have HKI := Lib.hid (infoD HKD.out)
  have HKL := Lib.hid (lenD HKD.out isD_zer)
  have HMD := Lib.hid hm
  have HMI := Lib.hid (infoD HMD.out)
  have HML := Lib.hid (lenD HMD.out isD_zer)
  clear hk hm
  have HZD := Lib.hid isD_zer
  have HZI := Lib.hid (infoD isD_zer)
  have hsm : ¬ (80 : Int) < (n : Int) := by rw [← HN.out]; omega
  have hjn : n ≤ n := by omega
  have hj80 : n ≤ 80 := by omega
  have hn63 : n ≤ 9223372036854775807 := by omega
  obtain ⟨l, hl⟩ : ∃ l, r.take n = l := ⟨_, rfl⟩
  have hlj : l.length = n := by rw [← hl, List.length_take, HN.out]; omega
  have hlD : ∀ x ∈ l, IsD x := fun x hx => HV.out.2.2 x (List.mem_of_mem_take (by rw [hl]; exact hx))
  have HL := Lib.hid (And.intro hl (And.intro hlj hlD))
  clear hl hlj hlD
  have hjc : n ≤ cp := by omega
  have HNIL := Lib.hid (show NilC (.slice ao n cp) from fun c h => by
    simp only [Value.slice.injEq] at h
    rw [← h.2.2]; exact HNO.out h.1)
  go_enter Try.func14, Try.ntmps14
  go_wp2_with (first
    | (with_reducible refine wpList_box_blk w rfl 23 (.tmp 0) rfl (ofK .u8 key) rfl ?_; intro w1 hb hbel hsz; have HB1 := Lib.hid (And.intro hb (And.intro hbel hsz)); clear hb hbel hsz)
    | (with_reducible refine wpList_box_blk w1 rfl 23 (.tmp 1) rfl (ofK .u8 m) rfl ?_; intro w2 hb hbel hsz; have HB2 := Lib.hid (show Blk w2 w.heap.size 23 (ofK .u8 key) ∧ Blk w2 w1.heap.size 23 (ofK .u8 m) ∧ Below w.heap.size w w2 from ⟨HB1.out.1.below hbel HB1.out.1.lt, hb, below_thn HB1.out.2.1 hbel (Nat.le_refl _)⟩); clear hb hbel hsz))
  refine (wakes6_any w2).mono ?_
  rintro e w3 ⟨rfl, hb3⟩
  have H3 := Lib.hid (show w3.rangeAt w.heap.size 0 (ofK .u8 key) ∧ w3.rangeAt w1.heap.size 0 (ofK .u8 m) ∧ SlD w3 (.slice ao n cp) l ∧ Below w.heap.size w w3 from
    ⟨rangeW_below (rangeW_blk HB2.out.1) hb3, rangeW_below (rangeW_blk HB2.out.2.1) hb3, by rw [← HL.out.1]; exact (HV.out.1.below (below_thn HB2.out.2.2 hb3 (Nat.le_refl _))).take n hjn, below_thn HB2.out.2.2 hb3 (Nat.le_refl _)⟩)
  clear hb3 HB1 HB2
  go_wp2_with (first
    | ((with_reducible refine wpList_slice_ids0 w3 rfl rfl ?_); intro w4 hown hbel hsz; have HE4 := Lib.hid (And.intro hown hbel); have H4 := Lib.hid (show w4.rangeAt w.heap.size 0 (ofK .u8 key) ∧ w4.rangeAt w1.heap.size 0 (ofK .u8 m) ∧ SlD w4 (.slice ao n cp) l ∧ Below w.heap.size w w4 from ⟨rangeW_below H3.out.1 HE4.out.2, rangeW_below H3.out.2.1 HE4.out.2, H3.out.2.2.1.below HE4.out.2, below_thn H3.out.2.2.2 HE4.out.2 (Nat.le_refl _)⟩); clear hown hbel hsz)
    | (at_builtin; refine wpList_append_ids w4 rfl (.tmp 12) (.tmp 17) rfl w3.heap.size (.slice (some ⟨w3.heap.size, 0, none⟩) 0 0) 0 [] rfl HE4.out.1 (.slice ao n cp) l rfl H4.out.2.2.1 HNIL.out HL.out.2.2 (by rw [HL.out.2.1]; omega) HE4.out.2.size ?_))
  intro bo bc w5 hown hgr
  rw [HL.out.2.1] at hown ⊢
  have hb5 : Below w3.heap.size w3 w5 := HE4.out.2.grown hgr HE4.out.2.size (fun k e => by cases e; exact Nat.le_refl _)
  have H5 := Lib.hid (show w5.rangeAt w.heap.size 0 (ofK .u8 key) ∧ w5.rangeAt w1.heap.size 0 (ofK .u8 m) ∧ SlD w5 (.slice bo n bc) l ∧ Below w.heap.size w w5 from ⟨rangeW_below H3.out.1 hb5, rangeW_below H3.out.2.1 hb5, SlD.of_owns hown HL.out.2.1.symm HL.out.2.2, below_thn H3.out.2.2.2 hb5 (Nat.le_refl _)⟩)
  clear hown hgr hb5 HE4 H4 H3 HV HNIL
  by_cases h67 : n = 67
  · subst h67
    obtain ⟨y, hy⟩ : ∃ y, recB m l = y := ⟨_, rfl⟩
    have hyD : IsD y := by rw [← hy]; exact isD_rec HL.out.2.2 HL.out.2.1
    have HYD := Lib.hid hyD
    have HYI := Lib.hid (infoD HYD.out)
    have HYL := Lib.hid (lenD HYD.out isD_zer)
    have HYE := Lib.hid hy
    clear hy
    go_wp2_with (with_reducible refine wpList_load_any rfl 23 (.tmp 4) rfl w1.heap.size 0 rfl (ofK .u8 m) _ H5.out.2.1 Try.underlying23 rfl HMI.out ?_)
    refine (recover_ok m _ l w5 HMD.out H5.out.2.2.1 HL.out.2.1 HL.out.2.2).mono ?_
    rw [HYE.out]
    rintro e w6 ⟨rfl, hb6⟩
    have H6 := Lib.hid (show w6.rangeAt w.heap.size 0 (ofK .u8 key) ∧ w6.rangeAt w1.heap.size 0 (ofK .u8 m) ∧ SlD w6 (.slice bo 67 bc) l ∧ Below w.heap.size w w6 from ⟨rangeW_below H5.out.1 hb6, rangeW_below H5.out.2.1 hb6, H5.out.2.2.1.below hb6, below_thn H5.out.2.2.2 hb6 (Nat.le_refl _)⟩)
    clear hb6
    go_wp2_with (first
    | ((with_reducible refine wpList_alloc_blk w6 rfl 23 rfl (ofK .u8 zer32) Try.zeroId ?_); intro w7 hb hbel hsz; have HAH8 := Lib.hid (And.intro hb hbel); clear hb hbel hsz)
    | ((with_reducible refine wpList_store_blk w7 rfl 23 (.tmp 7) (.tmp 23) rfl w6.heap.size 23 (ofK .u8 zer32) (ofK .u8 y) HAH8.out.1 rfl rfl HYL.out HYI.out (one_ofK _ _) ?_); intro w8 hb hc hs; have HBH8 := Lib.hid (show w8.rangeAt w6.heap.size 0 (ofK .u8 y) ∧ Below w6.heap.size w6 w8 from ⟨rangeW_blk hb, below_ch HAH8.out.2 hc (Nat.le_refl _) (fun j hj => by have : j = w6.heap.size := hj; omega)⟩); have H8 := Lib.hid (show w8.rangeAt w.heap.size 0 (ofK .u8 key) ∧ w8.rangeAt w1.heap.size 0 (ofK .u8 m) ∧ SlD w8 (.slice bo 67 bc) l ∧ w8.rangeAt w6.heap.size 0 (ofK .u8 y) ∧ Below w.heap.size w w8 from ⟨rangeW_below H6.out.1 HBH8.out.2, rangeW_below H6.out.2.1 HBH8.out.2, H6.out.2.2.1.below HBH8.out.2, HBH8.out.1, below_thn H6.out.2.2.2 HBH8.out.2 (Nat.le_refl _)⟩); clear hb hc hs)
    | (with_reducible refine wpList_load_any rfl 23 (.tmp 4) rfl w1.heap.size 0 rfl (ofK .u8 m) _ H8.out.2.1 Try.underlying23 rfl HMI.out ?_))
    refine (lrecovered_any m _ l w8 HMD.out H8.out.2.2.1 HL.out.2.1 HL.out.2.2).mono ?_
    rw [HYE.out]
    rintro e w9 ⟨rfl, hb9⟩
    have H9 := Lib.hid (show w9.rangeAt w.heap.size 0 (ofK .u8 key) ∧ w9.rangeAt w1.heap.size 0 (ofK .u8 m) ∧ SlD w9 (.slice bo 67 bc) l ∧ w9.rangeAt w6.heap.size 0 (ofK .u8 y) ∧ Below w.heap.size w w9 from ⟨rangeW_below H8.out.1 hb9, rangeW_below H8.out.2.1 hb9, H8.out.2.2.1.below hb9, rangeW_below H8.out.2.2.2.1 hb9, below_thn H8.out.2.2.2.2 hb9 (Nat.le_refl _)⟩)
    clear hb9
    go_wp2_with (first
    | ((with_reducible refine wpList_alloc_blk w9 rfl 23 rfl (ofK .u8 zer32) Try.zeroId ?_); intro w10 hb hbel hsz; have HAH11 := Lib.hid (And.intro hb hbel); clear hb hbel hsz)
    | ((with_reducible refine wpList_store_blk w10 rfl 23 (.tmp 9) (.tmp 44) rfl w9.heap.size 23 (ofK .u8 zer32) (ofK .u8 y) HAH11.out.1 rfl rfl HYL.out HYI.out (one_ofK _ _) ?_); intro w11 hb hc hs; have HBH11 := Lib.hid (show w11.rangeAt w9.heap.size 0 (ofK .u8 y) ∧ Below w9.heap.size w9 w11 from ⟨rangeW_blk hb, below_ch HAH11.out.2 hc (Nat.le_refl _) (fun j hj => by have : j = w9.heap.size := hj; omega)⟩); have H11 := Lib.hid (show w11.rangeAt w.heap.size 0 (ofK .u8 key) ∧ w11.rangeAt w1.heap.size 0 (ofK .u8 m) ∧ SlD w11 (.slice bo 67 bc) l ∧ w11.rangeAt w6.heap.size 0 (ofK .u8 y) ∧ w11.rangeAt w9.heap.size 0 (ofK .u8 y) ∧ Below w.heap.size w w11 from ⟨rangeW_below H9.out.1 HBH11.out.2, rangeW_below H9.out.2.1 HBH11.out.2, H9.out.2.2.1.below HBH11.out.2, rangeW_below H9.out.2.2.2.1 HBH11.out.2, HBH11.out.1, below_thn H9.out.2.2.2.2 HBH11.out.2 (Nat.le_refl _)⟩); clear hb hc hs))
    simp only [Act.put, List.setIfInBounds_toArray, List.set_cons_zero, List.set_cons_succ]
    have C1 := Lib.hid (fun q => verify_any key m (.slice bo 67 bc) l (grew w11 q) HKD.out HMD.out (H11.out.2.2.1.below (below_grew w11 q)) HL.out.2.2)
    rw [verL_67 HL.out.2.1, HYE.out] at C1
    obtain ⟨b, hb⟩ : ∃ b, decide (y = key) = b := ⟨_, rfl⟩
    have he := fun w => eq_ids w y y true hyD hyD (decide_eq_true rfl)
    have he2 := fun w => eq_ids w y key b hyD HKD.out hb
    rw [hb] at C1
    clear hb hyD H5 H6 H8 H9 HBH8 HBH11 HAH8 HAH11
    cases b
    · refine wp_region_grew (by kernel_rfl) (by kernel_rfl) ?_
      repeat (first | go_big_quiet_skip | (go_big_quiet_want; (first | (refine quiet_load_mid 23 (.tmp 7) rfl w6.heap.size 0 rfl (ofK .u8 y) _ (fun w' hw' => rangeAt_grew H11.out.2.2.2.1 w' hw') Try.underlying23 rfl HYI.out ?_; go_simp; go_big_quiet_on) | (refine quiet_load_mid 23 (.tmp 9) rfl w9.heap.size 0 rfl (ofK .u8 y) _ (fun w' hw' => rangeAt_grew H11.out.2.2.2.2.1 w' hw') Try.underlying23 rfl HYI.out ?_; go_simp; go_big_quiet_on) | (refine quiet_load_mid 23 (.tmp 3) rfl w.heap.size 0 rfl (ofK .u8 key) _ (fun w' hw' => rangeAt_grew H11.out.1 w' hw') Try.underlying23 rfl HKI.out ?_; go_simp; go_big_quiet_on) | (refine quiet_load_mid 23 (.tmp 4) rfl w1.heap.size 0 rfl (ofK .u8 m) _ (fun w' hw' => rangeAt_grew H11.out.2.1 w' hw') Try.underlying23 rfl HMI.out ?_; go_simp; go_big_quiet_on) | (go_big_quiet_op; (first | go_big_quiet_on | (apply Exists.intro; refine ⟨fun _ => ?_, ?_⟩; (focus (first | (go_at_call 64; exact calls_grew (C1.out _)))); go_big_quiet_on))))))
      refine wpQuiet_nil ?_
      intro w12 hw12
      obtain ⟨q, rfl⟩ := hw12
      go_wp2_with fail
      go_ret
      exact ⟨rfl, below_thn H11.out.2.2.2.2.2 (below_grew w11 q) (Nat.le_refl _)⟩
    · refine wp_region_grew (by kernel_rfl) (by kernel_rfl) ?_
      repeat (first | go_big_quiet_skip | (go_big_quiet_want; (first | (refine quiet_load_mid 23 (.tmp 7) rfl w6.heap.size 0 rfl (ofK .u8 y) _ (fun w' hw' => rangeAt_grew H11.out.2.2.2.1 w' hw') Try.underlying23 rfl HYI.out ?_; go_simp; go_big_quiet_on) | (refine quiet_load_mid 23 (.tmp 9) rfl w9.heap.size 0 rfl (ofK .u8 y) _ (fun w' hw' => rangeAt_grew H11.out.2.2.2.2.1 w' hw') Try.underlying23 rfl HYI.out ?_; go_simp; go_big_quiet_on) | (refine quiet_load_mid 23 (.tmp 3) rfl w.heap.size 0 rfl (ofK .u8 key) _ (fun w' hw' => rangeAt_grew H11.out.1 w' hw') Try.underlying23 rfl HKI.out ?_; go_simp; go_big_quiet_on) | (refine quiet_load_mid 23 (.tmp 4) rfl w1.heap.size 0 rfl (ofK .u8 m) _ (fun w' hw' => rangeAt_grew H11.out.2.1 w' hw') Try.underlying23 rfl HMI.out ?_; go_simp; go_big_quiet_on) | (go_big_quiet_op; (first | go_big_quiet_on | (apply Exists.intro; refine ⟨fun _ => ?_, ?_⟩; (focus (first | (go_at_call 64; exact calls_grew (C1.out _)))); go_big_quiet_on))))))
      refine wpQuiet_nil ?_
      intro w12 hw12
      obtain ⟨q, rfl⟩ := hw12
      go_wp2_with fail
      go_ret
      exact ⟨rfl, below_thn H11.out.2.2.2.2.2 (below_grew w11 q) (Nat.le_refl _)⟩
  · have hj67 : ((n : Int) == 67) = false := by first | (simp; omega) | simp
    have HV2 := Lib.hid (show verL key m l = false by unfold verL recE; rw [HL.out.2.1, if_neg h67]; rfl)
    have HJ := Lib.hid h67
    clear h67
    go_wp2_with (with_reducible refine wpList_load_any rfl 23 (.tmp 4) rfl w1.heap.size 0 rfl (ofK .u8 m) _ H5.out.2.1 Try.underlying23 rfl HMI.out ?_)
    refine (recover_bad m bo n bc w5 HJ.out).mono ?_
    rintro e w6 ⟨rfl, hb6⟩
    have H6 := Lib.hid (show w6.rangeAt w.heap.size 0 (ofK .u8 key) ∧ w6.rangeAt w1.heap.size 0 (ofK .u8 m) ∧ SlD w6 (.slice bo n bc) l ∧ Below w.heap.size w w6 from ⟨rangeW_below H5.out.1 hb6, rangeW_below H5.out.2.1 hb6, H5.out.2.2.1.below hb6, below_thn H5.out.2.2.2 hb6 (Nat.le_refl _)⟩)
    clear hb6
    have he := fun w => eq_ids w zer32 zer32 true isD_zer isD_zer (decide_eq_true rfl)
    go_wp2_with (first
    | ((with_reducible refine wpList_alloc_blk w6 rfl 23 rfl (ofK .u8 zer32) Try.zeroId ?_); intro w7 hb hbel hsz; have HAH8 := Lib.hid (And.intro hb hbel); clear hb hbel hsz)
    | ((with_reducible refine wpList_store_blk w7 rfl 23 (.tmp 7) (.tmp 23) rfl w6.heap.size 23 (ofK .u8 zer32) (ofK .u8 zer32) HAH8.out.1 rfl rfl rfl HZI.out (one_ofK _ _) ?_); intro w8 hb hc hs; have HBH8 := Lib.hid (show w8.rangeAt w6.heap.size 0 (ofK .u8 zer32) ∧ Below w6.heap.size w6 w8 from ⟨rangeW_blk hb, below_ch HAH8.out.2 hc (Nat.le_refl _) (fun j hj => by have : j = w6.heap.size := hj; omega)⟩); have H8 := Lib.hid (show w8.rangeAt w.heap.size 0 (ofK .u8 key) ∧ w8.rangeAt w1.heap.size 0 (ofK .u8 m) ∧ SlD w8 (.slice bo n bc) l ∧ w8.rangeAt w6.heap.size 0 (ofK .u8 zer32) ∧ Below w.heap.size w w8 from ⟨rangeW_below H6.out.1 HBH8.out.2, rangeW_below H6.out.2.1 HBH8.out.2, H6.out.2.2.1.below HBH8.out.2, HBH8.out.1, below_thn H6.out.2.2.2 HBH8.out.2 (Nat.le_refl _)⟩); clear hb hc hs)
    | (refine wpList_load_want rfl 23 (.tmp 7) rfl w6.heap.size 0 rfl (ofK .u8 zer32) _ H8.out.2.2.2.1 Try.underlying23 rfl HZI.out ?_)
    | (refine wpList_build_zer rfl rfl ?_)
    | (refine wpList_load_want rfl 23 (.tmp 3) rfl w.heap.size 0 rfl (ofK .u8 key) _ H8.out.1 Try.underlying23 rfl HKI.out ?_)
    | (refine wpList_load_want rfl 23 (.tmp 4) rfl w1.heap.size 0 rfl (ofK .u8 m) _ H8.out.2.1 Try.underlying23 rfl HMI.out ?_))
    refine (verify_any key m (.slice bo n bc) l w8 HKD.out HMD.out H8.out.2.2.1 HL.out.2.2).mono ?_
    rw [HV2.out]
    rintro e w9 ⟨rfl, hb9⟩
    have H9 := Lib.hid (show w9.rangeAt w.heap.size 0 (ofK .u8 key) ∧ w9.rangeAt w1.heap.size 0 (ofK .u8 m) ∧ SlD w9 (.slice bo n bc) l ∧ w9.rangeAt w6.heap.size 0 (ofK .u8 zer32) ∧ Below w.heap.size w w9 from ⟨rangeW_below H8.out.1 hb9, rangeW_below H8.out.2.1 hb9, H8.out.2.2.1.below hb9, rangeW_below H8.out.2.2.2.1 hb9, below_thn H8.out.2.2.2.2 hb9 (Nat.le_refl _)⟩)
    clear hb9
    go_wp2_with fail
    go_ret
    exact ⟨rfl, H9.out.2.2.2.2⟩

set_option maxRecDepth 100000 in
set_option maxHeartbeats 8000000 in
theorem long_big (key m : List Int) (v : Value) (r : List (List Int)) (w : World) (hk : IsD key) (hm : IsD m) (hv : SlD w v r) (hn : NilC v) (hD : ∀ x ∈ r, IsD x) (hsz : 80 < r.length) :
    Calls Try.prog 14 #[.agg (ofK .u8 key).toArray, .agg (ofK .u8 m).toArray, v] w (TrueP w) := by
  obtain ⟨ao, cp, rfl, hcp, hcp2, hcell⟩ := id hv
  have HV := Lib.hid (And.intro hv (And.intro hn hD))
  obtain ⟨n, hnl⟩ : ∃ n, r.length = n := ⟨_, rfl⟩
  rw [hnl] at hcp HV ⊢
  have HN := Lib.hid hnl
  have hnone : ao = none → cp = 0 := fun e => by
    subst e
    by_cases h0 : n = 0
    · subst h0; exact hn cp (by rw [hnl])
    · obtain ⟨_, _, h, _⟩ := hcell (by omega)
      cases h
  have HNO := Lib.hid hnone
  clear hv hn hD hcell hnl hnone
  have HKD := Lib.hid hk
  have HKI := Lib.hid (infoD HKD.out)
  have HKL := Lib.hid (lenD HKD.out isD_zer)
  have HMD := Lib.hid hm
  have HMI := Lib.hid (infoD HMD.out)
  have HML := Lib.hid (lenD HMD.out isD_zer)
  clear hk hm
  have HZD := Lib.hid isD_zer
  have HZI := Lib.hid (infoD isD_zer)
  have hbig : (80 : Int) < (n : Int) := by rw [← HN.out]; omega
  have hjn : 80 ≤ n := by omega
  have hj80 : 80 ≤ 80 := by omega
  have hn63 : n ≤ 9223372036854775807 := by omega
  obtain ⟨l, hl⟩ : ∃ l, r.take 80 = l := ⟨_, rfl⟩
  have hlj : l.length = 80 := by rw [← hl, List.length_take, HN.out]; omega
  have hlD : ∀ x ∈ l, IsD x := fun x hx => HV.out.2.2 x (List.mem_of_mem_take (by rw [hl]; exact hx))
  have HL := Lib.hid (And.intro hl (And.intro hlj hlD))
  clear hl hlj hlD
  have hjc : 80 ≤ cp := by omega
  have HNIL := Lib.hid (show NilC (.slice ao 80 cp) from fun c h => by
    simp only [Value.slice.injEq] at h
    rw [← h.2.2]; exact HNO.out h.1)
  go_enter Try.func14, Try.ntmps14
  go_wp2_with (first
    | (with_reducible refine wpList_box_blk w rfl 23 (.tmp 0) rfl (ofK .u8 key) rfl ?_; intro w1 hb hbel hsz; have HB1 := Lib.hid (And.intro hb (And.intro hbel hsz)); clear hb hbel hsz)
    | (with_reducible refine wpList_box_blk w1 rfl 23 (.tmp 1) rfl (ofK .u8 m) rfl ?_; intro w2 hb hbel hsz; have HB2 := Lib.hid (show Blk w2 w.heap.size 23 (ofK .u8 key) ∧ Blk w2 w1.heap.size 23 (ofK .u8 m) ∧ Below w.heap.size w w2 from ⟨HB1.out.1.below hbel HB1.out.1.lt, hb, below_thn HB1.out.2.1 hbel (Nat.le_refl _)⟩); clear hb hbel hsz))
  refine (wakes6_any w2).mono ?_
  rintro e w3 ⟨rfl, hb3⟩
  have H3 := Lib.hid (show w3.rangeAt w.heap.size 0 (ofK .u8 key) ∧ w3.rangeAt w1.heap.size 0 (ofK .u8 m) ∧ SlD w3 (.slice ao 80 cp) l ∧ Below w.heap.size w w3 from
    ⟨rangeW_below (rangeW_blk HB2.out.1) hb3, rangeW_below (rangeW_blk HB2.out.2.1) hb3, by rw [← HL.out.1]; exact (HV.out.1.below (below_thn HB2.out.2.2 hb3 (Nat.le_refl _))).take 80 hjn, below_thn HB2.out.2.2 hb3 (Nat.le_refl _)⟩)
  clear hb3 HB1 HB2
  go_wp2_with (first
    | ((with_reducible refine wpList_slice_ids0 w3 rfl rfl ?_); intro w4 hown hbel hsz; have HE4 := Lib.hid (And.intro hown hbel); have H4 := Lib.hid (show w4.rangeAt w.heap.size 0 (ofK .u8 key) ∧ w4.rangeAt w1.heap.size 0 (ofK .u8 m) ∧ SlD w4 (.slice ao 80 cp) l ∧ Below w.heap.size w w4 from ⟨rangeW_below H3.out.1 HE4.out.2, rangeW_below H3.out.2.1 HE4.out.2, H3.out.2.2.1.below HE4.out.2, below_thn H3.out.2.2.2 HE4.out.2 (Nat.le_refl _)⟩); clear hown hbel hsz)
    | (at_builtin; refine wpList_append_ids w4 rfl (.tmp 12) (.tmp 17) rfl w3.heap.size (.slice (some ⟨w3.heap.size, 0, none⟩) 0 0) 0 [] rfl HE4.out.1 (.slice ao 80 cp) l rfl H4.out.2.2.1 HNIL.out HL.out.2.2 (by rw [HL.out.2.1]; omega) HE4.out.2.size ?_))
  intro bo bc w5 hown hgr
  rw [HL.out.2.1] at hown ⊢
  have hb5 : Below w3.heap.size w3 w5 := HE4.out.2.grown hgr HE4.out.2.size (fun k e => by cases e; exact Nat.le_refl _)
  have H5 := Lib.hid (show w5.rangeAt w.heap.size 0 (ofK .u8 key) ∧ w5.rangeAt w1.heap.size 0 (ofK .u8 m) ∧ SlD w5 (.slice bo 80 bc) l ∧ Below w.heap.size w w5 from ⟨rangeW_below H3.out.1 hb5, rangeW_below H3.out.2.1 hb5, SlD.of_owns hown HL.out.2.1.symm HL.out.2.2, below_thn H3.out.2.2.2 hb5 (Nat.le_refl _)⟩)
  clear hown hgr hb5 HE4 H4 H3 HV HNIL
  have h67 : ¬ (80 : Nat) = 67 := by omega
  · have hj67 : ((80 : Int) == 67) = false := by first | (simp; omega) | simp
    have HV2 := Lib.hid (show verL key m l = false by unfold verL recE; rw [HL.out.2.1, if_neg h67]; rfl)
    have HJ := Lib.hid h67
    clear h67
    go_wp2_with (with_reducible refine wpList_load_any rfl 23 (.tmp 4) rfl w1.heap.size 0 rfl (ofK .u8 m) _ H5.out.2.1 Try.underlying23 rfl HMI.out ?_)
    refine (recover_bad m bo 80 bc w5 HJ.out).mono ?_
    rintro e w6 ⟨rfl, hb6⟩
    have H6 := Lib.hid (show w6.rangeAt w.heap.size 0 (ofK .u8 key) ∧ w6.rangeAt w1.heap.size 0 (ofK .u8 m) ∧ SlD w6 (.slice bo 80 bc) l ∧ Below w.heap.size w w6 from ⟨rangeW_below H5.out.1 hb6, rangeW_below H5.out.2.1 hb6, H5.out.2.2.1.below hb6, below_thn H5.out.2.2.2 hb6 (Nat.le_refl _)⟩)
    clear hb6
    have he := fun w => eq_ids w zer32 zer32 true isD_zer isD_zer (decide_eq_true rfl)
    go_wp2_with (first
    | ((with_reducible refine wpList_alloc_blk w6 rfl 23 rfl (ofK .u8 zer32) Try.zeroId ?_); intro w7 hb hbel hsz; have HAH8 := Lib.hid (And.intro hb hbel); clear hb hbel hsz)
    | ((with_reducible refine wpList_store_blk w7 rfl 23 (.tmp 7) (.tmp 23) rfl w6.heap.size 23 (ofK .u8 zer32) (ofK .u8 zer32) HAH8.out.1 rfl rfl rfl HZI.out (one_ofK _ _) ?_); intro w8 hb hc hs; have HBH8 := Lib.hid (show w8.rangeAt w6.heap.size 0 (ofK .u8 zer32) ∧ Below w6.heap.size w6 w8 from ⟨rangeW_blk hb, below_ch HAH8.out.2 hc (Nat.le_refl _) (fun j hj => by have : j = w6.heap.size := hj; omega)⟩); have H8 := Lib.hid (show w8.rangeAt w.heap.size 0 (ofK .u8 key) ∧ w8.rangeAt w1.heap.size 0 (ofK .u8 m) ∧ SlD w8 (.slice bo 80 bc) l ∧ w8.rangeAt w6.heap.size 0 (ofK .u8 zer32) ∧ Below w.heap.size w w8 from ⟨rangeW_below H6.out.1 HBH8.out.2, rangeW_below H6.out.2.1 HBH8.out.2, H6.out.2.2.1.below HBH8.out.2, HBH8.out.1, below_thn H6.out.2.2.2 HBH8.out.2 (Nat.le_refl _)⟩); clear hb hc hs)
    | (refine wpList_load_want rfl 23 (.tmp 7) rfl w6.heap.size 0 rfl (ofK .u8 zer32) _ H8.out.2.2.2.1 Try.underlying23 rfl HZI.out ?_)
    | (refine wpList_build_zer rfl rfl ?_)
    | (refine wpList_load_want rfl 23 (.tmp 3) rfl w.heap.size 0 rfl (ofK .u8 key) _ H8.out.1 Try.underlying23 rfl HKI.out ?_)
    | (refine wpList_load_want rfl 23 (.tmp 4) rfl w1.heap.size 0 rfl (ofK .u8 m) _ H8.out.2.1 Try.underlying23 rfl HMI.out ?_))
    refine (verify_any key m (.slice bo 80 bc) l w8 HKD.out HMD.out H8.out.2.2.1 HL.out.2.2).mono ?_
    rw [HV2.out]
    rintro e w9 ⟨rfl, hb9⟩
    have H9 := Lib.hid (show w9.rangeAt w.heap.size 0 (ofK .u8 key) ∧ w9.rangeAt w1.heap.size 0 (ofK .u8 m) ∧ SlD w9 (.slice bo 80 bc) l ∧ w9.rangeAt w6.heap.size 0 (ofK .u8 zer32) ∧ Below w.heap.size w w9 from ⟨rangeW_below H8.out.1 hb9, rangeW_below H8.out.2.1 hb9, H8.out.2.2.1.below hb9, rangeW_below H8.out.2.2.2.1 hb9, below_thn H8.out.2.2.2.2 hb9 (Nat.le_refl _)⟩)
    clear hb9
    go_wp2_with fail
    go_ret
    exact ⟨rfl, H9.out.2.2.2.2⟩

theorem wotsLong_walk (key m : List Int) (v : Value) (r : List (List Int)) (w : World) (l0 : key.length = 32) (b0 : AllB key) (l1 : m.length = 32) (b1 : AllB m) (hv : SlD w v r) (hr : NilC v ∧ ∀ x ∈ r, IsD x) :
    Calls Try.prog 14 #[.agg (ofK .u8 key).toArray, .agg (ofK .u8 m).toArray, v] w (TrueP w) :=
  if h : r.length ≤ 80 then long_small key m v r w ⟨l0, b0⟩ ⟨l1, b1⟩ hv hr.1 hr.2 h else long_big key m v r w ⟨l0, b0⟩ ⟨l1, b1⟩ hv hr.1 hr.2 (by omega)

end Go.Proofs.Ytkbhehnpgnilmaa
