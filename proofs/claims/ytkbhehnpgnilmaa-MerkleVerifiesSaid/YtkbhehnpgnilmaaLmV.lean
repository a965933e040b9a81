/-
  Law 08: MerkleVerifies, walked. Conditions: bytes.
-/
import Derived.Test.YtkbhehnpgnilmaaMkY
namespace Go.Proofs.Ytkbhehnpgnilmaa
open Go Go.RowKit
set_option linter.unusedSimpArgs false

set_option maxRecDepth 100000 in
set_option maxHeartbeats 4000000 in
theorem mverifies_ok (s m : List Int) (n : Nat) (w : World) (hs : IsD s) (hm : IsD m) (hn : n < 8) :
    Calls Try.prog 20 #[.agg (ofK .u8 s).toArray, .agg (ofK .u8 m).toArray, .int .i64 n] w (TrueP w) := by
  have hv1 := verM_sign (s := s) hm n hn
  have hDc := sigOf_D (isD_leafS hs (n : Int)) m
  have hDp := isD_pathM hs hn
  have hs0 := fun w => sign8_ok s m n w hs hm hn
  generalize sigOf (leafS s n) m = ch at hv1 hDc hs0
  generalize pathM s n = pt at hv1 hDp hs0
  obtain ⟨rt, hrt⟩ : ∃ rt, rootM s = rt := ⟨_, rfl⟩
  rw [hrt] at hv1
  have HV := Lib.hid (And.intro hv1 (And.intro hDc (And.intro hDp (And.intro hrt (show IsD rt by rw [← hrt]; exact isD_rootM hs)))))
  have HS0 := Lib.hid hs0
  have HSD := Lib.hid hs
  have HSI := Lib.hid (infoD HSD.out)
  have HSL := Lib.hid (lenD HSD.out isD_zer)
  have HMD := Lib.hid hm
  have HMI := Lib.hid (infoD HMD.out)
  have HML := Lib.hid (lenD HMD.out isD_zer)
  clear hv1 hDc hDp hs0 hrt hs hm hn
  go_enter Try.func20, Try.ntmps20
  go_wp2_with (first
    | (with_reducible refine wpList_box_blk w rfl 23 (.tmp 0) rfl (ofK .u8 s) rfl ?_; intro w1 hb hbel hsz; have HB1 := Lib.hid (And.intro hb hbel); clear hb hbel hsz)
    | (with_reducible refine wpList_box_blk w1 rfl 23 (.tmp 1) rfl (ofK .u8 m) rfl ?_; intro w2 hb hbel hsz; have HB2 := Lib.hid (show Blk w2 w.heap.size 23 (ofK .u8 s) ∧ Blk w2 w1.heap.size 23 (ofK .u8 m) ∧ Below w.heap.size w w2 from ⟨HB1.out.1.below hbel HB1.out.1.lt, hb, below_thn HB1.out.2 hbel (Nat.le_refl _)⟩); clear hb hbel hsz))
  refine (wakes8_any w2).mono ?_
  rintro e w3 ⟨rfl, hb3⟩
  have H3 := Lib.hid (show w3.rangeAt w.heap.size 0 (ofK .u8 s) ∧ w3.rangeAt w1.heap.size 0 (ofK .u8 m) ∧ Below w.heap.size w w3 from ⟨rangeW_below (rangeW_blk HB2.out.1) hb3, rangeW_below (rangeW_blk HB2.out.2.1) hb3, below_thn HB2.out.2.2 hb3 (Nat.le_refl _)⟩)
  clear hb3 HB1 HB2
  go_wp2_with (first
    | (with_reducible refine wpList_load_any rfl 23 (.tmp 3) rfl w.heap.size 0 rfl (ofK .u8 s) _ H3.out.1 Try.underlying23 rfl HSI.out ?_)
    | (with_reducible refine wpList_load_any rfl 23 (.tmp 4) rfl w1.heap.size 0 rfl (ofK .u8 m) _ H3.out.2.1 Try.underlying23 rfl HMI.out ?_))
  refine (HS0.out w3).mono ?_
  rintro e w4 ⟨so, sc, po, pc, rfl, hc1, hp1, hb4⟩
  obtain ⟨cl, hcl⟩ : ∃ k, ch.length = k := ⟨_, rfl⟩
  obtain ⟨pl, hpl⟩ : ∃ k, pt.length = k := ⟨_, rfl⟩
  have HCL := Lib.hid (And.intro hcl hpl)
  rw [hcl] at hc1 ⊢
  rw [hpl] at hp1 ⊢
  have H4 := Lib.hid (show w4.rangeAt w.heap.size 0 (ofK .u8 s) ∧ w4.rangeAt w1.heap.size 0 (ofK .u8 m) ∧ SlD w4 (.slice so cl sc) ch ∧ SlD w4 (.slice po pl pc) pt ∧ Below w.heap.size w w4 from ⟨rangeW_below H3.out.1 hb4, rangeW_below H3.out.2.1 hb4, hc1, hp1, below_thn H3.out.2.2 hb4 (Nat.le_refl _)⟩)
  clear hc1 hp1 hb4 hcl hpl HS0
  go_wp2_with (first
    | ((with_reducible refine wpList_alloc_blk w4 rfl 90 rfl (sgC 0 (.slice none 0 0) (.slice none 0 0)) Try.zeroSg ?_); intro w5 hb hbel hsz; have HAz := Lib.hid (And.intro hb hbel); clear hb hbel hsz)
    | ((with_reducible refine wpList_store_blk w5 rfl 90 (.tmp 7) (.tmp 16) rfl w4.heap.size 90 (sgC 0 (.slice none 0 0) (.slice none 0 0)) (sgC n (.slice so cl sc) (.slice po pl pc)) HAz.out.1 rfl rfl rfl (sgC_info _ _ _) (sgC_one _ _ _ _ _ _ _) ?_); intro w6 hb hc hs; have HBz := Lib.hid (show w6.rangeAt w4.heap.size 0 (sgC n (.slice so cl sc) (.slice po pl pc)) ∧ Below w4.heap.size w4 w6 from ⟨rangeW_blk hb, below_ch HAz.out.2 hc (Nat.le_refl _) (fun j hj => by have : j = w4.heap.size := hj; omega)⟩); have H6 := Lib.hid (show w6.rangeAt w.heap.size 0 (ofK .u8 s) ∧ w6.rangeAt w1.heap.size 0 (ofK .u8 m) ∧ SlD w6 (.slice so cl sc) ch ∧ SlD w6 (.slice po pl pc) pt ∧ w6.rangeAt w4.heap.size 0 (sgC n (.slice so cl sc) (.slice po pl pc)) ∧ w6.cell? ⟨w4.heap.size, 0, none⟩ = some (.int .i64 n) ∧ Below w.heap.size w w6 from ⟨rangeW_below H4.out.1 HBz.out.2, rangeW_below H4.out.2.1 HBz.out.2, H4.out.2.2.1.below HBz.out.2, H4.out.2.2.2.1.below HBz.out.2, HBz.out.1, (HBz.out.1 0 _ rfl), below_thn H4.out.2.2.2.2 HBz.out.2 (Nat.le_refl _)⟩); clear hb hc hs))
  try simp only [Act.put, List.setIfInBounds_toArray, List.set_cons_zero, List.set_cons_succ]
  have C2 := Lib.hid (fun q => root_any s (grew w6 q) HSD.out)
  rw [HV.out.2.2.2.1] at C2
  have C3 := Lib.hid (fun q => verify8_any rt m n so po sc pc ch pt (grew w6 q) HV.out.2.2.2.2 HMD.out (by rw [HCL.out.1]; exact H6.out.2.2.1.below (below_grew w6 q)) (by rw [HCL.out.2]; exact H6.out.2.2.2.1.below (below_grew w6 q)) HV.out.2.1 HV.out.2.2.1)
  rw [HV.out.1, HCL.out.1, HCL.out.2] at C3
  have g0 := fun q => cell_grew H6.out.2.2.2.2.2.1 q
  refine wp_region_grew (by kernel_rfl) (by kernel_rfl) ?_
  repeat (first | go_big_quiet_skip | (go_big_quiet_want; (first | (refine quiet_load_mid 23 (.tmp 3) rfl w.heap.size 0 rfl (ofK .u8 s) _ (fun w' hw' => rangeAt_grew H6.out.1 w' hw') Try.underlying23 rfl HSI.out ?_; go_simp; go_big_quiet_on) | (refine quiet_load_mid 23 (.tmp 4) rfl w1.heap.size 0 rfl (ofK .u8 m) _ (fun w' hw' => rangeAt_grew H6.out.2.1 w' hw') Try.underlying23 rfl HMI.out ?_; go_simp; go_big_quiet_on) | (refine quiet_load_mid 90 (.tmp 7) rfl w4.heap.size 0 rfl (sgC n (.slice so cl sc) (.slice po pl pc)) _ (fun w' hw' => rangeAt_grew H6.out.2.2.2.2.1 w' hw') Try.underlying90 rfl (sgC_info _ _ _) ?_; go_simp; go_big_quiet_on) | (go_big_quiet_op; (first | go_big_quiet_on | (apply Exists.intro; refine ⟨fun _ => ?_, ?_⟩; (focus (first | (go_at_call 79; with_reducible exact calls_grew (C2.out _)) | (go_at_call 75; with_reducible exact calls_grew (C3.out _)))); go_big_quiet_on))))))
  refine wpQuiet_nil ?_
  intro w9 hw9
  obtain ⟨q, rfl⟩ := hw9
  go_wp2_with fail
  go_ret
  exact ⟨rfl, below_thn H6.out.2.2.2.2.2.2 (below_grew w6 q) (Nat.le_refl _)⟩

set_option maxRecDepth 100000 in
set_option maxHeartbeats 4000000 in
theorem mverifies_bad (s m : List Int) (n : Int) (w : World) (hs : IsD s) (hm : IsD m) (hn : ¬ (0 ≤ n ∧ n < 8)) :
    Calls Try.prog 20 #[.agg (ofK .u8 s).toArray, .agg (ofK .u8 m).toArray, .int .i64 n] w (TrueP w) := by
  have HSD := Lib.hid hs
  have HSI := Lib.hid (infoD HSD.out)
  have HSL := Lib.hid (lenD HSD.out isD_zer)
  have HMD := Lib.hid hm
  have HMI := Lib.hid (infoD HMD.out)
  have HML := Lib.hid (lenD HMD.out isD_zer)
  have HN := Lib.hid hn
  clear hs hm
  go_enter Try.func20, Try.ntmps20
  go_wp2_with (first
    | (with_reducible refine wpList_box_blk w rfl 23 (.tmp 0) rfl (ofK .u8 s) rfl ?_; intro w1 hb hbel hsz; have HB1 := Lib.hid (And.intro hb hbel); clear hb hbel hsz)
    | (with_reducible refine wpList_box_blk w1 rfl 23 (.tmp 1) rfl (ofK .u8 m) rfl ?_; intro w2 hb hbel hsz; have HB2 := Lib.hid (show Blk w2 w.heap.size 23 (ofK .u8 s) ∧ Blk w2 w1.heap.size 23 (ofK .u8 m) ∧ Below w.heap.size w w2 from ⟨HB1.out.1.below hbel HB1.out.1.lt, hb, below_thn HB1.out.2 hbel (Nat.le_refl _)⟩); clear hb hbel hsz))
  refine (wakes8_any w2).mono ?_
  rintro e w3 ⟨rfl, hb3⟩
  have H3 := Lib.hid (show w3.rangeAt w.heap.size 0 (ofK .u8 s) ∧ w3.rangeAt w1.heap.size 0 (ofK .u8 m) ∧ Below w.heap.size w w3 from ⟨rangeW_below (rangeW_blk HB2.out.1) hb3, rangeW_below (rangeW_blk HB2.out.2.1) hb3, below_thn HB2.out.2.2 hb3 (Nat.le_refl _)⟩)
  clear hb3 HB1 HB2
  go_wp2_with (first
    | (with_reducible refine wpList_load_any rfl 23 (.tmp 3) rfl w.heap.size 0 rfl (ofK .u8 s) _ H3.out.1 Try.underlying23 rfl HSI.out ?_)
    | (with_reducible refine wpList_load_any rfl 23 (.tmp 4) rfl w1.heap.size 0 rfl (ofK .u8 m) _ H3.out.2.1 Try.underlying23 rfl HMI.out ?_))
  refine (sign8_bad s m n w3 HSD.out HN.out).mono ?_
  rintro e w4 ⟨rfl, hb4⟩
  have H4 := Lib.hid (show w4.rangeAt w.heap.size 0 (ofK .u8 s) ∧ w4.rangeAt w1.heap.size 0 (ofK .u8 m) ∧ Below w.heap.size w w4 from ⟨rangeW_below H3.out.1 hb4, rangeW_below H3.out.2.1 hb4, below_thn H3.out.2.2 hb4 (Nat.le_refl _)⟩)
  clear hb4
  by_cases h0 : n < 0
  · go_wp2_with (first
    | ((with_reducible refine wpList_alloc_blk w4 rfl 90 rfl (sgC 0 (.slice none 0 0) (.slice none 0 0)) Try.zeroSg ?_); intro w5 hb hbel hsz; have HAz := Lib.hid (And.intro hb hbel); clear hb hbel hsz)
    | ((with_reducible refine wpList_store_blk w5 rfl 90 (.tmp 7) (.tmp 16) rfl w4.heap.size 90 (sgC 0 (.slice none 0 0) (.slice none 0 0)) (sgC 0 (.slice none 0 0) (.slice none 0 0)) HAz.out.1 rfl rfl rfl (sgC_info _ _ _) (sgC_one _ _ _ _ _ _ _) ?_); intro w6 hb hc hs; have HBz := Lib.hid (show w6.rangeAt w4.heap.size 0 (sgC 0 (.slice none 0 0) (.slice none 0 0)) ∧ Below w4.heap.size w4 w6 from ⟨rangeW_blk hb, below_ch HAz.out.2 hc (Nat.le_refl _) (fun j hj => by have : j = w4.heap.size := hj; omega)⟩); have H6 := Lib.hid (show w6.rangeAt w.heap.size 0 (ofK .u8 s) ∧ w6.rangeAt w1.heap.size 0 (ofK .u8 m) ∧ Below w.heap.size w w6 from ⟨rangeW_below H4.out.1 HBz.out.2, rangeW_below H4.out.2.1 HBz.out.2, below_thn H4.out.2.2 HBz.out.2 (Nat.le_refl _)⟩); clear hb hc hs))
    go_ret
    exact ⟨rfl, H6.out.2.2⟩
  · have h8 : 8 ≤ n := by omega
    clear hn
    go_wp2_with (first
    | ((with_reducible refine wpList_alloc_blk w4 rfl 90 rfl (sgC 0 (.slice none 0 0) (.slice none 0 0)) Try.zeroSg ?_); intro w5 hb hbel hsz; have HAz := Lib.hid (And.intro hb hbel); clear hb hbel hsz)
    | ((with_reducible refine wpList_store_blk w5 rfl 90 (.tmp 7) (.tmp 16) rfl w4.heap.size 90 (sgC 0 (.slice none 0 0) (.slice none 0 0)) (sgC 0 (.slice none 0 0) (.slice none 0 0)) HAz.out.1 rfl rfl rfl (sgC_info _ _ _) (sgC_one _ _ _ _ _ _ _) ?_); intro w6 hb hc hs; have HBz := Lib.hid (show w6.rangeAt w4.heap.size 0 (sgC 0 (.slice none 0 0) (.slice none 0 0)) ∧ Below w4.heap.size w4 w6 from ⟨rangeW_blk hb, below_ch HAz.out.2 hc (Nat.le_refl _) (fun j hj => by have : j = w4.heap.size := hj; omega)⟩); have H6 := Lib.hid (show w6.rangeAt w.heap.size 0 (ofK .u8 s) ∧ w6.rangeAt w1.heap.size 0 (ofK .u8 m) ∧ Below w.heap.size w w6 from ⟨rangeW_below H4.out.1 HBz.out.2, rangeW_below H4.out.2.1 HBz.out.2, below_thn H4.out.2.2 HBz.out.2 (Nat.le_refl _)⟩); clear hb hc hs))
    go_ret
    exact ⟨rfl, H6.out.2.2⟩

theorem merkleVerifies_walk (s m : List Int) (n : Int) (w : World) (l0 : s.length = 32) (b0 : AllB s) (l1 : m.length = 32) (b1 : AllB m) (_ : -9223372036854775808 ≤ n ∧ n ≤ 9223372036854775807) :
    Calls Try.prog 20 #[.agg (ofK .u8 s).toArray, .agg (ofK .u8 m).toArray, .int .i64 n] w (TrueP w) := by
  by_cases h : 0 ≤ n ∧ n < 8
  · obtain ⟨k, rfl⟩ : ∃ k : Nat, n = k := ⟨n.toNat, by omega⟩
    exact mverifies_ok s m k w ⟨l0, b0⟩ ⟨l1, b1⟩ (by omega)
  · exact mverifies_bad s m n w ⟨l0, b0⟩ ⟨l1, b1⟩ h

end Go.Proofs.Ytkbhehnpgnilmaa
