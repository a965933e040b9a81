/-
  Law 06: WotsVerifies, walked. Conditions: bytes.
-/
import Derived.Test.YtkbhehnpgnilmaaWtQ
import Derived.Test.YtkbhehnpgnilmaaFrame
namespace Go.Proofs.Ytkbhehnpgnilmaa
open Go Go.RowKit
set_option linter.unusedSimpArgs false

set_option maxRecDepth 100000 in
set_option maxHeartbeats 4000000 in
theorem wotsVerifies_walk (seed m : List Int) (w : World) (l0 : seed.length = 32) (b0 : AllB seed) (l1 : m.length = 32) (b1 : AllB m) :
    Calls Try.prog 15 #[.agg (ofK .u8 seed).toArray, .agg (ofK .u8 m).toArray] w (TrueP w) := by
  have HX := Lib.hid (show IsD seed from ⟨l0, b0⟩)
  have HM := Lib.hid (show IsD m from ⟨l1, b1⟩)
  clear l0 b0 l1 b1
  have HI := Lib.hid (infoD HX.out)
  have HIM := Lib.hid (infoD HM.out)
  have hkD := isD_key HX.out
  have HKD := Lib.hid hkD
  obtain ⟨k, hk⟩ : ∃ k, keyOf seed = k := ⟨_, rfl⟩
  rw [hk] at hkD HKD
  have HK := Lib.hid hk
  have HIK := Lib.hid (infoD hkD)
  have HLK := Lib.hid (lenD hkD isD_zer)
  have he := fun w => eq_ids w k k true hkD hkD (decide_eq_true rfl)
  clear hk hkD
  go_enter Try.func15, Try.ntmps15
  go_wp2_with (first
    | (with_reducible refine wpList_box_blk w rfl 23 (.tmp 0) rfl (ofK .u8 seed) rfl ?_; intro w1 hb hbel hsz; have HB1 := Lib.hid (And.intro hb (And.intro hbel hsz)); clear hb hbel hsz)
    | (with_reducible refine wpList_box_blk w1 rfl 23 (.tmp 1) rfl (ofK .u8 m) rfl ?_; intro w2 hb hbel hsz; have HB2 := Lib.hid (show Blk w2 w.heap.size 23 (ofK .u8 seed) ∧ Blk w2 w1.heap.size 23 (ofK .u8 m) ∧ Below w.heap.size w w2 ∧ w.heap.size < w1.heap.size from ⟨HB1.out.1.below hbel HB1.out.1.lt, hb, below_thn HB1.out.2.1 hbel (Nat.le_refl _), by have := HB1.out.2.2; omega⟩); clear hb hbel hsz))
  refine (wakes6_any w2).mono ?_
  rintro e w3 ⟨rfl, hb3⟩
  have H3 := Lib.hid (show w3.rangeAt w.heap.size 0 (ofK .u8 seed) ∧ w3.rangeAt w1.heap.size 0 (ofK .u8 m) ∧ Below w.heap.size w w3 ∧ w.heap.size < w1.heap.size from ⟨rangeW_below (rangeW_blk HB2.out.1) hb3, rangeW_below (rangeW_blk HB2.out.2.1) hb3, below_thn HB2.out.2.2.1 hb3 (Nat.le_refl _), HB2.out.2.2.2⟩)
  clear hb3
  go_wp2_with (first
    | (with_reducible refine wpList_load_any rfl 23 (.tmp 2) rfl w.heap.size 0 rfl (ofK .u8 seed) _ H3.out.1 Try.underlying23 rfl HI.out ?_)
    | (with_reducible refine wpList_load_any rfl 23 (.tmp 3) rfl w1.heap.size 0 rfl (ofK .u8 m) _ H3.out.2.1 Try.underlying23 rfl HIM.out ?_))
  refine (sign_any seed m w3 HX.out HM.out).mono ?_
  rintro e w4 ⟨sao, scp, rfl, hown, hb4⟩
  have H4 := Lib.hid (show w4.rangeAt w.heap.size 0 (ofK .u8 seed) ∧ w4.rangeAt w1.heap.size 0 (ofK .u8 m) ∧ Below w.heap.size w w4 ∧ SlD w4 (.slice sao 67 scp) (sigOf seed m) from ⟨rangeW_below H3.out.1 hb4, rangeW_below H3.out.2.1 hb4, below_thn H3.out.2.2.1 hb4 (Nat.le_refl _), SlD.of_owns hown (sigOf_length _ _).symm (sigOf_D HX.out _)⟩)
  clear hown hb4
  go_wp2_with (with_reducible refine wpList_load_any rfl 23 (.tmp 3) rfl w1.heap.size 0 rfl (ofK .u8 m) _ H4.out.2.1 Try.underlying23 rfl HIM.out ?_)
  refine (recover_ok m _ (sigOf seed m) w4 HM.out H4.out.2.2.2 (sigOf_length _ _) (sigOf_D HX.out _)).mono ?_
  rw [rec_sig HM.out, HK.out]
  rintro e w5 ⟨rfl, hb5⟩
  have H5 := Lib.hid (show w5.rangeAt w.heap.size 0 (ofK .u8 seed) ∧ w5.rangeAt w1.heap.size 0 (ofK .u8 m) ∧ Below w.heap.size w w5 ∧ SlD w5 (.slice sao 67 scp) (sigOf seed m) from ⟨rangeW_below H4.out.1 hb5, rangeW_below H4.out.2.1 hb5, below_thn H4.out.2.2.1 hb5 (Nat.le_refl _), H4.out.2.2.2.below hb5⟩)
  clear hb5
  go_wp2_with (first
    | ((with_reducible refine wpList_alloc_blk w5 rfl 23 rfl (ofK .u8 zer32) Try.zeroId ?_); intro w6 hb hbel hsz; have H6 := Lib.hid (And.intro hb hbel); clear hb hbel hsz)
    | ((with_reducible refine wpList_store_blk w6 rfl 23 (.tmp 6) (.tmp 17) rfl w5.heap.size 23 (ofK .u8 zer32) (ofK .u8 k) H6.out.1 rfl rfl HLK.out HIK.out (one_ofK _ _) ?_); intro w7 hb hc hs; have H7 := Lib.hid (show w7.rangeAt w5.heap.size 0 (ofK .u8 k) ∧ Below w5.heap.size w5 w7 from ⟨rangeW_blk hb, below_ch H6.out.2 hc (Nat.le_refl _) (fun j hj => by have : j = w5.heap.size := hj; omega)⟩); clear hb hc hs))
  have H8 := Lib.hid (show w7.rangeAt w.heap.size 0 (ofK .u8 seed) ∧ w7.rangeAt w1.heap.size 0 (ofK .u8 m) ∧ w7.rangeAt w5.heap.size 0 (ofK .u8 k) ∧ Below w.heap.size w w7 ∧ SlD w7 (.slice sao 67 scp) (sigOf seed m) from ⟨rangeW_below H5.out.1 H7.out.2, rangeW_below H5.out.2.1 H7.out.2, H7.out.1, below_thn H5.out.2.2.1 H7.out.2 (Nat.le_refl _), H5.out.2.2.2.below H7.out.2⟩)
  have C1 := Lib.hid (fun q => key_any seed (grew w7 q) HX.out)
  rw [HK.out] at C1
  have C2 := Lib.hid (fun q => verify_any k m (.slice sao 67 scp) (sigOf seed m) (grew w7 q) HKD.out HM.out (H8.out.2.2.2.2.below (below_grew w7 q)) (sigOf_D HX.out _))
  rw [verL_67 (sigOf_length _ _), rec_sig HM.out, HK.out, decide_eq_true rfl] at C2
  clear H3 H4 H5 H6 H7 HB1 HB2
  refine wp_region_grew (by kernel_rfl) (by kernel_rfl) ?_
  repeat (first | go_big_quiet_skip | (go_big_quiet_want; (first | (refine quiet_load_mid 23 (.tmp 6) rfl w5.heap.size 0 rfl (ofK .u8 k) _ (fun w' hw' => rangeAt_grew H8.out.2.2.1 w' hw') Try.underlying23 rfl HIK.out ?_; go_simp; go_big_quiet_on) | (refine quiet_load_mid 23 (.tmp 2) rfl w.heap.size 0 rfl (ofK .u8 seed) _ (fun w' hw' => rangeAt_grew H8.out.1 w' hw') Try.underlying23 rfl HI.out ?_; go_simp; go_big_quiet_on) | (refine quiet_load_mid 23 (.tmp 3) rfl w1.heap.size 0 rfl (ofK .u8 m) _ (fun w' hw' => rangeAt_grew H8.out.2.1 w' hw') Try.underlying23 rfl HIM.out ?_; go_simp; go_big_quiet_on) | (go_big_quiet_op; (first | go_big_quiet_on | (apply Exists.intro; refine ⟨fun _ => ?_, ?_⟩; (focus (first | (go_at_call 61; exact calls_grew (C1.out _)) | (go_at_call 64; exact calls_grew (C2.out _)))); go_big_quiet_on))))))
  refine wpQuiet_nil ?_
  intro w9 hw9
  obtain ⟨q, rfl⟩ := hw9
  go_wp2_with fail
  go_ret
  exact ⟨rfl, below_thn H8.out.2.2.2.1 (below_grew w7 q) (Nat.le_refl _)⟩

end Go.Proofs.Ytkbhehnpgnilmaa
