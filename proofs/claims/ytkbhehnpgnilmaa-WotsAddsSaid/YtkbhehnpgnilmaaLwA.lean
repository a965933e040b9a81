/-
  Law 06: WotsAdds, walked. Conditions: bytes.
-/
import Derived.Test.YtkbhehnpgnilmaaLwZ
namespace Go.Proofs.Ytkbhehnpgnilmaa
open Go Go.RowKit
set_option linter.unusedSimpArgs false

set_option maxRecDepth 100000 in
set_option maxHeartbeats 8000000 in
theorem adds_walk (x : List Int) (c a b d : Int) (w : World) (hx : IsD x) :
    Calls Try.prog 17 #[.agg (ofK .u8 x).toArray, .int .i64 c, .agg (ofK .i64 [a, b, d]).toArray] w (TrueP w) := by
  have HXD := Lib.hid hx
  have HXI := Lib.hid (infoD HXD.out)
  have HXL := Lib.hid (lenD HXD.out isD_zer)
  clear hx
  have HZD := Lib.hid isD_zer
  have HZI := Lib.hid (infoD isD_zer)
  go_enter Try.func17, Try.ntmps17
  go_wp2_with (first
    | (with_reducible refine wpList_box_blk w rfl 23 (.tmp 0) rfl (ofK .u8 x) rfl ?_; intro w1 hb hbel hsz; have HB1 := Lib.hid (And.intro hb (And.intro hbel hsz)); clear hb hbel hsz)
    | (with_reducible refine wpList_box_blk w1 rfl 78 (.tmp 2) rfl (ofK .i64 [a, b, d]) rfl ?_; intro w2 hb hbel hsz; have HB2 := Lib.hid (And.intro (HB1.out.1.below hbel HB1.out.1.lt) (And.intro hb (below_thn HB1.out.2.1 hbel (Nat.le_refl _)))); clear hb hbel hsz))
  refine (wakes6_any w2).mono ?_
  rintro e w3 ⟨rfl, hb3⟩
  have hq := HB2.out.2.1.below hb3 HB2.out.2.1.lt
  have c0 : w3.cell? ⟨w1.heap.size, 0, none⟩ = some (.int .i64 a) := by rw [hq.cell]; rfl
  have c1 : w3.cell? ⟨w1.heap.size, 1, none⟩ = some (.int .i64 b) := by rw [hq.cell]; rfl
  have c2 : w3.cell? ⟨w1.heap.size, 2, none⟩ = some (.int .i64 d) := by rw [hq.cell]; rfl
  have g0 := fun q => cell_grew c0 q
  have g1 := fun q => cell_grew c1 q
  have g2 := fun q => cell_grew c2 q
  have H3 := Lib.hid (show ∀ q, (grew w3 q).rangeAt w.heap.size 0 (ofK .u8 x) ∧ Below w.heap.size w (grew w3 q) from fun q => ⟨rangeW_below (rangeW_below (rangeW_blk HB2.out.1) hb3) (below_grew w3 q), below_thn (below_thn HB2.out.2.2 hb3 (Nat.le_refl _)) (below_grew w3 q) (Nat.le_refl _)⟩)
  clear hb3 hq c0 c1 c2
  go_wp2_with fail
  refine wp_region_grew (by kernel_rfl) (by kernel_rfl) ?_
  repeat (first | go_big_quiet_skip | (go_big_quiet_want; go_big_quiet_op; go_big_quiet_on))
  refine wpQuiet_nil ?_
  intro w4 hw4
  obtain ⟨q, rfl⟩ := hw4
  have H4 := Lib.hid (H3.out q)
  clear g0 g1 g2 H3 HB1 HB2
  generalize grew w3 q = w4 at H4 ⊢
  by_cases h1 : ChOk c a b
  · obtain ⟨y, hy⟩ : ∃ y, walkB x c a (b - a).toNat = y := ⟨_, rfl⟩
    have hyD : IsD y := by rw [← hy]; exact isD_walk HXD.out _ _ _
    have HYD := Lib.hid hyD
    have HYI := Lib.hid (infoD HYD.out)
    have HYL := Lib.hid (lenD HYD.out isD_zer)
    have HYE := Lib.hid hy
    have HO := Lib.hid h1
    clear hyD hy h1
    go_wp2_with (with_reducible refine wpList_load_any rfl 23 (.tmp 3) rfl w.heap.size 0 rfl (ofK .u8 x) _ H4.out.1 Try.underlying23 rfl HXI.out ?_)
    refine (chain_good x c a b w4 HXD.out HO.out).mono ?_
    rw [HYE.out]
    rintro e w5 ⟨rfl, hb5⟩
    have H5 := Lib.hid (show w5.rangeAt w.heap.size 0 (ofK .u8 x) ∧ Below w.heap.size w w5 from ⟨rangeW_below H4.out.1 hb5, below_thn H4.out.2 hb5 (Nat.le_refl _)⟩)
    clear hb5
    go_wp2_with (first
    | ((with_reducible refine wpList_alloc_blk w5 rfl 23 rfl (ofK .u8 zer32) Try.zeroId ?_); intro w6 hb hbel hsz; have HAH7 := Lib.hid (And.intro hb hbel); clear hb hbel hsz)
    | ((with_reducible refine wpList_store_blk w6 rfl 23 (.tmp 10) (.tmp 32) rfl w5.heap.size 23 (ofK .u8 zer32) (ofK .u8 y) HAH7.out.1 rfl rfl HYL.out HYI.out (one_ofK _ _) ?_); intro w7 hb hc hs; have HBH7 := Lib.hid (show w7.rangeAt w5.heap.size 0 (ofK .u8 y) ∧ Below w5.heap.size w5 w7 from ⟨rangeW_blk hb, below_ch HAH7.out.2 hc (Nat.le_refl _) (fun j hj => by have : j = w5.heap.size := hj; omega)⟩); have H7 := Lib.hid (show w7.rangeAt w.heap.size 0 (ofK .u8 x) ∧ w7.rangeAt w5.heap.size 0 (ofK .u8 y) ∧ Below w.heap.size w w7 from ⟨rangeW_below H5.out.1 HBH7.out.2, HBH7.out.1, below_thn H5.out.2 HBH7.out.2 (Nat.le_refl _)⟩); clear hb hc hs)
    | (with_reducible refine wpList_load_any rfl 23 (.tmp 10) rfl w5.heap.size 0 rfl (ofK .u8 y) _ H7.out.2.1 Try.underlying23 rfl HYI.out ?_))
    by_cases h2 : b ≤ d ∧ d ≤ 15
    · obtain ⟨z, hz⟩ : ∃ z, walkB y c b (d - b).toNat = z := ⟨_, rfl⟩
      have hzD : IsD z := by rw [← hz]; exact isD_walk HYD.out _ _ _
      have HCD := Lib.hid hzD
      have HCI := Lib.hid (infoD HCD.out)
      have HCL := Lib.hid (lenD HCD.out isD_zer)
      have HZE := Lib.hid (show walkB x c a (d - a).toNat = z by
        have hO := HO.out
        unfold ChOk at hO
        rw [← hz, ← HYE.out]
        have := walkB_add x c a (b - a).toNat (d - b).toNat
        rw [show a + ((b - a).toNat : Int) = b by omega, show (b - a).toNat + (d - b).toNat = (d - a).toNat by omega] at this
        exact this.symm)
      have HZF := Lib.hid hz
      have he := fun w => eq_ids w z z true hzD hzD (decide_eq_true rfl)
      have HO2 := Lib.hid h2
      clear hzD hz h2
      refine (chain_good y c b d w7 HYD.out (by have := HO.out; have := HO2.out; unfold ChOk at *; omega)).mono ?_
      rw [HZF.out]
      rintro e w8 ⟨rfl, hb8⟩
      have H8 := Lib.hid (show w8.rangeAt w.heap.size 0 (ofK .u8 x) ∧ w8.rangeAt w5.heap.size 0 (ofK .u8 y) ∧ Below w.heap.size w w8 from ⟨rangeW_below H7.out.1 hb8, rangeW_below H7.out.2.1 hb8, below_thn H7.out.2.2 hb8 (Nat.le_refl _)⟩)
      clear hb8
      go_wp2_with (first
    | ((with_reducible refine wpList_alloc_blk w8 rfl 23 rfl (ofK .u8 zer32) Try.zeroId ?_); intro w9 hb hbel hsz; have HAH10 := Lib.hid (And.intro hb hbel); clear hb hbel hsz)
    | ((with_reducible refine wpList_store_blk w9 rfl 23 (.tmp 12) (.tmp 49) rfl w8.heap.size 23 (ofK .u8 zer32) (ofK .u8 z) HAH10.out.1 rfl rfl HCL.out HCI.out (one_ofK _ _) ?_); intro w10 hb hc hs; have HBH10 := Lib.hid (show w10.rangeAt w8.heap.size 0 (ofK .u8 z) ∧ Below w8.heap.size w8 w10 from ⟨rangeW_blk hb, below_ch HAH10.out.2 hc (Nat.le_refl _) (fun j hj => by have : j = w8.heap.size := hj; omega)⟩); have H10 := Lib.hid (show w10.rangeAt w.heap.size 0 (ofK .u8 x) ∧ w10.rangeAt w5.heap.size 0 (ofK .u8 y) ∧ w10.rangeAt w8.heap.size 0 (ofK .u8 z) ∧ Below w.heap.size w w10 from ⟨rangeW_below H8.out.1 HBH10.out.2, rangeW_below H8.out.2.1 HBH10.out.2, HBH10.out.1, below_thn H8.out.2.2 HBH10.out.2 (Nat.le_refl _)⟩); clear hb hc hs)
    | (with_reducible refine wpList_load_any rfl 23 (.tmp 3) rfl w.heap.size 0 rfl (ofK .u8 x) _ H10.out.1 Try.underlying23 rfl HXI.out ?_))
      refine (chain_good x c a d w10 HXD.out (by have := HO.out; have := HO2.out; unfold ChOk at *; omega)).mono ?_
      rw [HZE.out]
      rintro e w11 ⟨rfl, hb11⟩
      have H11 := Lib.hid (show w11.rangeAt w.heap.size 0 (ofK .u8 x) ∧ w11.rangeAt w5.heap.size 0 (ofK .u8 y) ∧ w11.rangeAt w8.heap.size 0 (ofK .u8 z) ∧ Below w.heap.size w w11 from ⟨rangeW_below H10.out.1 hb11, rangeW_below H10.out.2.1 hb11, rangeW_below H10.out.2.2.1 hb11, below_thn H10.out.2.2.2 hb11 (Nat.le_refl _)⟩)
      clear hb11
      by_cases h3 : a < b
      · go_wp2_with (first
    | ((with_reducible refine wpList_alloc_blk w11 rfl 23 rfl (ofK .u8 zer32) Try.zeroId ?_); intro w12 hb hbel hsz; have HAH13 := Lib.hid (And.intro hb hbel); clear hb hbel hsz)
    | ((with_reducible refine wpList_store_blk w12 rfl 23 (.tmp 13) (.tmp 70) rfl w11.heap.size 23 (ofK .u8 zer32) (ofK .u8 z) HAH13.out.1 rfl rfl HCL.out HCI.out (one_ofK _ _) ?_); intro w13 hb hc hs; have HBH13 := Lib.hid (show w13.rangeAt w11.heap.size 0 (ofK .u8 z) ∧ Below w11.heap.size w11 w13 from ⟨rangeW_blk hb, below_ch HAH13.out.2 hc (Nat.le_refl _) (fun j hj => by have : j = w11.heap.size := hj; omega)⟩); have H13 := Lib.hid (show w13.rangeAt w.heap.size 0 (ofK .u8 x) ∧ w13.rangeAt w5.heap.size 0 (ofK .u8 y) ∧ w13.rangeAt w8.heap.size 0 (ofK .u8 z) ∧ w13.rangeAt w11.heap.size 0 (ofK .u8 z) ∧ Below w.heap.size w w13 from ⟨rangeW_below H11.out.1 HBH13.out.2, rangeW_below H11.out.2.1 HBH13.out.2, rangeW_below H11.out.2.2.1 HBH13.out.2, HBH13.out.1, below_thn H11.out.2.2.2 HBH13.out.2 (Nat.le_refl _)⟩); clear hb hc hs)
    | (refine wpList_load_want rfl 23 (.tmp 13) rfl w11.heap.size 0 rfl (ofK .u8 z) _ H13.out.2.2.2.1 Try.underlying23 rfl HCI.out ?_)
    | (refine wpList_load_want rfl 23 (.tmp 12) rfl w8.heap.size 0 rfl (ofK .u8 z) _ H13.out.2.2.1 Try.underlying23 rfl HCI.out ?_)
    | (with_reducible refine wpList_load_any rfl 23 (.tmp 3) rfl w.heap.size 0 rfl (ofK .u8 x) _ H13.out.1 Try.underlying23 rfl HXI.out ?_))
        have HO3 := Lib.hid h3
        clear h3 he
        refine (step_ok x c a w13 HXD.out HO.out.1.1 HO.out.1.2 HO.out.2.1 (by have := HO.out; have := HO3.out; unfold ChOk at *; omega)).mono ?_
        obtain ⟨u, hu⟩ : ∃ u, stepB x c a = u := ⟨_, rfl⟩
        rw [hu]
        have huD : IsD u := by rw [← hu]; exact isD_step HXD.out _ _
        have HUD := Lib.hid huD
        have HUI := Lib.hid (infoD HUD.out)
        have HUL := Lib.hid (lenD HUD.out isD_zer)
        have HUE := Lib.hid (show walkB u c (a + 1) (b - (a + 1)).toNat = y by
          rw [← hu, walkB_one, ← HYE.out]
          congr 1
          have := HO3.out
          omega)
        clear huD hu
        rintro e w14 ⟨rfl, hb14⟩
        have H14 := Lib.hid (show w14.rangeAt w.heap.size 0 (ofK .u8 x) ∧ w14.rangeAt w5.heap.size 0 (ofK .u8 y) ∧ w14.rangeAt w8.heap.size 0 (ofK .u8 z) ∧ w14.rangeAt w11.heap.size 0 (ofK .u8 z) ∧ Below w.heap.size w w14 from ⟨rangeW_below H13.out.1 hb14, rangeW_below H13.out.2.1 hb14, rangeW_below H13.out.2.2.1 hb14, rangeW_below H13.out.2.2.2.1 hb14, below_thn H13.out.2.2.2.2 hb14 (Nat.le_refl _)⟩)
        clear hb14
        have hw : IntKind.i64.wrap (a + 1) = a + 1 := by rw [IntKind.wrap_i64]; have := HO.out; unfold ChOk at this; omega
        go_wp2_with (first
    | ((with_reducible refine wpList_alloc_blk w14 rfl 23 rfl (ofK .u8 zer32) Try.zeroId ?_); intro w15 hb hbel hsz; have HAH16 := Lib.hid (And.intro hb hbel); clear hb hbel hsz)
    | ((with_reducible refine wpList_store_blk w15 rfl 23 (.tmp 14) (.tmp 87) rfl w14.heap.size 23 (ofK .u8 zer32) (ofK .u8 u) HAH16.out.1 rfl rfl HUL.out HUI.out (one_ofK _ _) ?_); intro w16 hb hc hs; have HBH16 := Lib.hid (show w16.rangeAt w14.heap.size 0 (ofK .u8 u) ∧ Below w14.heap.size w14 w16 from ⟨rangeW_blk hb, below_ch HAH16.out.2 hc (Nat.le_refl _) (fun j hj => by have : j = w14.heap.size := hj; omega)⟩); have H16 := Lib.hid (show w16.rangeAt w.heap.size 0 (ofK .u8 x) ∧ w16.rangeAt w5.heap.size 0 (ofK .u8 y) ∧ w16.rangeAt w8.heap.size 0 (ofK .u8 z) ∧ w16.rangeAt w11.heap.size 0 (ofK .u8 z) ∧ w16.rangeAt w14.heap.size 0 (ofK .u8 u) ∧ Below w.heap.size w w16 from ⟨rangeW_below H14.out.1 HBH16.out.2, rangeW_below H14.out.2.1 HBH16.out.2, rangeW_below H14.out.2.2.1 HBH16.out.2, rangeW_below H14.out.2.2.2.1 HBH16.out.2, HBH16.out.1, below_thn H14.out.2.2.2.2 HBH16.out.2 (Nat.le_refl _)⟩); clear hb hc hs)
    | (with_reducible refine wpList_load_any rfl 23 (.tmp 14) rfl w14.heap.size 0 rfl (ofK .u8 u) _ H16.out.2.2.2.2.1 Try.underlying23 rfl HUI.out ?_))
        refine (chain_good u c (a + 1) b w16 HUD.out (by have := HO.out; have := HO3.out; unfold ChOk at *; omega)).mono ?_
        rw [HUE.out]
        rintro e w17 ⟨rfl, hb17⟩
        have H17 := Lib.hid (show w17.rangeAt w.heap.size 0 (ofK .u8 x) ∧ w17.rangeAt w5.heap.size 0 (ofK .u8 y) ∧ w17.rangeAt w8.heap.size 0 (ofK .u8 z) ∧ w17.rangeAt w11.heap.size 0 (ofK .u8 z) ∧ w17.rangeAt w14.heap.size 0 (ofK .u8 u) ∧ Below w.heap.size w w17 from ⟨rangeW_below H16.out.1 hb17, rangeW_below H16.out.2.1 hb17, rangeW_below H16.out.2.2.1 hb17, rangeW_below H16.out.2.2.2.1 hb17, rangeW_below H16.out.2.2.2.2.1 hb17, below_thn H16.out.2.2.2.2.2 hb17 (Nat.le_refl _)⟩)
        clear hb17
        have he := fun w => eq_ids w y y true HYD.out HYD.out (decide_eq_true rfl)
        go_wp2_with (first
    | ((with_reducible refine wpList_alloc_blk w17 rfl 23 rfl (ofK .u8 zer32) Try.zeroId ?_); intro w18 hb hbel hsz; have HAH19 := Lib.hid (And.intro hb hbel); clear hb hbel hsz)
    | ((with_reducible refine wpList_store_blk w18 rfl 23 (.tmp 16) (.tmp 96) rfl w17.heap.size 23 (ofK .u8 zer32) (ofK .u8 y) HAH19.out.1 rfl rfl HYL.out HYI.out (one_ofK _ _) ?_); intro w19 hb hc hs; have HBH19 := Lib.hid (show w19.rangeAt w17.heap.size 0 (ofK .u8 y) ∧ Below w17.heap.size w17 w19 from ⟨rangeW_blk hb, below_ch HAH19.out.2 hc (Nat.le_refl _) (fun j hj => by have : j = w17.heap.size := hj; omega)⟩); have H19 := Lib.hid (show w19.rangeAt w.heap.size 0 (ofK .u8 x) ∧ w19.rangeAt w5.heap.size 0 (ofK .u8 y) ∧ w19.rangeAt w8.heap.size 0 (ofK .u8 z) ∧ w19.rangeAt w11.heap.size 0 (ofK .u8 z) ∧ w19.rangeAt w14.heap.size 0 (ofK .u8 u) ∧ w19.rangeAt w17.heap.size 0 (ofK .u8 y) ∧ Below w.heap.size w w19 from ⟨rangeW_below H17.out.1 HBH19.out.2, rangeW_below H17.out.2.1 HBH19.out.2, rangeW_below H17.out.2.2.1 HBH19.out.2, rangeW_below H17.out.2.2.2.1 HBH19.out.2, rangeW_below H17.out.2.2.2.2.1 HBH19.out.2, HBH19.out.1, below_thn H17.out.2.2.2.2.2 HBH19.out.2 (Nat.le_refl _)⟩); clear hb hc hs)
    | (refine wpList_load_want rfl 23 (.tmp 16) rfl w17.heap.size 0 rfl (ofK .u8 y) _ H19.out.2.2.2.2.2.1 Try.underlying23 rfl HYI.out ?_)
    | (refine wpList_load_want rfl 23 (.tmp 10) rfl w5.heap.size 0 rfl (ofK .u8 y) _ H19.out.2.1 Try.underlying23 rfl HYI.out ?_))
        go_ret
        exact ⟨rfl, H19.out.2.2.2.2.2.2⟩
      · have HYX := Lib.hid (show y = x by
          rw [← HYE.out]
          have := HO.out
          unfold ChOk at this
          rw [show (b - a).toNat = 0 by omega]
          rfl)
        have he2 := fun w => eq_ids w y x true HYD.out HXD.out (decide_eq_true HYX.out)
        go_wp2_with (first
    | ((with_reducible refine wpList_alloc_blk w11 rfl 23 rfl (ofK .u8 zer32) Try.zeroId ?_); intro w12 hb hbel hsz; have HAH13 := Lib.hid (And.intro hb hbel); clear hb hbel hsz)
    | ((with_reducible refine wpList_store_blk w12 rfl 23 (.tmp 13) (.tmp 70) rfl w11.heap.size 23 (ofK .u8 zer32) (ofK .u8 z) HAH13.out.1 rfl rfl HCL.out HCI.out (one_ofK _ _) ?_); intro w13 hb hc hs; have HBH13 := Lib.hid (show w13.rangeAt w11.heap.size 0 (ofK .u8 z) ∧ Below w11.heap.size w11 w13 from ⟨rangeW_blk hb, below_ch HAH13.out.2 hc (Nat.le_refl _) (fun j hj => by have : j = w11.heap.size := hj; omega)⟩); have H13 := Lib.hid (show w13.rangeAt w.heap.size 0 (ofK .u8 x) ∧ w13.rangeAt w5.heap.size 0 (ofK .u8 y) ∧ w13.rangeAt w8.heap.size 0 (ofK .u8 z) ∧ w13.rangeAt w11.heap.size 0 (ofK .u8 z) ∧ Below w.heap.size w w13 from ⟨rangeW_below H11.out.1 HBH13.out.2, rangeW_below H11.out.2.1 HBH13.out.2, rangeW_below H11.out.2.2.1 HBH13.out.2, HBH13.out.1, below_thn H11.out.2.2.2 HBH13.out.2 (Nat.le_refl _)⟩); clear hb hc hs)
    | (refine wpList_load_want rfl 23 (.tmp 13) rfl w11.heap.size 0 rfl (ofK .u8 z) _ H13.out.2.2.2.1 Try.underlying23 rfl HCI.out ?_)
    | (refine wpList_load_want rfl 23 (.tmp 12) rfl w8.heap.size 0 rfl (ofK .u8 z) _ H13.out.2.2.1 Try.underlying23 rfl HCI.out ?_)
    | (with_reducible refine wpList_load_any rfl 23 (.tmp 10) rfl w5.heap.size 0 rfl (ofK .u8 y) _ H13.out.2.1 Try.underlying23 rfl HYI.out ?_)
    | (with_reducible refine wpList_load_any rfl 23 (.tmp 3) rfl w.heap.size 0 rfl (ofK .u8 x) _ H13.out.1 Try.underlying23 rfl HXI.out ?_))
        go_ret
        exact ⟨rfl, H13.out.2.2.2.2⟩
    · have HO2 := Lib.hid h2
      refine (chain_bad y c b d w7 HYD.out (by have := HO.out; have := HO2.out; unfold ChOk at *; omega)).mono ?_
      rintro e w8 ⟨rfl, hb8⟩
      have H8 := Lib.hid (show w8.rangeAt w.heap.size 0 (ofK .u8 x) ∧ w8.rangeAt w5.heap.size 0 (ofK .u8 y) ∧ Below w.heap.size w w8 from ⟨rangeW_below H7.out.1 hb8, rangeW_below H7.out.2.1 hb8, below_thn H7.out.2.2 hb8 (Nat.le_refl _)⟩)
      clear hb8
      by_cases h4 : d < b
      · go_wp2_with (first
    | ((with_reducible refine wpList_alloc_blk w8 rfl 23 rfl (ofK .u8 zer32) Try.zeroId ?_); intro w9 hb hbel hsz; have HAH10 := Lib.hid (And.intro hb hbel); clear hb hbel hsz)
    | ((with_reducible refine wpList_store_blk w9 rfl 23 (.tmp 12) (.tmp 49) rfl w8.heap.size 23 (ofK .u8 zer32) (ofK .u8 zer32) HAH10.out.1 rfl rfl rfl HZI.out (one_ofK _ _) ?_); intro w10 hb hc hs; have HBH10 := Lib.hid (show w10.rangeAt w8.heap.size 0 (ofK .u8 zer32) ∧ Below w8.heap.size w8 w10 from ⟨rangeW_blk hb, below_ch HAH10.out.2 hc (Nat.le_refl _) (fun j hj => by have : j = w8.heap.size := hj; omega)⟩); have H10 := Lib.hid (show w10.rangeAt w.heap.size 0 (ofK .u8 x) ∧ w10.rangeAt w5.heap.size 0 (ofK .u8 y) ∧ w10.rangeAt w8.heap.size 0 (ofK .u8 zer32) ∧ Below w.heap.size w w10 from ⟨rangeW_below H8.out.1 HBH10.out.2, rangeW_below H8.out.2.1 HBH10.out.2, HBH10.out.1, below_thn H8.out.2.2 HBH10.out.2 (Nat.le_refl _)⟩); clear hb hc hs))
        go_ret
        exact ⟨rfl, H10.out.2.2.2⟩
      · have h5 : 15 < d := by omega
        go_wp2_with (first
    | ((with_reducible refine wpList_alloc_blk w8 rfl 23 rfl (ofK .u8 zer32) Try.zeroId ?_); intro w9 hb hbel hsz; have HAH10 := Lib.hid (And.intro hb hbel); clear hb hbel hsz)
    | ((with_reducible refine wpList_store_blk w9 rfl 23 (.tmp 12) (.tmp 49) rfl w8.heap.size 23 (ofK .u8 zer32) (ofK .u8 zer32) HAH10.out.1 rfl rfl rfl HZI.out (one_ofK _ _) ?_); intro w10 hb hc hs; have HBH10 := Lib.hid (show w10.rangeAt w8.heap.size 0 (ofK .u8 zer32) ∧ Below w8.heap.size w8 w10 from ⟨rangeW_blk hb, below_ch HAH10.out.2 hc (Nat.le_refl _) (fun j hj => by have : j = w8.heap.size := hj; omega)⟩); have H10 := Lib.hid (show w10.rangeAt w.heap.size 0 (ofK .u8 x) ∧ w10.rangeAt w5.heap.size 0 (ofK .u8 y) ∧ w10.rangeAt w8.heap.size 0 (ofK .u8 zer32) ∧ Below w.heap.size w w10 from ⟨rangeW_below H8.out.1 HBH10.out.2, rangeW_below H8.out.2.1 HBH10.out.2, HBH10.out.1, below_thn H8.out.2.2 HBH10.out.2 (Nat.le_refl _)⟩); clear hb hc hs))
        go_ret
        exact ⟨rfl, H10.out.2.2.2⟩
  · have HO := Lib.hid h1
    clear h1
    go_wp2_with (with_reducible refine wpList_load_any rfl 23 (.tmp 3) rfl w.heap.size 0 rfl (ofK .u8 x) _ H4.out.1 Try.underlying23 rfl HXI.out ?_)
    refine (chain_bad x c a b w4 HXD.out HO.out).mono ?_
    rintro e w5 ⟨rfl, hb5⟩
    have H5 := Lib.hid (show w5.rangeAt w.heap.size 0 (ofK .u8 x) ∧ Below w.heap.size w w5 from ⟨rangeW_below H4.out.1 hb5, below_thn H4.out.2 hb5 (Nat.le_refl _)⟩)
    clear hb5
    have he := fun w => eq_ids w zer32 zer32 true isD_zer isD_zer (decide_eq_true rfl)
    go_wp2_with (first
    | ((with_reducible refine wpList_alloc_blk w5 rfl 23 rfl (ofK .u8 zer32) Try.zeroId ?_); intro w6 hb hbel hsz; have HAH7 := Lib.hid (And.intro hb hbel); clear hb hbel hsz)
    | ((with_reducible refine wpList_store_blk w6 rfl 23 (.tmp 10) (.tmp 32) rfl w5.heap.size 23 (ofK .u8 zer32) (ofK .u8 zer32) HAH7.out.1 rfl rfl rfl HZI.out (one_ofK _ _) ?_); intro w7 hb hc hs; have HBH7 := Lib.hid (show w7.rangeAt w5.heap.size 0 (ofK .u8 zer32) ∧ Below w5.heap.size w5 w7 from ⟨rangeW_blk hb, below_ch HAH7.out.2 hc (Nat.le_refl _) (fun j hj => by have : j = w5.heap.size := hj; omega)⟩); have H7 := Lib.hid (show w7.rangeAt w.heap.size 0 (ofK .u8 x) ∧ w7.rangeAt w5.heap.size 0 (ofK .u8 zer32) ∧ Below w.heap.size w w7 from ⟨rangeW_below H5.out.1 HBH7.out.2, HBH7.out.1, below_thn H5.out.2 HBH7.out.2 (Nat.le_refl _)⟩); clear hb hc hs)
    | (refine wpList_load_want rfl 23 (.tmp 10) rfl w5.heap.size 0 rfl (ofK .u8 zer32) _ H7.out.2.1 Try.underlying23 rfl HZI.out ?_)
    | (refine wpList_build_zer rfl rfl ?_))
    go_ret
    exact ⟨rfl, H7.out.2.2⟩

theorem wotsAdds_walk (x : List Int) (c : Int) (p : List Int) (w : World) (l0 : x.length = 32) (b0 : AllB x) (_ : -9223372036854775808 ≤ c ∧ c ≤ 9223372036854775807) (l2 : p.length = 3) (_ : ∀ n ∈ p, -9223372036854775808 ≤ n ∧ n ≤ 9223372036854775807) :
    Calls Try.prog 17 #[.agg (ofK .u8 x).toArray, .int .i64 c, .agg (ofK .i64 p).toArray] w (TrueP w) := by
  match p, l2 with
  | [a, b, d], _ => exact adds_walk x c a b d w ⟨l0, b0⟩

end Go.Proofs.Ytkbhehnpgnilmaa
