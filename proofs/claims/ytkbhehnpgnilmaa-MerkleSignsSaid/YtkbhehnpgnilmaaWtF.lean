/-
  Package wots: Recover of a row of another length, and Verify, walked. Conditions: bytes; a row of at most 2^30 digests.
-/
import Derived.Test.YtkbhehnpgnilmaaWtE
import Derived.Test.YtkbhehnpgnilmaaEqA
namespace Go.Proofs.Ytkbhehnpgnilmaa
open Go Go.RowKit
set_option linter.unusedSimpArgs false

set_option maxRecDepth 100000 in
set_option maxHeartbeats 4000000 in
theorem recover_bad (m : List Int) (ao : Option Addr) (n c : Nat) (w : World) (hn : n ≠ 67) :
    Calls Try.prog 62 #[.agg (ofK .u8 m).toArray, .slice ao n c] w (DigP w zer32 3) := by
  have HZI := Lib.hid (infoD isD_zer)
  have hn1 : ((n : Int) == 67) = false := by simp; omega
  go_enter Try.func62, Try.ntmps62
  go_wp2_with (first
    | (with_reducible refine wpList_box_blk w rfl 23 (.tmp 0) rfl (ofK .u8 m) rfl ?_; intro w1 hb1 hbel1 hsz1; have HB1 := Lib.hid (And.intro hb1 (And.intro hbel1 hsz1)); clear hb1 hbel1 hsz1)
    | ((with_reducible refine wpList_alloc_blk w1 rfl 23 rfl (ofK .u8 zer32) Try.zeroId ?_); intro w2 hb hbel hsz; have HB2 := Lib.hid (And.intro hb (And.intro (below_thn HB1.out.2.1 hbel (Nat.le_refl _)) (show w.heap.size < w1.heap.size by have := HB1.out.2.2; omega))); clear hb hbel hsz)
    | (with_reducible refine wpList_build_want rfl 23 #[] rfl #[] rfl (.agg (ofK .u8 zer32).toArray) (Try.buildId _) ?_)
    | ((with_reducible refine wpList_store_blk w2 rfl 23 (.tmp 4) (.tmp 15) rfl w1.heap.size 23 (ofK .u8 zer32) (ofK .u8 zer32) HB2.out.1 rfl rfl rfl HZI.out (one_ofK _ _) ?_); intro w6 hb hc hs; have H6 := Lib.hid (And.intro hb hc); clear hb hc hs))
  refine bodyPost_ret (results_cellTmp Try.results62 _ _ w1.heap.size _ _ rfl H6.out.1 _ Try.underlying23 rfl HZI.out _ rfl) rfl ⟨rfl, ?_⟩
  exact below_ch HB2.out.2.1 H6.out.2 (Nat.le_refl _) (fun k hk => by have : k = w1.heap.size := hk; have := HB2.out.2.2; omega)

set_option maxRecDepth 100000 in
theorem eq_ids (w : World) (a b : List Int) (r : Bool) (ha : IsD a) (hb : IsD b) (hr : decide (a = b) = r) : (Op.equalIn 10000 23 (.agg (ofK .u8 a).toArray) (.agg (ofK .u8 b).toArray)).run Try.prog w = .ok r w := by
  rw [← hr]
  exact run_equalIn_arrK (P := Try.prog) w .u8 9998 23 5 32 Try.underlying23 Try.underlying5 (fun _ => by rfl) a b ha.1 hb.1

set_option maxRecDepth 100000 in
set_option maxHeartbeats 4000000 in
theorem verify_of (key m : List Int) (vs : Value) (x : List Int) (e0 : Int) (r : Bool) (w : World) (hk : IsD key) (hx : IsD x) (hr : (decide (e0 = 0) && decide (x = key)) = r)
    (hc : ∀ w1 : World, Below w.heap.size w w1 → Calls Try.prog 62 #[.agg (ofK .u8 m).toArray, vs] w1 (DigP w1 x e0)) (hm : IsD m) :
    Calls Try.prog 64 #[.agg (ofK .u8 key).toArray, .agg (ofK .u8 m).toArray, vs] w (fun e w' => e = .returned (.bool r) ∧ Below w.heap.size w w') := by
  have HC := Lib.hid hc
  have HI := Lib.hid (infoD hm)
  have HIK := Lib.hid (infoD hk)
  have HIX := Lib.hid (infoD hx)
  have HLX := Lib.hid (lenD hx isD_zer)
  obtain ⟨q, hq⟩ : ∃ q, decide (x = key) = q := ⟨_, rfl⟩
  have HE := Lib.hid (fun w => eq_ids w x key q hx hk hq)
  rw [hq] at hr
  clear hc hm hk hx hq
  go_enter Try.func64, Try.ntmps64
  go_wp2_with (first
    | (with_reducible refine wpList_box_blk w rfl 23 (.tmp 0) rfl (ofK .u8 key) rfl ?_; intro w1 hb1 hbel1 hsz1; have HB1 := Lib.hid (And.intro hb1 (And.intro hbel1 hsz1)); clear hb1 hbel1 hsz1)
    | (with_reducible refine wpList_box_blk w1 rfl 23 (.tmp 1) rfl (ofK .u8 m) rfl ?_; intro w2 hb hbel hsz; have HB2 := Lib.hid (And.intro hb (And.intro (HB1.out.1.below hbel HB1.out.1.lt) (below_thn HB1.out.2.1 hbel (Nat.le_refl _)))); have HRM := Lib.hid (rangeW_blk hb); clear hb hbel hsz)
    | (with_reducible refine wpList_load_any rfl 23 (.tmp 4) rfl w1.heap.size 0 rfl (ofK .u8 m) _ HRM.out Try.underlying23 rfl HI.out ?_))
  refine (HC.out w2 HB2.out.2.2).mono ?_
  rintro e w3 ⟨rfl, hb3⟩
  have H3 := Lib.hid (And.intro (HB2.out.2.1.below hb3 HB2.out.2.1.lt) (below_thn HB2.out.2.2 hb3 (Nat.le_refl _)))
  clear hb3
  have he := HE.out
  by_cases h0 : e0 = 0
  · subst h0
    have hr' : q = r := by simpa using hr
    subst hr'
    clear hr
    go_wp2_with (first
      | ((with_reducible refine wpList_alloc_blk w3 rfl 23 rfl (ofK .u8 zer32) Try.zeroId ?_); intro w4 hb hbel hsz; have H4 := Lib.hid (And.intro hb (And.intro (H3.out.1.below hbel H3.out.1.lt) (And.intro (below_thn H3.out.2 hbel (Nat.le_refl _)) H3.out.1.lt))); clear hb hbel hsz)
      | ((with_reducible refine wpList_store_blk w4 rfl 23 (.tmp 7) (.tmp 13) rfl w3.heap.size 23 (ofK .u8 zer32) (ofK .u8 x) H4.out.1 rfl rfl HLX.out HIX.out (one_ofK _ _) ?_); intro w5 hb hc hs; have H5 := Lib.hid (show w5.rangeAt w3.heap.size 0 (ofK .u8 x) ∧ w5.rangeAt w.heap.size 0 (ofK .u8 key) ∧ Below w.heap.size w w5 from ⟨rangeW_blk hb, rangeW_blk (H4.out.2.1.keep hc (fun (e : w.heap.size = w3.heap.size) => by have := H4.out.2.2.2; omega)), below_ch H4.out.2.2.1 hc (Nat.le_refl _) (fun k hk => by have : k = w3.heap.size := hk; have := H4.out.2.2.2; omega)⟩); have HR1 := Lib.hid H5.out.1; have HR2 := Lib.hid H5.out.2.1; clear hb hc hs)
      | (with_reducible refine wpList_load_any rfl 23 (.tmp 7) rfl w3.heap.size 0 rfl (ofK .u8 x) _ HR1.out Try.underlying23 rfl HIX.out ?_)
      | (with_reducible refine wpList_load_any rfl 23 (.tmp 3) rfl w.heap.size 0 rfl (ofK .u8 key) _ HR2.out Try.underlying23 rfl HIK.out ?_))
    go_ret
    exact ⟨rfl, H5.out.2.2⟩
  · have hr' : false = r := by simpa [h0] using hr
    subst hr'
    have h0' : (e0 == 0) = false := by simpa using h0
    clear hr he
    go_wp2_with (first
      | ((with_reducible refine wpList_alloc_blk w3 rfl 23 rfl (ofK .u8 zer32) Try.zeroId ?_); intro w4 hb hbel hsz; have H4 := Lib.hid (And.intro hb (And.intro (H3.out.1.below hbel H3.out.1.lt) (And.intro (below_thn H3.out.2 hbel (Nat.le_refl _)) H3.out.1.lt))); clear hb hbel hsz)
      | ((with_reducible refine wpList_store_blk w4 rfl 23 (.tmp 7) (.tmp 13) rfl w3.heap.size 23 (ofK .u8 zer32) (ofK .u8 x) H4.out.1 rfl rfl HLX.out HIX.out (one_ofK _ _) ?_); intro w5 hb hc hs; have H5 := Lib.hid (below_ch H4.out.2.2.1 hc (Nat.le_refl _) (fun k hk => by have : k = w3.heap.size := hk; have := H4.out.2.2.2; omega)); clear hb hc hs))
    go_ret
    exact ⟨rfl, H5.out⟩

end Go.Proofs.Ytkbhehnpgnilmaa
