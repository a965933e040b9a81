/-
  The reference's disk: Ask where it is to fail, walked. Conditions: none.
-/
import Derived.Test.YticcjaccpcnjhaaRdF
namespace Go.Proofs.Yticcjaccpcnjhaa
open Go Go.RowKit

set_option maxRecDepth 100000 in
set_option maxHeartbeats 4000000 in
theorem rask_hit (x : Dk) (fm : Nat) (ao : Option Addr) (len c : Nat) (sort at_ : Int) (b : List Int) (w : World) (ho : x.out = false) (hr : sort = 2 ∨ (sort ≠ 2 ∧ 0 ≤ at_ ∧ at_ < x.size)) (hf : x.fails = 0) (y : Dk) (hy : { x with fails := -1 } = y) :
    Calls Try.prog 49 #[.agg (rC x fm (.slice ao len c)).toArray, .int .i64 sort, .int .i64 at_, .agg (ofK .u8 b).toArray] w (AskSame w y fm (.slice ao len c) 8) := by
  have HI := Lib.hid (infoR y fm (.slice ao len c))
  have HL := Lib.hid (lenR y fm (.slice ao len c))
  have HO := Lib.hid (oneR y fm ao len c)
  have HYR := Lib.hid (show ∀ (w3 : World) (g : Nat), (w3.setCell ⟨g, 5, none⟩ (.int .i64 (-1))).rangeAt g 0 ((rC x fm (.slice ao len c)).set 5 (.int .i64 (-1))) → (w3.setCell ⟨g, 5, none⟩ (.int .i64 (-1))).rangeAt g 0 (rC y fm (.slice ao len c)) from fun w3 g h => by rw [← hy]; exact h)
  clear hy
  rcases hr with rfl | ⟨hs, h0, h1⟩
  · skip
    go_enter Try.func49, Try.ntmps49
    go_wp2_with (first
      | (with_reducible refine wpList_box_blk w rfl 30 (.tmp 0) rfl (rC x fm (.slice ao len c)) rfl ?_; intro w1 hb1 hbel1 hsz1; have HB1 := Lib.hid (And.intro hb1 (And.intro hbel1 hsz1)); clear hb1 hbel1 hsz1)
      | (with_reducible refine wpList_box_blk w1 rfl 39 (.tmp 3) rfl (ofK .u8 b) rfl ?_; intro w2 hb2 hbel2 hsz2; have HB2 := Lib.hid (And.intro (HB1.out.1.below hbel2 HB1.out.1.lt) (And.intro (below_thn HB1.out.2.1 hbel2 (Nat.le_refl _)) (show w.heap.size < w2.heap.size by have := HB1.out.2.2; omega))); clear hb2 hbel2 hsz2)
      | ((with_reducible refine wpList_alloc_blk w2 rfl 30 rfl rZ Try.zeroRd ?_); intro w3 hb hbel hsz; have hb0 := HB2.out.1.below hbel HB2.out.1.lt; have HB3 := Lib.hid (And.intro hb (And.intro hb0 (And.intro (below_thn HB2.out.2.1 hbel (Nat.le_refl _)) HB2.out.2.2))); have c3 := hb0.cell 3; simp only [rC, List.getElem?_cons_succ, List.getElem?_cons_zero, ho] at c3; have c0 := hb0.cell 0; simp only [rC, List.getElem?_cons_zero] at c0; have c5 := hb0.cell 5; simp only [rC, List.getElem?_cons_succ, List.getElem?_cons_zero, hf] at c5; have f5 := hb0.free 5; have hs5 := hb0.set 5 (.int .i64 (-1)); have HR := Lib.hid (HYR.out w3 w.heap.size (rangeW_blk hs5)); have hb8 := hb.keep (Ch.set w3 ⟨w.heap.size, 5, none⟩ (.int .i64 (-1))) (fun (e : w2.heap.size = w.heap.size) => by have := HB2.out.2.2; omega); have HB8 := Lib.hid hb8; clear hb hbel hsz hb0 hs5 hb8)
      | (with_reducible refine wpList_load_any rfl 30 (.tmp 4) rfl w.heap.size 0 rfl (rC y fm (.slice ao len c)) _ HR.out Try.underlying30 rfl HI.out ?_)
      | ((with_reducible refine wpList_store_blk (w3.setCell ⟨w.heap.size, 5, none⟩ (.int .i64 (-1))) rfl 30 (.tmp 8) (.tmp 30) rfl w2.heap.size 30 rZ (rC y fm (.slice ao len c)) HB8.out rfl rfl HL.out HI.out HO.out ?_); intro w4 hb hc hs; have H4 := Lib.hid (And.intro hb hc); clear hb hc hs))
    refine bodyPost_ret (results_cellTmp Try.results49 _ _ w2.heap.size _ _ rfl H4.out.1 _ Try.underlying30 rfl HI.out _ rfl) rfl ⟨rfl, ?_⟩
    exact below_ch (below_ch HB3.out.2.2.1 (Ch.set w3 ⟨w.heap.size, 5, none⟩ (.int .i64 (-1))) (Nat.le_refl _) (fun k hk => by have : k = w.heap.size := hk; omega)) H4.out.2 (Nat.le_refl _) (fun k hk => by have : k = w2.heap.size := hk; have := HB3.out.2.2.2; omega)
  · have hs' : (sort == 2) = false := by simpa using hs
    have h0' : ¬ at_ < 0 := by omega
    have h1' : ¬ x.size ≤ at_ := by omega
    go_enter Try.func49, Try.ntmps49
    go_wp2_with (first
      | (with_reducible refine wpList_box_blk w rfl 30 (.tmp 0) rfl (rC x fm (.slice ao len c)) rfl ?_; intro w1 hb1 hbel1 hsz1; have HB1 := Lib.hid (And.intro hb1 (And.intro hbel1 hsz1)); clear hb1 hbel1 hsz1)
      | (with_reducible refine wpList_box_blk w1 rfl 39 (.tmp 3) rfl (ofK .u8 b) rfl ?_; intro w2 hb2 hbel2 hsz2; have HB2 := Lib.hid (And.intro (HB1.out.1.below hbel2 HB1.out.1.lt) (And.intro (below_thn HB1.out.2.1 hbel2 (Nat.le_refl _)) (show w.heap.size < w2.heap.size by have := HB1.out.2.2; omega))); clear hb2 hbel2 hsz2)
      | ((with_reducible refine wpList_alloc_blk w2 rfl 30 rfl rZ Try.zeroRd ?_); intro w3 hb hbel hsz; have hb0 := HB2.out.1.below hbel HB2.out.1.lt; have HB3 := Lib.hid (And.intro hb (And.intro hb0 (And.intro (below_thn HB2.out.2.1 hbel (Nat.le_refl _)) HB2.out.2.2))); have c3 := hb0.cell 3; simp only [rC, List.getElem?_cons_succ, List.getElem?_cons_zero, ho] at c3; have c0 := hb0.cell 0; simp only [rC, List.getElem?_cons_zero] at c0; have c5 := hb0.cell 5; simp only [rC, List.getElem?_cons_succ, List.getElem?_cons_zero, hf] at c5; have f5 := hb0.free 5; have hs5 := hb0.set 5 (.int .i64 (-1)); have HR := Lib.hid (HYR.out w3 w.heap.size (rangeW_blk hs5)); have hb8 := hb.keep (Ch.set w3 ⟨w.heap.size, 5, none⟩ (.int .i64 (-1))) (fun (e : w2.heap.size = w.heap.size) => by have := HB2.out.2.2; omega); have HB8 := Lib.hid hb8; clear hb hbel hsz hb0 hs5 hb8)
      | (with_reducible refine wpList_load_any rfl 30 (.tmp 4) rfl w.heap.size 0 rfl (rC y fm (.slice ao len c)) _ HR.out Try.underlying30 rfl HI.out ?_)
      | ((with_reducible refine wpList_store_blk (w3.setCell ⟨w.heap.size, 5, none⟩ (.int .i64 (-1))) rfl 30 (.tmp 8) (.tmp 30) rfl w2.heap.size 30 rZ (rC y fm (.slice ao len c)) HB8.out rfl rfl HL.out HI.out HO.out ?_); intro w4 hb hc hs; have H4 := Lib.hid (And.intro hb hc); clear hb hc hs))
    refine bodyPost_ret (results_cellTmp Try.results49 _ _ w2.heap.size _ _ rfl H4.out.1 _ Try.underlying30 rfl HI.out _ rfl) rfl ⟨rfl, ?_⟩
    exact below_ch (below_ch HB3.out.2.2.1 (Ch.set w3 ⟨w.heap.size, 5, none⟩ (.int .i64 (-1))) (Nat.le_refl _) (fun k hk => by have : k = w.heap.size := hk; omega)) H4.out.2 (Nat.le_refl _) (fun k hk => by have : k = w2.heap.size := hk; have := HB3.out.2.2.2; omega)

end Go.Proofs.Yticcjaccpcnjhaa
