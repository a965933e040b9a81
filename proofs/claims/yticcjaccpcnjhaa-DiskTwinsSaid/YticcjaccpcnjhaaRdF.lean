/-
  The reference's disk: Ask of a disk without power, and at a sector that there is not, walked. Conditions: none.
-/
import Derived.Test.YticcjaccpcnjhaaRdE
namespace Go.Proofs.Yticcjaccpcnjhaa
open Go Go.RowKit

/-- the reference's answer that leaves the disk as it was -/
def AskSame (w : World) (x : Dk) (fm : Nat) (sv : Value) (m : Int) (e : Ending) (w' : World) : Prop := e = .returned (.tuple #[.agg (rC x fm sv).toArray, .int .i64 m]) ∧ Below w.heap.size w w'

set_option maxRecDepth 100000 in
set_option maxHeartbeats 4000000 in
theorem rask_out (x : Dk) (fm : Nat) (ao : Option Addr) (len c : Nat) (sort at_ : Int) (b : List Int) (w : World) (ho : x.out = true) :
    Calls Try.prog 49 #[.agg (rC x fm (.slice ao len c)).toArray, .int .i64 sort, .int .i64 at_, .agg (ofK .u8 b).toArray] w (AskSame w x fm (.slice ao len c) 9) := by
  have HI := Lib.hid (infoR x fm (.slice ao len c))
  have HL := Lib.hid (lenR x fm (.slice ao len c))
  have HO := Lib.hid (oneR x fm ao len c)
  go_enter Try.func49, Try.ntmps49
  go_wp2_with (first
    | (with_reducible refine wpList_box_blk w rfl 30 (.tmp 0) rfl (rC x fm (.slice ao len c)) rfl ?_; intro w1 hb1 hbel1 hsz1; have HB1 := Lib.hid (And.intro hb1 (And.intro hbel1 hsz1)); clear hb1 hbel1 hsz1)
    | (with_reducible refine wpList_box_blk w1 rfl 39 (.tmp 3) rfl (ofK .u8 b) rfl ?_; intro w2 hb2 hbel2 hsz2; have HB2 := Lib.hid (And.intro (HB1.out.1.below hbel2 HB1.out.1.lt) (And.intro (below_thn HB1.out.2.1 hbel2 (Nat.le_refl _)) (show w.heap.size < w2.heap.size by have := HB1.out.2.2; omega))); clear hb2 hbel2 hsz2)
    | ((with_reducible refine wpList_alloc_blk w2 rfl 30 rfl rZ Try.zeroRd ?_); intro w3 hb hbel hsz; have hb0 := HB2.out.1.below hbel HB2.out.1.lt; have HB3 := Lib.hid (And.intro hb (And.intro hb0 (And.intro (below_thn HB2.out.2.1 hbel (Nat.le_refl _)) HB2.out.2.2))); have c3 := hb0.cell 3; simp only [rC, List.getElem?_cons_succ, List.getElem?_cons_zero, ho] at c3; have HR := Lib.hid (rangeW_blk hb0); clear hb hbel hsz hb0)
    | (with_reducible refine wpList_load_any rfl 30 (.tmp 4) rfl w.heap.size 0 rfl (rC x fm (.slice ao len c)) _ HR.out Try.underlying30 rfl HI.out ?_)
    | ((with_reducible refine wpList_store_blk w3 rfl 30 (.tmp 8) (.tmp 12) rfl w2.heap.size 30 rZ (rC x fm (.slice ao len c)) HB3.out.1 rfl rfl HL.out HI.out HO.out ?_); intro w4 hb hc hs; have H4 := Lib.hid (And.intro hb hc); clear hb hc hs))
  refine bodyPost_ret (results_cellTmp Try.results49 _ _ w2.heap.size _ _ rfl H4.out.1 _ Try.underlying30 rfl HI.out _ rfl) rfl ⟨rfl, ?_⟩
  exact below_ch HB3.out.2.2.1 H4.out.2 (Nat.le_refl _) (fun k hk => by have : k = w2.heap.size := hk; have := HB3.out.2.2.2; omega)

set_option maxRecDepth 100000 in
set_option maxHeartbeats 4000000 in
theorem rask_arg (x : Dk) (fm : Nat) (ao : Option Addr) (len c : Nat) (sort at_ : Int) (b : List Int) (w : World) (ho : x.out = false) (hs : sort ≠ 2) (hr : ¬ (0 ≤ at_ ∧ at_ < x.size)) :
    Calls Try.prog 49 #[.agg (rC x fm (.slice ao len c)).toArray, .int .i64 sort, .int .i64 at_, .agg (ofK .u8 b).toArray] w (AskSame w x fm (.slice ao len c) 2) := by
  have HI := Lib.hid (infoR x fm (.slice ao len c))
  have HL := Lib.hid (lenR x fm (.slice ao len c))
  have HO := Lib.hid (oneR x fm ao len c)
  have hs' : (sort == 2) = false := by simpa using hs
  by_cases h0 : at_ < 0
  · skip
    go_enter Try.func49, Try.ntmps49
    go_wp2_with (first
      | (with_reducible refine wpList_box_blk w rfl 30 (.tmp 0) rfl (rC x fm (.slice ao len c)) rfl ?_; intro w1 hb1 hbel1 hsz1; have HB1 := Lib.hid (And.intro hb1 (And.intro hbel1 hsz1)); clear hb1 hbel1 hsz1)
      | (with_reducible refine wpList_box_blk w1 rfl 39 (.tmp 3) rfl (ofK .u8 b) rfl ?_; intro w2 hb2 hbel2 hsz2; have HB2 := Lib.hid (And.intro (HB1.out.1.below hbel2 HB1.out.1.lt) (And.intro (below_thn HB1.out.2.1 hbel2 (Nat.le_refl _)) (show w.heap.size < w2.heap.size by have := HB1.out.2.2; omega))); clear hb2 hbel2 hsz2)
      | ((with_reducible refine wpList_alloc_blk w2 rfl 30 rfl rZ Try.zeroRd ?_); intro w3 hb hbel hsz; have hb0 := HB2.out.1.below hbel HB2.out.1.lt; have HB3 := Lib.hid (And.intro hb (And.intro hb0 (And.intro (below_thn HB2.out.2.1 hbel (Nat.le_refl _)) HB2.out.2.2))); have c3 := hb0.cell 3; simp only [rC, List.getElem?_cons_succ, List.getElem?_cons_zero, ho] at c3; have c0 := hb0.cell 0; simp only [rC, List.getElem?_cons_zero] at c0; have HR := Lib.hid (rangeW_blk hb0); clear hb hbel hsz hb0)
      | (with_reducible refine wpList_load_any rfl 30 (.tmp 4) rfl w.heap.size 0 rfl (rC x fm (.slice ao len c)) _ HR.out Try.underlying30 rfl HI.out ?_)
      | ((with_reducible refine wpList_store_blk w3 rfl 30 (.tmp 8) (.tmp 25) rfl w2.heap.size 30 rZ (rC x fm (.slice ao len c)) HB3.out.1 rfl rfl HL.out HI.out HO.out ?_); intro w4 hb hc hs; have H4 := Lib.hid (And.intro hb hc); clear hb hc hs))
    refine bodyPost_ret (results_cellTmp Try.results49 _ _ w2.heap.size _ _ rfl H4.out.1 _ Try.underlying30 rfl HI.out _ rfl) rfl ⟨rfl, ?_⟩
    exact below_ch HB3.out.2.2.1 H4.out.2 (Nat.le_refl _) (fun k hk => by have : k = w2.heap.size := hk; have := HB3.out.2.2.2; omega)
  · have h1 : x.size ≤ at_ := by omega
    go_enter Try.func49, Try.ntmps49
    go_wp2_with (first
      | (with_reducible refine wpList_box_blk w rfl 30 (.tmp 0) rfl (rC x fm (.slice ao len c)) rfl ?_; intro w1 hb1 hbel1 hsz1; have HB1 := Lib.hid (And.intro hb1 (And.intro hbel1 hsz1)); clear hb1 hbel1 hsz1)
      | (with_reducible refine wpList_box_blk w1 rfl 39 (.tmp 3) rfl (ofK .u8 b) rfl ?_; intro w2 hb2 hbel2 hsz2; have HB2 := Lib.hid (And.intro (HB1.out.1.below hbel2 HB1.out.1.lt) (And.intro (below_thn HB1.out.2.1 hbel2 (Nat.le_refl _)) (show w.heap.size < w2.heap.size by have := HB1.out.2.2; omega))); clear hb2 hbel2 hsz2)
      | ((with_reducible refine wpList_alloc_blk w2 rfl 30 rfl rZ Try.zeroRd ?_); intro w3 hb hbel hsz; have hb0 := HB2.out.1.below hbel HB2.out.1.lt; have HB3 := Lib.hid (And.intro hb (And.intro hb0 (And.intro (below_thn HB2.out.2.1 hbel (Nat.le_refl _)) HB2.out.2.2))); have c3 := hb0.cell 3; simp only [rC, List.getElem?_cons_succ, List.getElem?_cons_zero, ho] at c3; have c0 := hb0.cell 0; simp only [rC, List.getElem?_cons_zero] at c0; have HR := Lib.hid (rangeW_blk hb0); clear hb hbel hsz hb0)
      | (with_reducible refine wpList_load_any rfl 30 (.tmp 4) rfl w.heap.size 0 rfl (rC x fm (.slice ao len c)) _ HR.out Try.underlying30 rfl HI.out ?_)
      | ((with_reducible refine wpList_store_blk w3 rfl 30 (.tmp 8) (.tmp 25) rfl w2.heap.size 30 rZ (rC x fm (.slice ao len c)) HB3.out.1 rfl rfl HL.out HI.out HO.out ?_); intro w4 hb hc hs; have H4 := Lib.hid (And.intro hb hc); clear hb hc hs))
    refine bodyPost_ret (results_cellTmp Try.results49 _ _ w2.heap.size _ _ rfl H4.out.1 _ Try.underlying30 rfl HI.out _ rfl) rfl ⟨rfl, ?_⟩
    exact below_ch HB3.out.2.2.1 H4.out.2 (Nat.le_refl _) (fun k hk => by have : k = w2.heap.size := hk; have := HB3.out.2.2.2; omega)

end Go.Proofs.Yticcjaccpcnjhaa
