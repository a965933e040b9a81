/-
  The reference's Digest, walked. Conditions: at most 700 bytes.
-/
import Derived.Test.YtkbhehnpgnilmaaRefS
import Derived.Test.YtkbhehnpgnilmaaShaF
namespace Go.Proofs.Ytkbhehnpgnilmaa
open Go Go.RowKit

set_option maxRecDepth 100000 in
set_option maxHeartbeats 2000000 in
theorem rdigest_any (v : Value) (bv : List Int) (w : World) (hs : Sl w v (ofK .u8 bv)) (hl : bv.length ≤ 700) (ha : AllB bv) :
    Calls Try.prog 34 #[v] w (fun e w' => e = .returned (.agg (ofK .u8 (sumL bv)).toArray) ∧ Below w.heap.size w w') := by
  obtain ⟨ao, c, rfl, -⟩ := hs.nums
  have H := Lib.hid (And.intro hs (And.intro hl ha))
  obtain ⟨Z, hZ⟩ : ∃ Z, Z = List.replicate 32 (0 : Int) := ⟨_, rfl⟩
  have HZ := Lib.hid hZ
  have HB := Lib.hid (And.intro (Blk.new w (ofK .u8 Z) 23) ((Below.refl _ w).alloc (Nat.le_refl _) (.cells (ofK .u8 Z).toArray 23)))
  rw [HZ.out] at HB
  clear hs hl ha hZ
  go_enter Try.func34, Try.ntmps34
  go_wp2_with fail
  refine (rwritten_any _).mono ?_
  rintro e w2 ⟨rfl, hbel⟩
  have HW2 := Lib.hid (And.intro (HB.out.1.below hbel HB.out.1.lt) (below_thn HB.out.2 hbel (Nat.le_refl _)))
  clear hbel HB
  go_wp2_with fail
  refine (rsum_any _ bv K64 H8 _ (H.out.1.below HW2.out.2 (Nat.le_refl _)) H.out.2.1 H.out.2.2 rfl rfl).mono ?_
  rintro e w3 ⟨rfl, hbel⟩
  have HW3 := Lib.hid (And.intro (HW2.out.1.below hbel HW2.out.1.lt) (below_thn HW2.out.2 hbel (Nat.le_refl _)))
  have hsl := sumL_length H.out.2.2
  obtain ⟨Y, hY⟩ : ∃ Y, Y = sumL bv := ⟨_, rfl⟩
  rw [← hY] at hsl ⊢
  have HY := Lib.hid hY
  have HI1 := Lib.hid (show (Try.prog.info? 23).map (·.size) = some (ofK .u8 Y).length by rw [length_ofK, hsl]; kernel_rfl)
  have HL1 := Lib.hid (show (ofK .u8 Y).length = (ofK .u8 (List.replicate 32 0)).length by rw [length_ofK, length_ofK, hsl, List.length_replicate])
  clear hbel HW2 hsl hY
  go_wp2_with (refine wpList_store_blk _ rfl 23 (.tmp 2) (.tmp 6) rfl w.heap.size 23 (ofK .u8 (List.replicate 32 0)) (ofK .u8 Y) HW3.out.1 rfl rfl HL1.out HI1.out (one_ofK _ _) ?_; intro w9 hb9 hch9 hsz9)
  have HW9 := below_ch HW3.out.2 hch9 (Nat.le_refl _) (fun k h => by have h2 : k = w.heap.size := h; omega)
  refine bodyPost_ret (v := .agg (ofK .u8 Y).toArray) ?_ rfl ⟨by rw [HY.out], HW9⟩
  exact results_blk Try.results34 _ _ w.heap.size _ _ rfl hb9 _ Try.underlying23 rfl HI1.out

end Go.Proofs.Ytkbhehnpgnilmaa
