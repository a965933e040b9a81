/-
  Package sha: Pad and Sum, walked. Conditions: bytes, no more than a slice can hold.
-/
import Derived.Test.YtkbhehnpgnilmaaKit
import Derived.Test.YtkbhehnpgnilmaaApp
import Derived.Test.YtkbhehnpgnilmaaShaC
namespace Go.Proofs.Ytkbhehnpgnilmaa
open Go Go.RowKit

/-- a new row of the call's own that reads as these bytes -/
def NewSl (w : World) (out : List Int) (e : Ending) (w' : World) : Prop := ∃ ao c, e = .returned (.slice ao out.length c) ∧ Sl w' (.slice ao out.length c) (ofK .u8 out) ∧ (∀ k, (Value.slice ao out.length c).ownBlock = some k → w.heap.size ≤ k) ∧ Below w.heap.size w w'

set_option maxRecDepth 100000 in
set_option maxHeartbeats 1000000 in
theorem pad_any (v : Value) (bv : List Int) (w : World) (hs : Sl w v (ofK .u8 bv)) (hl : bv.length ≤ 140737488351000) :
    Calls Try.prog 33 #[v] w (fun e w' => ∃ ao c n, e = .returned (.slice ao n c) ∧ n = (padL bv).length ∧ w'.ownsRow w.heap.size 5 1 (.slice ao n c) n (ofK .u8 (padL bv)) ∧ Below w.heap.size w w') := by
  obtain ⟨i0, hi, hz0, hz1, hz2⟩ := info_parts Try.info5
  obtain ⟨ao, c, rfl, hlc, hcm, -⟩ := hs.nums
  obtain ⟨n, hn⟩ : ∃ n, n = bv.length := ⟨_, rfl⟩
  have hn0 : n ≤ 140737488351000 := by omega
  have hs0 := hs
  rw [← hn] at hs0 hlc
  have HS := Lib.hid hs0
  have hmk := fun w => run_make_rep (P := Try.prog) 33 5 i0 (.int .u8 0) Try.underlying33 hi hz0 hz1 rfl .i64 .i64 (n : Int) ((n : Int) + 72) n (n + 72) rfl (by omega) (by omega) (by rw [hz2]; omega) (by omega) w
  obtain ⟨Z, hZ⟩ : ∃ Z, Z = List.replicate (n + 72) (Value.int .u8 0) := ⟨_, rfl⟩
  rw [← hZ] at hmk
  have HZ := Lib.hid hZ
  have HN := Lib.hid hn
  rw [← hn]
  clear hZ hs hs0 hl hn
  go_enter Try.func33, Try.ntmps33
  have HS1 := Lib.hid (HS.out.below (((Below.refl _ w).alloc (Nat.le_refl _) (.cells Z.toArray 5))) (Nat.le_refl _))
  have HB1 := Lib.hid (Blk.new w Z 5)
  obtain ⟨X, hX⟩ : ∃ X, X = ofK .u8 bv := ⟨_, rfl⟩
  have hXl : X.length = n := by rw [hX, length_ofK, HN.out]
  have HX := Lib.hid hX
  have hX1 : ∀ u ∈ X, u.oneCell' = true := by rw [hX]; exact one_ofK _ _
  rw [← hX] at HS1
  have HXl := Lib.hid hXl
  have hZl : Z.length = n + 72 := by rw [HZ.out]; exact List.length_replicate
  have HZl := Lib.hid hZl
  clear hX hXl hZl
  go_wp2_with (with_reducible refine wpList_copy_blk _ rfl (.tmp 10) (.tmp 11) 33 33 rfl 5 Try.underlying33 Try.size5 w.heap.size 0 n (n + 72) rfl (.slice ao n c) rfl X HS1.out Z _ HB1.out ?_ ?_ hX1 ?_)
  · rw [HXl.out, HZl.out]; omega
  · rw [HXl.out]; omega
  · intro w2 hblk hch
    have hown := hblk.owns_take (base := w.heap.size) (Nat.le_refl _) (by rw [length_splice _ _ _ (by rw [HXl.out, HZl.out]; omega), HZl.out]; unfold maxLen; omega) n (n + 72) (by omega) (by rw [length_splice _ _ _ (by rw [HXl.out, HZl.out]; omega), HZl.out])
    have e1 : (splice Z 0 X).take n = X := by
      unfold splice; rw [List.take_zero, List.nil_append, ← HXl.out, List.take_left]
    rw [e1] at hown
    have HO := Lib.hid hown
    have HW := Lib.hid (below_ch ((Below.refl _ w).alloc (Nat.le_refl _) (.cells Z.toArray 5)) hch (Nat.le_refl _) (fun k h => by have h2 : k = w.heap.size := h; omega))
    have hlt := hblk.lt
    clear hown e1 hblk hch HS1 HB1 hmk
    obtain ⟨m, hm⟩ : ∃ m, m = (119 - n % 64) % 64 := ⟨_, rfl⟩
    have hm1 : (119 - (n : Int)) % 64 = (m : Int) := by omega
    have hm2 : n + 1 + m ≤ n + 72 := by omega
    have hm3 : m ≤ 63 := by omega
    have HM := Lib.hid hm
    clear hm
    go_wp2_with (first
      | (at_builtin; refine wpList_append_room _ rfl _ _ 33 rfl w.heap.size 5 i0 Try.underlying33 hi hz1 w.heap.size n (n + 72) X rfl (by exact HO.out.alloc _) ⟨w2.heap.size, 0, none⟩ 1 1 [.int .u8 128] rfl rfl (cell_one_new _ _ _) (by simp [Value.oneCell']) (by omega) ?_; intro w3 hown3 hch3)
      | (at_builtin; (refine wpList_zeros_room _ rfl _ _ 33 3 rfl w.heap.size 5 i0 (.int .u8 0) .i64 .i64 Try.underlying33 Try.underlying3 hi hz0 hz1 rfl rfl w.heap.size (n + 1) (n + 72) m ((119 - (n : Int) % 64) % 64) (by omega) _ rfl (by assumption) rfl (by omega) (by rw [hz2]; omega) hm2 ?_; intro w4 hown4 hch4)))
    have HO4 := Lib.hid hown4
    have HW4 := Lib.hid (below_ch (below_ch (HW.out.alloc HW.out.size (.cells #[.int .u8 128] 5)) hch3 (Nat.le_refl _) (fun k h => by have h2 : k = w.heap.size := h; omega)) hch4 (Nat.le_refl _) (fun k h => by have h2 : k = w.heap.size := h; omega))
    have hln : (bv ++ 128 :: List.replicate m 0).length = n + 1 + m := by simp [← HN.out]; omega
    have hpl : (padL bv) = (bv ++ 128 :: List.replicate m 0) ++ beF (8 * (n : Int)) 8 := by
      unfold padL; rw [← HN.out, ← HM.out]; simp
    have HP := Lib.hid hpl
    have HS4 := Lib.hid (show Sl w4 (.slice (some ⟨w.heap.size, 0, none⟩) (n + 1 + m) (n + 72)) (ofK .u8 (bv ++ 128 :: List.replicate m 0)) by
      have h1 := Sl.of_owns HO4.out
      rw [show X ++ [Value.int .u8 128] ++ List.replicate m (Value.int .u8 0) = ofK .u8 (bv ++ 128 :: List.replicate m 0) by rw [HX.out]; simp [ofK]] at h1
      exact h1)
    have HL := Lib.hid hln
    clear hown3 hown4 hch3 hch4 hln hpl HO HW HO4
    refine (put64_of _ (bv ++ 128 :: List.replicate m 0) (8 * (n : Int)) (padL bv) (n + 1 + m + 8) w4 HS4.out (by rw [HL.out]; omega) (by omega) (by rw [HL.out]) HP.out.symm).mono ?_
    rintro e w5 ⟨ao5, c5, rfl, hown5, hbel5⟩
    have HF := Lib.hid (And.intro (ownsRow_base hown5 HW4.out.size) (below_thn HW4.out hbel5 (Nat.le_refl _)))
    clear hown5 hbel5
    go_wp2_with fail
    go_ret
    exact ⟨ao5, c5, _, rfl, by rw [HP.out, List.length_append, HL.out, beF_length], HF.out.1, HF.out.2⟩

end Go.Proofs.Ytkbhehnpgnilmaa
