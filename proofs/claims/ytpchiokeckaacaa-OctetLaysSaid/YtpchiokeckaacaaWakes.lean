/-
  The probe that each statement of layer 1 begins with answers true, and changes nothing that was there. Conditions: none.
-/
import Derived.Test.YtpchiokeckaacaaPut
import Derived.Test.YtpchiokeckaacaaFrame
namespace Go.Proofs.Ytpchiokeckaacaa
open Go Go.RowKit

set_option maxRecDepth 100000 in
set_option maxHeartbeats 200000 in
theorem wakes_any (w : World) : Calls Try.prog 8 #[] w (TrueP w) := by
  go_enter Try.func8, Try.ntmps8
  go_wp2_with fail
  refine (read_any _ [0, 1, 2, 3, 4] _ (sl_new _ _ _ _ _ 5 rfl rfl (by omega)) (by simp)).mono ?_
  rintro e w1 ⟨b, r, rfl, hb1, hb2, hr1, hr2, hrd, hbel⟩
  have B1 : Below w.heap.size w w1 := below_thn ((Below.refl _ w).alloc (Nat.le_refl _) _) hbel (Nat.le_refl _)
  simp only [World.size_alloc] at hb1 hr1
  clear hbel
  go_wp2_with fail
  refine (u8_of b r [0, 1, 2, 3, 4] 0 w1 0 [1, 2, 3, 4] 0 hrd hr2 (allB_of (by decide)) (by decide) (by decide) (by decide)).mono ?_
  rintro e w2 ⟨rfl, hrd2, hch2⟩
  have s2 := hch2.size
  have B2 := below_ch B1 hch2 (Nat.le_refl _) (fun k hk => by omega)
  clear hrd hch2 B1
  go_wp2_with fail
  refine (u32_of b r [1, 2, 3, 4] 0 w2 16909060 [] 0 hrd2 (by omega) (allB_of (by decide)) (by decide) (by decide) (by decide)).mono ?_
  rintro e w3 ⟨rfl, hrd3, hch3⟩
  have s3 := hch3.size
  have B3 := below_ch B2 hch3 (Nat.le_refl _) (fun k hk => by omega)
  clear hrd2 hch3 B2
  go_wp2_with fail
  refine (left_any b r [] 0 w3 hrd3).mono ?_
  rintro e w4 ⟨rfl, rfl⟩
  go_wp2_with fail
  refine (err_any b r [] 0 w3 hrd3).mono ?_
  rintro e w4 ⟨rfl, rfl⟩
  go_wp2_with fail
  refine (u8_of b r [] 0 w3 0 [] 7 hrd3 (by omega) (allB_of (by decide)) (by decide) (by decide) (by decide)).mono ?_
  rintro e w4 ⟨rfl, hrd4, hch4⟩
  have s4 := hch4.size
  have B4 := below_ch B3 hch4 (Nat.le_refl _) (fun k hk => by omega)
  clear hrd3 hch4 B3
  go_wp2_with fail
  refine (err_any b r [] 7 w4 hrd4).mono ?_
  rintro e w5 ⟨rfl, rfl⟩
  go_wp2_with fail
  refine (put32_of _ [9] 1 [9, 0, 0, 0, 1] 5 _ (sl_new _ _ _ _ _ 1 rfl rfl (by omega)) (by simp) (by omega) rfl (by decide)).mono ?_
  rintro e w5 ⟨ao, c, rfl, hown, hbel⟩
  have B5 : Below w.heap.size w w5 := below_thn (B4.alloc (by have := B4.size; omega) _) hbel (Nat.le_refl _)
  have s5 := B5.size
  clear hbel hrd4
  go_wp2_with fail
  refine (equal_of _ _ [9, 0, 0, 0, 1] [9, 0, 0, 0, 1] _ true ((Sl.of_owns hown).below ((Below.refl _ _).alloc (Nat.le_refl _) _) (Nat.le_refl _)) (sl_new _ _ _ _ _ 5 rfl rfl (by omega)) (allB_of (by decide)) (allB_of (by decide)) (by decide)).mono ?_
  rintro e w6 ⟨rfl, rfl⟩
  clear hown
  go_wp2_with fail
  refine (equal_of _ _ [0] [] _ false (by exact sl_at _ _ (by simp) _ _ _ _ 1 rfl rfl (by omega)) (Sl.nil _) (allB_of (by decide)) (allB_of (by decide)) (by decide)).mono ?_
  rintro e w6 ⟨rfl, rfl⟩
  go_wp2_with fail
  refine (zero_of _ [0, 1] _ false (by exact sl_at _ _ (by simp) _ _ _ _ 2 rfl rfl (by omega)) (by decide)).mono ?_
  rintro e w6 ⟨rfl, rfl⟩
  go_wp2_with fail
  refine (zero_of _ [] _ true (Sl.nil _) (by decide)).mono ?_
  rintro e w6 ⟨rfl, rfl⟩
  go_wp2
  go_ret
  exact ⟨rfl, ((B5.alloc s5 _).alloc (by simp; omega) _).alloc (by simp; omega) _⟩
end Go.Proofs.Ytpchiokeckaacaa
