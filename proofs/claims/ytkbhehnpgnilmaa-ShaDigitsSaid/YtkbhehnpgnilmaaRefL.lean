/-
  The reference's Less, walked. Conditions: digests of 32 bytes.
-/
import Derived.Test.YtkbhehnpgnilmaaShaL
namespace Go.Proofs.Ytkbhehnpgnilmaa
open Go Go.RowKit

set_option maxRecDepth 100000 in
set_option maxHeartbeats 1000000 in
theorem rless_any (av bv : List Int) (w : World) (ha : av.length = 32) (hb : bv.length = 32) :
    Calls Try.prog 30 #[.agg (ofK .u8 av).toArray, .agg (ofK .u8 bv).toArray] w (fun e w' => e = .returned (.bool (lessL av bv)) ∧ Below w.heap.size w w') := by
  have H := Lib.hid (And.intro ha hb)
  clear ha hb
  go_enter Try.func30, Try.ntmps30
  go_upto_region 1 with fail
  have HA := Lib.hid (show Blk ((w.alloc (.cells (ofK .u8 av).toArray 23)).alloc (.cells (ofK .u8 bv).toArray 23)) w.heap.size 23 (ofK .u8 av) from (Blk.new _ _ _).alloc _)
  have HB := Lib.hid (show Blk ((w.alloc (.cells (ofK .u8 av).toArray 23)).alloc (.cells (ofK .u8 bv).toArray 23)) (w.heap.size + 1) 23 (ofK .u8 bv) from by
    have := Blk.new (w.alloc (.cells (ofK .u8 av).toArray 23)) (ofK .u8 bv) 23
    rwa [World.size_alloc] at this)
  have HW := Lib.hid (show Below w.heap.size w ((w.alloc (.cells (ofK .u8 av).toArray 23)).alloc (.cells (ofK .u8 bv).toArray 23)) from ((Below.refl _ w).alloc (Nat.le_refl _) _).alloc (by simp) _)
  generalize (w.alloc (.cells (ofK .u8 av).toArray 23)).alloc (.cells (ofK .u8 bv).toArray 23) = w1 at HA HB HW ⊢
  go_wp2_with fail
  go_loopw [5] (fun i wr => ∃ k : Nat, k ≤ 31 ∧ i = .int .i64 k ∧ Hid (av.take k = bv.take k) ∧ Hid (Sm w1 wr)) (fun i _ => 32 - (intOf i).toNat)
  case atStart => exact ⟨0, by omega, rfl, Lib.hid rfl, Lib.hid (Sm.refl _)⟩
  case round =>
    obtain ⟨k, hk, rfl, HT, HS⟩ := hrel
    have hlt : k < 32 := by omega
    obtain ⟨x, hx⟩ : ∃ x, av[k]'(by rw [H.out.1]; exact hlt) = x := ⟨_, rfl⟩
    obtain ⟨y, hy⟩ : ∃ x, bv[k]'(by rw [H.out.2]; exact hlt) = x := ⟨_, rfl⟩
    have hcx : wr.cell? ⟨w.heap.size, k, none⟩ = some (.int .u8 x) := by rw [HS.out.cell, HA.out.cell, get_ofK _ _ _ (by rw [H.out.1]; exact hlt), hx]
    have hcy : wr.cell? ⟨w.heap.size + 1, k, none⟩ = some (.int .u8 y) := by rw [HS.out.cell, HB.out.cell, get_ofK _ _ _ (by rw [H.out.2]; exact hlt), hy]
    have HX := Lib.hid (And.intro hx hy)
    have hb0 : (0 : Int) ≤ (k : Int) := by omega
    have hb1 : (k : Int) < 32 := by omega
    have HR : ∀ b, (k = 31 ∨ (x == y) = false) → decide (x < y) = b → lessL av bv = b := fun b h hxy => by
      rcases h with h | h
      · by_cases he : x = y
        · have := take_more (by rw [H.out.1]; exact hlt) (by rw [H.out.2]; exact hlt) HT.out (by rw [HX.out.1, HX.out.2]; exact he)
          rw [List.take_of_length_le (by rw [H.out.1]; omega), List.take_of_length_le (by rw [H.out.2]; omega)] at this
          rw [this, lessL_same, ← hxy, he]; simp
        · rw [lessL_at av bv k (by rw [H.out.1]; exact hlt) (by rw [H.out.2]; exact hlt) HT.out (by rw [HX.out.1, HX.out.2]; exact he), HX.out.1, HX.out.2, hxy]
      · have he : x ≠ y := by simpa using h
        rw [lessL_at av bv k (by rw [H.out.1]; exact hlt) (by rw [H.out.2]; exact hlt) HT.out (by rw [HX.out.1, HX.out.2]; exact he), HX.out.1, HX.out.2, hxy]
    have HRH := Lib.hid HR
    clear HR hx hy
    by_cases h31 : k = 31
    · subst h31
      have HL := Lib.hid (HRH.out _ (.inl rfl) rfl)
      clear HRH HT
      go_wp2_with fail
      go_quiet (fail)
      go_wp2_with fail
      go_quiet (fail)
      go_wp2_with fail
      go_ret
      exact ⟨by rw [HL.out]; rfl, HW.out.trans (((HS.out.drewN _).drewN _).below _)⟩
    · have d1 : (k : Int) < 31 := by omega
      have hwr : IntKind.i64.wrap ((k : Int) + 1) = (k : Int) + 1 := IntWalk.i64_in _ (by omega)
      by_cases he : x = y
      · subst he
        have HT2 := Lib.hid (take_more (by rw [H.out.1]; exact hlt) (by rw [H.out.2]; exact hlt) HT.out (HX.out.1.trans HX.out.2.symm))
        clear HRH HT HX
        go_wp2_with fail
        go_quiet (fail)
        go_wp2_with fail
        go_roundw
        case rel => exact ⟨k + 1, by omega, by go_num, HT2, Lib.hid (HS.out.drewN _)⟩
        case measure => simp [intOf]; omega
      · have hbe : (x == y) = false := by simpa using he
        have HL := Lib.hid (HRH.out _ (.inr hbe) rfl)
        clear HRH HT HX he
        go_wp2_with fail
        go_quiet (fail)
        go_wp2_with fail
        go_quiet (fail)
        go_wp2_with fail
        go_ret
        exact ⟨by rw [HL.out]; rfl, HW.out.trans (((HS.out.drewN _).drewN _).below _)⟩

end Go.Proofs.Ytkbhehnpgnilmaa
