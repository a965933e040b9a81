/-
  The reference's Constants and Start, walked: by the roots. Conditions: none.
-/
import Derived.Test.YtkbhehnpgnilmaaRootD
import Derived.Test.YtkbhehnpgnilmaaRefX
namespace Go.Proofs.Ytkbhehnpgnilmaa
open Go Go.RowKit

theorem constants_table : ∀ i : Fin 64, P64.getD i.val 0 < 512 ∧ dF (P64.getD i.val 0 * 4294967296 * 18446744073709551616) true 37 % 4294967296 = K64.getD i.val 0 := by decide +kernel

theorem start_table : ∀ i : Fin 8, P64.getD i.val 0 < 512 ∧ dF (P64.getD i.val 0 * 18446744073709551616) false 37 % 4294967296 = H8.getD i.val 0 := by decide +kernel

/-- a row of numbers, filled from the front -/
def upTo (xs : List Nat) (k : Nat) : List Nat := (List.range xs.length).map fun j => if j < k then xs.getD j 0 else 0

theorem upTo_length (xs : List Nat) (k : Nat) : (upTo xs k).length = xs.length := by simp [upTo]

theorem upTo_zero (xs : List Nat) : upTo xs 0 = List.replicate xs.length 0 := by
  apply List.ext_getElem
  · simp [upTo]
  · intro i h1 h2; rw [List.getElem_replicate]; simp [upTo]

theorem upTo_all (xs : List Nat) : upTo xs xs.length = xs := by
  apply List.ext_getElem
  · simp [upTo]
  · intro i h1 h2
    simp only [upTo, List.getElem_map, List.getElem_range]
    rw [if_pos h2, List.getD_eq_getElem?_getD, List.getElem?_eq_getElem h2]; rfl

theorem upTo_set (xs : List Nat) (k : Nat) : (upTo xs k).set k (xs.getD k 0) = upTo xs (k + 1) := by
  unfold upTo
  apply List.ext_getElem
  · simp
  · intro i h1 h2
    simp only [List.getElem_set, List.getElem_map, List.getElem_range]
    by_cases e : k = i
    · subst e; simp
    · rw [if_neg e]
      by_cases h3 : i < k
      · rw [if_pos h3, if_pos (by omega)]
      · rw [if_neg h3, if_neg (by omega)]

set_option maxRecDepth 100000 in
set_option maxHeartbeats 2000000 in
theorem rconstants_any (w : World) : Calls Try.prog 47 #[] w (fun e w' => e = .returned (.agg (ofN K64).toArray) ∧ Below w.heap.size w w') := by
  obtain ⟨Z, hZ⟩ : ∃ Z, Z = List.replicate 64 0 := ⟨_, rfl⟩
  have HZ := Lib.hid hZ
  obtain ⟨L, hL⟩ : ∃ L, L = K64 := ⟨_, rfl⟩
  have HL := Lib.hid (And.intro hL (show L.length = 64 by rw [hL]; decide))
  have HT := Lib.hid constants_table
  have HB := Lib.hid (show Blk ((w.alloc (.cells (ofN Z).toArray 46)).alloc (.cells (ofN Z).toArray 46)) w.heap.size 46 (ofN Z) ∧ Blk ((w.alloc (.cells (ofN Z).toArray 46)).alloc (.cells (ofN Z).toArray 46)) (w.heap.size + 1) 46 (ofN Z) ∧
      Below w.heap.size w ((w.alloc (.cells (ofN Z).toArray 46)).alloc (.cells (ofN Z).toArray 46)) from by
    have h1 := Blk.new w (ofN Z) 46
    have h2 := Blk.new (w.alloc (.cells (ofN Z).toArray 46)) (ofN Z) 46
    rw [World.size_alloc] at h2
    exact ⟨h1.alloc _, h2, (((Below.refl _ w).alloc (Nat.le_refl _) _).alloc (by simp) _)⟩)
  rw [HZ.out] at HB
  have HI := Lib.hid (show ∀ xs : List Nat, xs.length = 64 → (Try.prog.info? 46).map (·.size) = some (ofN xs).length from fun xs hx => by rw [ofN_length, hx]; kernel_rfl)
  have HO := Lib.hid (show upTo L 0 = List.replicate 64 0 by rw [upTo_zero, HL.out.2])
  rw [← hL]
  clear hZ hL
  go_enter Try.func47, Try.ntmps47
  go_wp2_with fail
  go_loopw [3] (fun i wr => ∃ k : Nat, k ≤ 64 ∧ i = .int .i64 k ∧ Hid (Blk wr w.heap.size 46 (ofN (List.replicate 64 0))) ∧ Hid (Blk wr (w.heap.size + 1) 46 (ofN (upTo L k))) ∧ Hid (Below w.heap.size w wr)) (fun i _ => 64 - (intOf i).toNat)
  case atStart => exact ⟨0, by omega, rfl, Lib.hid HB.out.1, Lib.hid (by rw [HO.out]; exact HB.out.2.1), Lib.hid HB.out.2.2⟩
  case round =>
    clear HB HO
    obtain ⟨k, hk, rfl, HR, HD, HW⟩ := hrel
    by_cases hlt : k < 64
    · have hkl : k < (upTo L k).length := by rw [upTo_length, HL.out.2]; exact hlt
      obtain ⟨p, hp⟩ : ∃ p, p = P64.getD k 0 := ⟨_, rfl⟩
      obtain ⟨y, hy⟩ : ∃ p, p = L.getD k 0 := ⟨_, rfl⟩
      have ht := HT.out ⟨k, hlt⟩
      rw [← HL.out.1] at ht
      have hpl : p < 512 := by rw [hp]; exact ht.1
      have hyy : dF (p * 4294967296 * 18446744073709551616) true 37 % 4294967296 = y := by rw [hp, hy]; exact ht.2
      have HP := Lib.hid (And.intro hp.symm (And.intro hpl hyy))
      have HSET := Lib.hid (show (upTo L k).set k y = upTo L (k + 1) by rw [hy]; exact upTo_set L k)
      have hcell := cell_ofN HD.out k hkl
      have hfree := HD.out.free k
      have hk64 : k < 64 := by omega
      clear hp hy ht hpl hyy
      go_wp2_with fail
      refine (prime_any k p _ hk64 HP.out.1).mono ?_
      rintro e w2 ⟨rfl, hw2⟩
      rw [hw2]
      clear hw2 w2
      go_wp2_with fail
      refine (digits_any p y true _ _ HP.out.2.1 rfl HP.out.2.2).mono ?_
      rintro e w2 ⟨rfl, hw2⟩
      rw [hw2]
      clear hw2 w2
      go_wp2_with fail
      go_roundw
      case rel => exact ⟨k + 1, by omega, by go_num, Lib.hid (HR.out.keep (Ch.set _ _ _) (fun h => by have h2 : w.heap.size = w.heap.size + 1 := h; omega)), Lib.hid (by
        have := HD.out.set k (.int .u32 (y : Int))
        rw [ofN_set, HSET.out] at this
        exact this), Lib.hid (below_ch HW.out (Ch.set _ _ _) (Nat.le_refl _) (fun k h => by have h2 : k = w.heap.size + 1 := h; omega))⟩
      case measure => simp [intOf]; omega
    · obtain rfl : k = 64 := by omega
      have HF := Lib.hid (show upTo L 64 = L by rw [← HL.out.2]; exact upTo_all L)
      rw [HF.out] at HD
      have HI1 := Lib.hid (HI.out L HL.out.2)
      have HL1 := Lib.hid (show (ofN L).length = (ofN (List.replicate 64 0)).length by rw [ofN_length, ofN_length, HL.out.2, List.length_replicate])
      go_wp2_with (first
        | (refine wpList_load_blk _ rfl 46 (.tmp 1) rfl (w.heap.size + 1) 46 (ofN L) HD.out rfl _ Try.underlying46 rfl HI1.out ?_)
        | (refine wpList_store_blk _ rfl 46 (.tmp 0) (.tmp 12) rfl w.heap.size 46 (ofN (List.replicate 64 0)) (ofN L) HR.out rfl rfl HL1.out HI1.out (one_ofN _) ?_; intro w7 hb7 hch7 hsz7))
      have HW7 := below_ch HW.out hch7 (Nat.le_refl _) (fun k h => by have h2 : k = w.heap.size := h; omega)
      refine bodyPost_ret (v := .agg (ofN L).toArray) ?_ rfl ⟨rfl, HW7⟩
      exact results_blk Try.results47 _ _ w.heap.size _ _ rfl hb7 _ Try.underlying46 rfl HI1.out

set_option maxRecDepth 100000 in
set_option maxHeartbeats 2000000 in
theorem rstart_any (w : World) : Calls Try.prog 43 #[] w (fun e w' => e = .returned (.agg (ofN H8).toArray) ∧ Below w.heap.size w w') := by
  obtain ⟨Z, hZ⟩ : ∃ Z, Z = List.replicate 8 0 := ⟨_, rfl⟩
  have HZ := Lib.hid hZ
  obtain ⟨L, hL⟩ : ∃ L, L = H8 := ⟨_, rfl⟩
  have HL := Lib.hid (And.intro hL (show L.length = 8 by rw [hL]; decide))
  have HT := Lib.hid start_table
  have HB := Lib.hid (show Blk ((w.alloc (.cells (ofN Z).toArray 42)).alloc (.cells (ofN Z).toArray 42)) w.heap.size 42 (ofN Z) ∧ Blk ((w.alloc (.cells (ofN Z).toArray 42)).alloc (.cells (ofN Z).toArray 42)) (w.heap.size + 1) 42 (ofN Z) ∧
      Below w.heap.size w ((w.alloc (.cells (ofN Z).toArray 42)).alloc (.cells (ofN Z).toArray 42)) from by
    have h1 := Blk.new w (ofN Z) 42
    have h2 := Blk.new (w.alloc (.cells (ofN Z).toArray 42)) (ofN Z) 42
    rw [World.size_alloc] at h2
    exact ⟨h1.alloc _, h2, (((Below.refl _ w).alloc (Nat.le_refl _) _).alloc (by simp) _)⟩)
  rw [HZ.out] at HB
  have HI := Lib.hid (show ∀ xs : List Nat, xs.length = 8 → (Try.prog.info? 42).map (·.size) = some (ofN xs).length from fun xs hx => by rw [ofN_length, hx]; kernel_rfl)
  have HO := Lib.hid (show upTo L 0 = List.replicate 8 0 by rw [upTo_zero, HL.out.2])
  rw [← hL]
  clear hZ hL
  go_enter Try.func43, Try.ntmps43
  go_wp2_with fail
  go_loopw [3] (fun i wr => ∃ k : Nat, k ≤ 8 ∧ i = .int .i64 k ∧ Hid (Blk wr w.heap.size 42 (ofN (List.replicate 8 0))) ∧ Hid (Blk wr (w.heap.size + 1) 42 (ofN (upTo L k))) ∧ Hid (Below w.heap.size w wr)) (fun i _ => 8 - (intOf i).toNat)
  case atStart => exact ⟨0, by omega, rfl, Lib.hid HB.out.1, Lib.hid (by rw [HO.out]; exact HB.out.2.1), Lib.hid HB.out.2.2⟩
  case round =>
    clear HB HO
    obtain ⟨k, hk, rfl, HR, HD, HW⟩ := hrel
    by_cases hlt : k < 8
    · have hkl : k < (upTo L k).length := by rw [upTo_length, HL.out.2]; exact hlt
      obtain ⟨p, hp⟩ : ∃ p, p = P64.getD k 0 := ⟨_, rfl⟩
      obtain ⟨y, hy⟩ : ∃ p, p = L.getD k 0 := ⟨_, rfl⟩
      have ht := HT.out ⟨k, hlt⟩
      rw [← HL.out.1] at ht
      have hpl : p < 512 := by rw [hp]; exact ht.1
      have hyy : dF (p * 18446744073709551616) false 37 % 4294967296 = y := by rw [hp, hy]; exact ht.2
      have HP := Lib.hid (And.intro hp.symm (And.intro hpl hyy))
      have HSET := Lib.hid (show (upTo L k).set k y = upTo L (k + 1) by rw [hy]; exact upTo_set L k)
      have hcell := cell_ofN HD.out k hkl
      have hfree := HD.out.free k
      have hk64 : k < 64 := by omega
      clear hp hy ht hpl hyy
      go_wp2_with fail
      refine (prime_any k p _ hk64 HP.out.1).mono ?_
      rintro e w2 ⟨rfl, hw2⟩
      rw [hw2]
      clear hw2 w2
      go_wp2_with fail
      refine (digits_any p y false _ _ HP.out.2.1 rfl HP.out.2.2).mono ?_
      rintro e w2 ⟨rfl, hw2⟩
      rw [hw2]
      clear hw2 w2
      go_wp2_with fail
      go_roundw
      case rel => exact ⟨k + 1, by omega, by go_num, Lib.hid (HR.out.keep (Ch.set _ _ _) (fun h => by have h2 : w.heap.size = w.heap.size + 1 := h; omega)), Lib.hid (by
        have := HD.out.set k (.int .u32 (y : Int))
        rw [ofN_set, HSET.out] at this
        exact this), Lib.hid (below_ch HW.out (Ch.set _ _ _) (Nat.le_refl _) (fun k h => by have h2 : k = w.heap.size + 1 := h; omega))⟩
      case measure => simp [intOf]; omega
    · obtain rfl : k = 8 := by omega
      have HF := Lib.hid (show upTo L 8 = L by rw [← HL.out.2]; exact upTo_all L)
      rw [HF.out] at HD
      have HI1 := Lib.hid (HI.out L HL.out.2)
      have HL1 := Lib.hid (show (ofN L).length = (ofN (List.replicate 8 0)).length by rw [ofN_length, ofN_length, HL.out.2, List.length_replicate])
      go_wp2_with (first
        | (refine wpList_load_blk _ rfl 42 (.tmp 1) rfl (w.heap.size + 1) 42 (ofN L) HD.out rfl _ Try.underlying42 rfl HI1.out ?_)
        | (refine wpList_store_blk _ rfl 42 (.tmp 0) (.tmp 12) rfl w.heap.size 42 (ofN (List.replicate 8 0)) (ofN L) HR.out rfl rfl HL1.out HI1.out (one_ofN _) ?_; intro w7 hb7 hch7 hsz7))
      have HW7 := below_ch HW.out hch7 (Nat.le_refl _) (fun k h => by have h2 : k = w.heap.size := h; omega)
      refine bodyPost_ret (v := .agg (ofN L).toArray) ?_ rfl ⟨rfl, HW7⟩
      exact results_blk Try.results43 _ _ w.heap.size _ _ rfl hb7 _ Try.underlying42 rfl HI1.out

end Go.Proofs.Ytkbhehnpgnilmaa
