/-
  The law's own row; bytes.HasPrefix, bytes.HasSuffix; walked. Conditions: lengths within the form's reach.
-/
import Derived.Test.YtkbhehnpgnilmaaKit
namespace Go.Proofs.Ytkbhehnpgnilmaa
open Go Go.RowKit

set_option maxHeartbeats 1000000 in
theorem row3_any (v : Value) (xs : List Int) (n : Nat) (w : World) (h1 : Sl w v (ofK .u8 xs)) (hn : n = (xs.take 700).length) :
    Calls Try.prog 31 #[v] w (NewRow w (xs.take 700) n) := by
  obtain ⟨i0, hi, hz0, hz1, hz2⟩ := info_parts Try.info5
  obtain ⟨ao, c, rfl, a2, a3, a4⟩ := h1.nums
  rw [List.length_take] at hn
  have hn7 : n ≤ 700 := by omega
  have HO0 := Lib.hid ((Blk.new w [] 5).owns (base := w.heap.size) (Nat.le_refl _) (by simp))
  have hb1 := (Below.refl w.heap.size w).alloc (Nat.le_refl _) (.cells #[] 5)
  by_cases h : 700 < xs.length
  · obtain rfl : n = 700 := by rw [hn]; exact Nat.min_eq_left (by omega)
    have ht := h1.take 700 (by rw [length_ofK]; omega)
    rw [take_ofK] at ht
    have hs0 := ht.below hb1 (Nat.le_refl _)
    have HS0 := Lib.hid hs0
    have HL := Lib.hid (show (xs.take 700).length = 700 by rw [List.length_take]; omega)
    clear ht hs0 h1 a4 hn hb1
    go_enter Try.func31, Try.ntmps31
    go_wp2_with (at_builtin; refine wpList_append_sl _ rfl (.tmp 3) (.tmp 8) 33 rfl w.heap.size 5 i0 (.int .u8 0) 1 Try.underlying33 hi hz0 hz1 hz2 rfl (.slice (some ⟨w.heap.size, 0, none⟩) 0 0) 0 [] rfl HO0.out _ _ rfl HS0.out (one_ofK _ _) 700 ?_ ?_ ?_ ?_ ?_)
    · rw [length_ofK, HL.out]
    · unfold maxLen; omega
    · omega
    · simp
    · intro ao1 c1 w2 hown1 hgr1 _
      have hb2 : Below w.heap.size w w2 := ((Below.refl w.heap.size w).alloc (Nat.le_refl _) (.cells #[] 5)).grown hgr1 (by simp) (fun k hk => by cases hk; exact Nat.le_refl _)
      go_wp2_with fail
      go_ret
      exact ⟨_, _, rfl, hown1, hb2⟩
  · obtain rfl : n = xs.length := by rw [hn]; exact Nat.min_eq_right (by omega)
    have hs0 := h1.below hb1 (Nat.le_refl _)
    have HS0 := Lib.hid hs0
    rw [List.take_of_length_le (by omega)]
    clear hs0 h1 a4 hn hb1
    go_enter Try.func31, Try.ntmps31
    go_wp2_with (at_builtin; refine wpList_append_sl _ rfl (.tmp 3) (.tmp 8) 33 rfl w.heap.size 5 i0 (.int .u8 0) 1 Try.underlying33 hi hz0 hz1 hz2 rfl (.slice (some ⟨w.heap.size, 0, none⟩) 0 0) 0 [] rfl HO0.out _ _ rfl HS0.out (one_ofK _ _) xs.length ?_ ?_ ?_ ?_ ?_)
    · rw [length_ofK, Nat.zero_add]
    · unfold maxLen; omega
    · omega
    · simp
    · intro ao1 c1 w2 hown1 hgr1 _
      have hb2 : Below w.heap.size w w2 := ((Below.refl w.heap.size w).alloc (Nat.le_refl _) (.cells #[] 5)).grown hgr1 (by simp) (fun k hk => by cases hk; exact Nat.le_refl _)
      go_wp2_with fail
      go_ret
      exact ⟨_, _, rfl, hown1, hb2⟩

set_option maxHeartbeats 1000000 in
theorem suffix_of (v1 v2 : Value) (xs ys : List Int) (w : World) (x : Bool) (h1 : Sl w v1 (ofK .u8 xs)) (h2 : Sl w v2 (ofK .u8 ys)) (a1 : AllB xs) (a2 : AllB ys) (h0 : 0 < ys.length) (hl : xs.length ≤ 140737488351232)
    (hx : decide (ys.length ≤ xs.length ∧ xs.drop (xs.length - ys.length) = ys) = x) :
    Calls Try.prog 40 #[v1, v2] w (fun e w' => e = .returned (.bool x) ∧ w = w') := by
  obtain ⟨ao, c, rfl, b2, b3, b4⟩ := h1.nums
  obtain ⟨bo, d, rfl, c2, c3, c4⟩ := h2.nums
  by_cases hle : ys.length ≤ xs.length
  · have hd := h1.drop (xs.length - ys.length) (by rw [length_ofK]; omega)
    rw [drop_ofK, length_ofK] at hd
    have hq := bytesEqual_of _ _ (xs.drop (xs.length - ys.length)) ys w x hd h2 (fun c hc => a1 c (List.mem_of_mem_drop hc)) a2 (by rw [← hx]; simp [hle])
    have HQ := Lib.hid hq
    have hc1 : xs.length - ys.length < c := by omega
    clear hq hd h1 h2 a1 a2 hx b4 c4
    go_enter Try.func40, Try.ntmps40
    go_wp2_with fail
    refine HQ.out.mono ?_
    rintro e w' ⟨rfl, rfl⟩
    go_wp2_with fail
    go_ret
    exact ⟨rfl, rfl⟩
  · obtain rfl : x = false := by rw [← hx]; simp [hle]
    have hd : decide ((ys.length : Int) ≤ (xs.length : Int)) = false := by simp; omega
    clear h1 h2 a1 a2 hx b4 c4
    go_enter Try.func40, Try.ntmps40
    go_wp2_with fail
    go_ret
    exact ⟨rfl, rfl⟩

set_option maxHeartbeats 1000000 in
theorem prefix_of (v1 v2 : Value) (xs ys : List Int) (w : World) (x : Bool) (h1 : Sl w v1 (ofK .u8 xs)) (h2 : Sl w v2 (ofK .u8 ys)) (a1 : AllB xs) (a2 : AllB ys)
    (hx : decide (ys.length ≤ xs.length ∧ xs.take ys.length = ys) = x) :
    Calls Try.prog 37 #[v1, v2] w (fun e w' => e = .returned (.bool x) ∧ w = w') := by
  obtain ⟨ao, c, rfl, b2, b3, b4⟩ := h1.nums
  obtain ⟨bo, d, rfl, c2, c3, c4⟩ := h2.nums
  by_cases hle : ys.length ≤ xs.length
  · have hd := h1.take ys.length (by rw [length_ofK]; omega)
    rw [take_ofK] at hd
    have hq := bytesEqual_of _ _ (xs.take ys.length) ys w x hd h2 (fun c hc => a1 c (List.mem_of_mem_take hc)) a2 (by rw [← hx]; simp [hle])
    have HQ := Lib.hid hq
    have hc1 : ys.length ≤ c := by omega
    clear hq hd h1 h2 a1 a2 hx b4 c4
    go_enter Try.func37, Try.ntmps37
    go_wp2_with fail
    refine HQ.out.mono ?_
    rintro e w' ⟨rfl, rfl⟩
    go_wp2_with fail
    go_ret
    exact ⟨rfl, rfl⟩
  · obtain rfl : x = false := by rw [← hx]; simp [hle]
    have hd : decide ((ys.length : Int) ≤ (xs.length : Int)) = false := by simp; omega
    clear h1 h2 a1 a2 hx b4 c4
    go_enter Try.func37, Try.ntmps37
    go_wp2_with fail
    go_ret
    exact ⟨rfl, rfl⟩

end Go.Proofs.Ytkbhehnpgnilmaa
