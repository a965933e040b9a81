/-
  The document's Byte and High, walked. Conditions: the number is not negative, the width is at most 8.
-/
import Derived.Test.YtfenikoajadiaaaPut
namespace Go.Proofs.Ytfenikoajadiaaa
open Go Go.RowKit

theorem div_step (x : Int) (j : Nat) : x / 2 ^ (8 * j) / 256 = x / 2 ^ (8 * (j + 1)) := by
  rw [Int.ediv_ediv_of_nonneg (by exact Int.pow_nonneg (by omega)), show 8 * (j + 1) = 8 * j + 8 from by omega, Int.pow_add]
  rfl

set_option maxHeartbeats 400000 in
theorem byte_any (x : Int) (width k : Nat) (y : Int) (w : World) (hx2 : 0 ≤ x ∧ x ≤ 18446744073709551615) (hw : width ≤ 8) (hk : k < width) (hy : beAt x width k = y) :
    Calls Try.prog 67 #[.int .u64 x, .int .i64 width, .int .i64 k] w (fun e w' => e = .returned (.int .u8 y) ∧ w = w') := by
  have HY := Lib.hid hy
  have HX := Lib.hid hx2
  have hx : 0 ≤ x := hx2.1
  clear hy hx2
  go_enter Try.func67, Try.ntmps67
  go_wp2
  go_loop [0, 2] (fun a b => ∃ j : Nat, j ≤ width - 1 - k ∧ a = .int .u64 (x / 2 ^ (8 * j)) ∧ b = .int .i64 (k + j : Nat)) (fun _ b => width - (intOf b).toNat)
  case atStart => exact ⟨0, Nat.zero_le _, by simp, by simp⟩
  case round =>
    obtain ⟨j, hj, rfl, rfl⟩ := hrel
    have hp : 0 ≤ x / 2 ^ (8 * j) := Int.ediv_nonneg hx (Int.pow_nonneg (by omega))
    obtain ⟨z, hz⟩ : ∃ z, z = x / 2 ^ (8 * j) := ⟨_, rfl⟩
    have hs := div_step x j
    rw [← hz] at hp hs ⊢
    have HS := Lib.hid hs
    have HZ := Lib.hid hz
    have hzx : Hid (IntKind.u64.wrap (z.tdiv 256) = z / 256) := Lib.hid (by
      have h1 : z ≤ x := by rw [hz]; exact Int.ediv_le_self _ hx
      have h2 := HX.out
      rw [Int.tdiv_eq_ediv_of_nonneg hp, IntKind.wrap_u64]; omega)
    clear hs hz
    obtain ⟨i, hi⟩ : ∃ i : Nat, i = k + j := ⟨_, rfl⟩
    rw [← hi]
    by_cases hlt : i < width - 1
    · have HI := Lib.hid hi
      have hi2 : (i : Int) < (width : Int) - 1 := by omega
      clear hi
      go_wp2
      go_round
      case rel => exact ⟨j + 1, by have := HI.out; omega, by rw [hzx.out, HS.out], by have := HI.out; rw [show k + (j + 1) = i + 1 from by omega]; go_num⟩
      case measure => simp [intOf]; omega
    · have hj2 : j = width - 1 - k := by omega
      have HY2 : Hid (z % 256 = y) := Lib.hid (by rw [HZ.out, ← HY.out, hj2]; rfl)
      have hi2 : ¬ (i : Int) < (width : Int) - 1 := by omega
      clear hi hj2
      go_wp2
      go_ret
      exact ⟨by rw [← HY2.out]; rfl, rfl⟩

/-- the first k bytes of a number in so many -/
def beTo (x : Int) (width k : Nat) : List Int := (List.range k).map (beAt x width)

theorem beTo_succ (x : Int) (width k : Nat) : beTo x width (k + 1) = beTo x width k ++ [beAt x width k] := by simp [beTo, List.range_succ]

theorem beTo_length (x : Int) (width k : Nat) : (beTo x width k).length = k := by simp [beTo]

set_option maxHeartbeats 800000 in
theorem high_any (x : Int) (width : Nat) (w : World) (hx : 0 ≤ x ∧ x ≤ 18446744073709551615) (hw : width ≤ 8) :
    Calls Try.prog 52 #[.int .u64 x, .int .i64 width] w (NewRow w (beF x width) width) := by
  obtain ⟨i0, hi, hz0, hz1, hz2⟩ := info_parts Try.info5
  have HX := Lib.hid hx
  clear hx
  go_enter Try.func52, Try.ntmps52
  go_wp2
  go_loopw [5, 6] (fun v b wr => ∃ k : Nat, k ≤ width ∧ b = .int .i64 k ∧ (∃ vo vc, v = .slice vo k vc) ∧ wr.ownsRow w.heap.size 5 1 v k (ofK .u8 (beTo x width k)) ∧ Below w.heap.size w wr) (fun _ b _ => width - (intOf b).toNat)
  case atStart => exact ⟨0, Nat.zero_le _, rfl, ⟨_, _, rfl⟩, World.ownsRow_nil _ _ _ _, Below.refl _ _⟩
  case round =>
    obtain ⟨k, hk, rfl, ⟨vo, vc, rfl⟩, hown, hbel⟩ := hrel
    have HO := Lib.hid hown
    have HB := Lib.hid hbel
    have hsz : w.heap.size ≤ wr.heap.size := hbel.size
    clear hown hbel
    by_cases hlt : k < width
    · obtain ⟨y, hy⟩ : ∃ y, beAt x width k = y := ⟨_, rfl⟩
      have HY := Lib.hid hy
      clear hy
      go_wp2_with fail
      refine (byte_any x width k y wr HX.out hw hlt HY.out).mono ?_
      rintro e w1 ⟨rfl, rfl⟩
      have HA := Lib.hid (HO.out.alloc (.cells #[.int .u8 y] 5))
      go_wp2_with (at_builtin; refine wpList_append_sl _ rfl (.tmp 12) (.tmp 17) 25 rfl w.heap.size 5 i0 (.int .u8 0) 1 Try.underlying25 hi hz0 hz1 hz2 rfl _ k _ rfl HA.out _ (ofK .u8 [y]) rfl (by exact sl_new _ _ _ _ _ 1 rfl rfl (by omega)) (one_ofK _ _) (k + 1) ?_ ?_ ?_ ?_ ?_)
      · simp [ofK]
      · unfold maxLen; omega
      · omega
      · simp; omega
      · intro ao c w2 hown2 hgr2 _
        have e2 : ofK .u8 (beTo x width k) ++ ofK .u8 [y] = ofK .u8 (beTo x width (k + 1)) := by rw [beTo_succ, HY.out]; simp [ofK]
        rw [e2] at hown2
        have HB2 : Hid (Below w.heap.size w w2) := Lib.hid ((HB.out.alloc hsz _).grown hgr2 (by simp; omega) (fun i hi => (HO.out.lt i hi).1))
        have HO2 := Lib.hid hown2
        clear hown2 hgr2 e2 HB HO HA
        go_wp2
        go_roundw
        case rel => exact ⟨k + 1, by omega, by go_num, ⟨_, _, rfl⟩, HO2.out, HB2.out⟩
        case measure => simp [intOf]; omega
    · obtain rfl : k = width := by omega
      go_wp2
      go_ret
      exact ⟨vo, vc, rfl, HO.out, HB.out⟩

end Go.Proofs.Ytfenikoajadiaaa
