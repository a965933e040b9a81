/-
  The reference's Turn, Push, Pick, Most, Number, walked. Conditions: numbers below 2^32, rows of at most seven bytes.
-/
import Derived.Test.YtkbhehnpgnilmaaRefN
import Derived.Test.YtkbhehnpgnilmaaKit
namespace Go.Proofs.Ytkbhehnpgnilmaa
open Go Go.RowKit

def turnsN (x : Nat) : Nat → Nat
  | 0 => x
  | n + 1 => turn1 (turnsN x n)

theorem turnsN_eq (x n : Nat) (hx : x < 4294967296) (hn : n ≤ 32) : turnsN x n = rotN x n := by
  rw [rotN_rotA x n hx hn]
  induction n with
  | zero => rw [rotA_zero]; rfl
  | succ n ih => rw [← rotA_succ x n (by omega), ← ih (by omega)]; rfl

theorem turn1_lt {x : Nat} (h : x < 4294967296) : turn1 x < 4294967296 := by unfold turn1; omega

theorem turnsN_lt {x : Nat} (h : x < 4294967296) (n : Nat) : turnsN x n < 4294967296 := by
  induction n with
  | zero => exact h
  | succ n ih => exact turn1_lt ih

set_option maxHeartbeats 1000000 in
theorem rturn_any (x n : Nat) (y : Nat) (w : World) (hx : x < 4294967296) (hn : n < 32) (hy : rotN x n = y) :
    Calls Try.prog 101 #[.int .u32 (x : Int), .int .i64 (n : Int)] w (fun e w' => e = .returned (.int .u32 (y : Int)) ∧ w' = w) := by
  have H := Lib.hid (And.intro hx ((turnsN_eq x n hx (by omega)).trans hy))
  clear hx hy
  go_enter Try.func101, Try.ntmps101
  go_wp2_with fail
  go_loop [0, 1] (fun v i => ∃ k r : Nat, k + r = n ∧ i = .int .i64 (r : Int) ∧ v = .int .u32 ((turnsN x k : Nat) : Int)) (fun _ i => (intOf i).toNat)
  case atStart => exact ⟨0, n, by omega, rfl, rfl⟩
  case round =>
    obtain ⟨k, r, hkr, rfl, rfl⟩ := hrel
    have hl := turnsN_lt H.out.1 k
    obtain ⟨q, hq⟩ : ∃ q, q = turnsN x k := ⟨_, rfl⟩
    have HQ := Lib.hid hq
    rw [← hq] at hl ⊢
    clear hq
    rcases r with _ | r
    · obtain rfl : k = n := by omega
      go_wp2_with fail
      go_ret
      exact ⟨by rw [← H.out.2, ← HQ.out]; rfl, rfl⟩
    · obtain ⟨a, ha⟩ : ∃ a : Nat, a = q / 2 := ⟨_, rfl⟩
      obtain ⟨b, hb⟩ : ∃ b : Nat, b = q % 2 := ⟨_, rfl⟩
      have HS := Lib.hid (show turnsN x (k + 1) = a + b * 2147483648 by show turn1 (turnsN x k) = _; rw [← HQ.out, ha, hb]; rfl)
      have h1 : Int.tdiv (q : Int) 2 = (a : Int) := by rw [ha]; exact (Int.ofNat_tdiv q 2).symm
      have h2 : Int.tmod (q : Int) 2 = (b : Int) := by rw [hb]; exact (Int.ofNat_tmod q 2).symm
      have h3 : (q : Int) / 2 = (a : Int) := by omega
      have h4 : (q : Int) % 2 = (b : Int) := by omega
      have h5 : IntKind.u32.wrap (a : Int) = (a : Int) := by rw [IntKind.wrap_u32]; omega
      have h6 : IntKind.u32.wrap (b : Int) = (b : Int) := by rw [IntKind.wrap_u32]; omega
      have h7 : IntKind.u32.wrap ((b : Int) * 2147483648) = (b : Int) * 2147483648 := by rw [IntKind.wrap_u32]; omega
      have h8 : IntKind.u32.wrap ((a : Int) + (b : Int) * 2147483648) = (a : Int) + (b : Int) * 2147483648 := by rw [IntKind.wrap_u32]; omega
      clear ha hb
      go_wp2_with fail
      go_round
      case rel => exact ⟨k + 1, r, by omega, by go_num, by rw [HS.out]; go_num⟩
      case measure => simp [intOf]

set_option maxHeartbeats 1000000 in
theorem rpush_any (x n : Nat) (y : Nat) (w : World) (hx : x < 4294967296) (hn : n < 32) (hy : shrN x n = y) :
    Calls Try.prog 116 #[.int .u32 (x : Int), .int .i64 (n : Int)] w (fun e w' => e = .returned (.int .u32 (y : Int)) ∧ w' = w) := by
  have H := Lib.hid (And.intro hx hy)
  clear hx hy
  go_enter Try.func116, Try.ntmps116
  go_wp2_with fail
  go_loop [0, 1] (fun v i => ∃ k r : Nat, k + r = n ∧ i = .int .i64 (r : Int) ∧ v = .int .u32 ((shrN x k : Nat) : Int)) (fun _ i => (intOf i).toNat)
  case atStart => exact ⟨0, n, by omega, rfl, by simp [shrN]⟩
  case round =>
    obtain ⟨k, r, hkr, rfl, rfl⟩ := hrel
    have hl := shrN_lt k H.out.1
    obtain ⟨q, hq⟩ : ∃ q, q = shrN x k := ⟨_, rfl⟩
    have HQ := Lib.hid hq
    rw [← hq] at hl ⊢
    clear hq
    rcases r with _ | r
    · obtain rfl : k = n := by omega
      go_wp2_with fail
      go_ret
      exact ⟨by rw [← H.out.2, ← HQ.out]; rfl, rfl⟩
    · obtain ⟨a, ha⟩ : ∃ a : Nat, a = q / 2 := ⟨_, rfl⟩
      have HS := Lib.hid (show shrN x (k + 1) = a by rw [ha, HQ.out]; unfold shrN; rw [Nat.pow_succ, Nat.div_div_eq_div_mul])
      have h1 : Int.tdiv (q : Int) 2 = (a : Int) := by rw [ha]; exact (Int.ofNat_tdiv q 2).symm
      have h3 : (q : Int) / 2 = (a : Int) := by omega
      have h5 : IntKind.u32.wrap (a : Int) = (a : Int) := by rw [IntKind.wrap_u32]; omega
      clear ha
      go_wp2_with fail
      go_round
      case rel => exact ⟨k + 1, r, by omega, by go_num, by rw [HS.out]⟩
      case measure => simp [intOf]

theorem bits_not32 (a : Nat) (ha : a < 4294967296) : bits BinOp.xor IntKind.u32 IntKind.u32.max (a : Int) = ((4294967295 - a : Nat) : Int) := by
  have e : IntKind.u32.max = ((4294967295 : Nat) : Int) := by decide
  rw [e, bits_xor32 _ _ (by omega) ha]
  congr 1
  apply Nat.eq_of_testBit_eq
  intro i
  rw [Nat.testBit_xor, not_testBit a i ha, show (4294967295 : Nat) = 2 ^ 32 - 1 by decide, Nat.testBit_two_pow_sub_one]
  by_cases hi : i < 32
  · simp [hi]
  · have h1 : a.testBit i = false := Nat.testBit_lt_two_pow (Nat.lt_of_lt_of_le ha (by
      have := Nat.pow_le_pow_right (n := 2) (by omega) (show 32 ≤ i by omega)
      omega))
    simp [hi, h1]

set_option maxHeartbeats 1000000 in
theorem rpick_any (e f g y : Nat) (w : World) (he : e < 4294967296) (hf : f < 4294967296) (hg : g < 4294967296) (hy : g ^^^ (e &&& (f ^^^ g)) = y) :
    Calls Try.prog 102 #[.int .u32 (e : Int), .int .u32 (f : Int), .int .u32 (g : Int)] w (fun en w' => en = .returned (.int .u32 (y : Int)) ∧ w' = w) := by
  have H := Lib.hid ((pick_eq e f g he hg).trans hy)
  have h1 := bits_and32 e f he hf
  have h2 := bits_not32 e he
  obtain ⟨n, hn⟩ : ∃ n, n = 4294967295 - e := ⟨_, rfl⟩
  have hnl : n < 4294967296 := by omega
  rw [← hn] at h2
  have h3 := bits_and32 n g hnl hg
  have h4 := bits_or32 (e &&& f) (n &&& g) (and_lt32 he) (and_lt32 hnl)
  have HN := Lib.hid hn
  clear he hf hg hy hn hnl
  go_enter Try.func102, Try.ntmps102
  go_wp2_with fail
  go_ret
  exact ⟨by rw [← H.out, ← HN.out, ← h4, ← h3, ← h2]; rfl, rfl⟩

set_option maxHeartbeats 1000000 in
theorem rmost_any (a b c y : Nat) (w : World) (ha : a < 4294967296) (hb : b < 4294967296) (hc : c < 4294967296) (hy : (a &&& c) ||| (b &&& (a ||| c)) = y) :
    Calls Try.prog 103 #[.int .u32 (a : Int), .int .u32 (b : Int), .int .u32 (c : Int)] w (fun en w' => en = .returned (.int .u32 (y : Int)) ∧ w' = w) := by
  have H := Lib.hid ((most_eq a b c).trans hy)
  have h1 := bits_and32 a b ha hb
  have h2 := bits_and32 b c hb hc
  have h3 := bits_and32 c a hc ha
  have h4 := bits_or32 (a &&& b) (b &&& c) (and_lt32 ha) (and_lt32 hb)
  have h5 := bits_or32 (a &&& b ||| b &&& c) (c &&& a) (or_lt32 (and_lt32 ha) (and_lt32 hb)) (and_lt32 hc)
  clear ha hb hc hy
  go_enter Try.func103, Try.ntmps103
  go_wp2_with fail
  go_ret
  exact ⟨by rw [← H.out]; rfl, rfl⟩

end Go.Proofs.Ytkbhehnpgnilmaa
