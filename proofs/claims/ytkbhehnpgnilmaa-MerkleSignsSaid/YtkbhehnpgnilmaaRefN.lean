/-
  The reference's numbers of 32 bits against mine. Plain mathematics. Conditions: numbers below 2^32.
-/
import Derived.Test.YtkbhehnpgnilmaaShaW
namespace Go.Proofs.Ytkbhehnpgnilmaa
open Go Go.RowKit

def turn1 (x : Nat) : Nat := x / 2 + x % 2 * 2147483648
def rotA (x n : Nat) : Nat := x / 2 ^ n + x % 2 ^ n * 2 ^ (32 - n)

theorem rotA_zero {x : Nat} : rotA x 0 = x := by simp [rotA, Nat.mod_one]

theorem rotA_succ (x n : Nat) (hn : n < 32) : turn1 (rotA x n) = rotA x (n + 1) := by
  have e32 : 2 ^ (32 - n) = 2 * 2 ^ (31 - n) := by rw [show 32 - n = (31 - n) + 1 by omega, Nat.pow_succ, Nat.mul_comm]
  have e31 : 2 ^ n * 2 ^ (31 - n) = 2147483648 := by rw [← Nat.pow_add, show n + (31 - n) = 31 by omega]
  unfold turn1 rotA
  rw [show 32 - (n + 1) = 31 - n by omega, Nat.mod_pow_succ, Nat.pow_succ, ← Nat.div_div_eq_div_mul, e32]
  generalize x / 2 ^ n = q
  generalize x % 2 ^ n = r
  rw [show q + r * (2 * 2 ^ (31 - n)) = q + 2 * (r * 2 ^ (31 - n)) by rw [Nat.mul_left_comm], Nat.add_mul_div_left _ _ (by omega), Nat.add_mul_mod_self_left, Nat.add_mul, Nat.mul_comm (2 ^ n), Nat.mul_assoc, e31]
  omega


theorem rotN_rotA (x n : Nat) (hx : x < 4294967296) (hn : n ≤ 32) : rotN x n = rotA x n := by
  unfold rotN rotA
  have e1 : 4294967296 = 2 ^ n * 2 ^ (32 - n) := by rw [← Nat.pow_add, show n + (32 - n) = 32 by omega]
  have hlt : x / 2 ^ n < 2 ^ (32 - n) := Nat.div_lt_of_lt_mul (by rw [← e1]; exact hx)
  rw [e1, Nat.mul_mod_mul_right, Nat.or_comm, Nat.mul_comm (x % 2 ^ n), ← Nat.two_pow_add_eq_or_of_lt hlt, Nat.add_comm]

theorem not_testBit (x i : Nat) (hx : x < 4294967296) : (4294967295 - x).testBit i = (decide (i < 32) && !x.testBit i) := by
  have := Nat.testBit_two_pow_sub_succ (n := 32) (x := x) hx i
  rwa [show 2 ^ 32 - (x + 1) = 4294967295 - x by omega] at this

theorem pick_eq (e f g : Nat) (he : e < 4294967296) (hg : g < 4294967296) : (e &&& f) ||| ((4294967295 - e) &&& g) = g ^^^ (e &&& (f ^^^ g)) := by
  apply Nat.eq_of_testBit_eq
  intro i
  rw [Nat.testBit_or, Nat.testBit_and, Nat.testBit_and, not_testBit e i he, Nat.testBit_xor, Nat.testBit_and, Nat.testBit_xor]
  by_cases hi : i < 32
  · cases e.testBit i <;> cases f.testBit i <;> cases g.testBit i <;> simp [hi]
  · have h1 : e.testBit i = false := Nat.testBit_lt_two_pow (Nat.lt_of_lt_of_le he (by
      have := Nat.pow_le_pow_right (n := 2) (by omega) (show 32 ≤ i by omega)
      omega))
    have h2 : g.testBit i = false := Nat.testBit_lt_two_pow (Nat.lt_of_lt_of_le hg (by
      have := Nat.pow_le_pow_right (n := 2) (by omega) (show 32 ≤ i by omega)
      omega))
    simp [h1, h2]

theorem most_eq (a b c : Nat) : ((a &&& b) ||| (b &&& c)) ||| (c &&& a) = (a &&& c) ||| (b &&& (a ||| c)) := by
  apply Nat.eq_of_testBit_eq
  intro i
  simp only [Nat.testBit_or, Nat.testBit_and]
  cases a.testBit i <;> cases b.testBit i <;> cases c.testBit i <;> rfl

end Go.Proofs.Ytkbhehnpgnilmaa
