/-
  math/bits.Mul64 in this program, walked; the arithmetic is the library's. Conditions: numbers below 2^64.
-/
import Derived.Test.YtkbhehnpgnilmaaKit
import Derived.Shelf.Bits.Mul64
namespace Go.Proofs.Ytkbhehnpgnilmaa
open Go Go.RowKit Go.Lib

set_option maxHeartbeats 1000000 in
theorem mul64_any (x y hi lo : Nat) (w : World) (hx : x < 18446744073709551616) (hy : y < 18446744073709551616) (h1 : x * y / 18446744073709551616 = hi) (h2 : x * y % 18446744073709551616 = lo) :
    Calls Try.prog 99 #[.int .u64 (x : Int), .int .u64 (y : Int)] w (fun e w' => e = .returned (.tuple #[.int .u64 (hi : Int), .int .u64 (lo : Int)]) ∧ w' = w) := by
  subst h1 h2
  obtain ⟨bd, bt, bw, hhi⟩ := mul64_hi x y hx hy
  have ba := half_mul_le (a := x / 4294967296) (b := y / 4294967296) (by omega) (by omega)
  have bb := half_mul_le (a := x / 4294967296) (b := y % 4294967296) (by omega) (by omega)
  have bc := half_mul_le (a := x % 4294967296) (b := y / 4294967296) (by omega) (by omega)
  have k1 : x / 4294967296 * (y / 4294967296) < 18446744073709551616 := by omega
  have k2 : x / 4294967296 * (y % 4294967296) < 18446744073709551616 := by omega
  have k3 : x % 4294967296 * (y / 4294967296) < 18446744073709551616 := by omega
  have k4 : x / 4294967296 * (y / 4294967296) + (x / 4294967296 * (y % 4294967296) + x % 4294967296 * (y % 4294967296) / 4294967296) / 4294967296 < 18446744073709551616 := by omega
  have k5 : x / 4294967296 * (y / 4294967296) + (x / 4294967296 * (y % 4294967296) + x % 4294967296 * (y % 4294967296) / 4294967296) / 4294967296 + ((x / 4294967296 * (y % 4294967296) + x % 4294967296 * (y % 4294967296) / 4294967296) % 4294967296 + x % 4294967296 * (y / 4294967296)) / 4294967296 < 18446744073709551616 := by
    rw [hhi]; exact Nat.div_lt_of_lt_mul (Nat.lt_of_lt_of_le (Nat.mul_lt_mul_of_lt_of_le hx (Nat.le_of_lt hy) (by omega)) (Nat.le_refl _))
  go_enter Try.func99, Try.ntmps99
  go_wp2
  simp only [Mul64.maskN x hx, Mul64.maskN y hy, Mul64.divN, Mul64.mulN, Mul64.addN, Mul64.wrapN _ bd, Mul64.wrapN _ k2, Mul64.wrapN _ bt, Mul64.maskN _ bt, Mul64.wrapN _ k3, Mul64.wrapN _ bw, Mul64.wrapN _ k1, Mul64.wrapN _ k4, Mul64.wrapN _ k5, Mul64.wrapM (x * y)]
  rw [hhi]
  go_ret2
  exact ⟨rfl, rfl⟩

end Go.Proofs.Ytkbhehnpgnilmaa
