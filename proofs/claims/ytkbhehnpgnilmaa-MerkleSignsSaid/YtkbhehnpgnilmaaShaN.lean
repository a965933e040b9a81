/-
  Words of 32 bits as natural numbers: turned, pushed, mixed. Plain mathematics, no program in sight. Conditions: numbers below 2^32 where it says so.
-/
import Derived.Test.YtkbhehnpgnilmaaLib
import Derived.Laws.Bits64
namespace Go.Proofs.Ytkbhehnpgnilmaa
open Go Go.RowKit

def M32 : Nat := 4294967296
def rotN (x n : Nat) : Nat := (x / 2 ^ n) ||| (x * 2 ^ (32 - n) % 4294967296)
def shrN (x n : Nat) : Nat := x / 2 ^ n

theorem bits_or32 (a b : Nat) (ha : a < 4294967296) (hb : b < 4294967296) : bits .or .u32 (a : Int) (b : Int) = ((a ||| b : Nat) : Int) := by
  have hx : a ||| b < 2 ^ 32 := Nat.or_lt_two_pow (by omega) (by omega)
  have h1 : (BitVec.ofInt 32 (a : Int)).toNat = a := by
    rw [BitVec.ofInt_natCast, BitVec.toNat_ofNat]; exact Nat.mod_eq_of_lt (by omega)
  have h2 : (BitVec.ofInt 32 (b : Int)).toNat = b := by
    rw [BitVec.ofInt_natCast, BitVec.toNat_ofNat]; exact Nat.mod_eq_of_lt (by omega)
  show IntKind.u32.wrap ((BitVec.ofInt 32 (a : Int) ||| BitVec.ofInt 32 (b : Int)).toNat : Int) = _
  rw [BitVec.toNat_or, h1, h2, IntKind.wrap_u32]
  omega

theorem bits_xor32 (a b : Nat) (ha : a < 4294967296) (hb : b < 4294967296) : bits .xor .u32 (a : Int) (b : Int) = ((a ^^^ b : Nat) : Int) := by
  have hx : a ^^^ b < 2 ^ 32 := Nat.xor_lt_two_pow (by omega) (by omega)
  have h1 : (BitVec.ofInt 32 (a : Int)).toNat = a := by
    rw [BitVec.ofInt_natCast, BitVec.toNat_ofNat]; exact Nat.mod_eq_of_lt (by omega)
  have h2 : (BitVec.ofInt 32 (b : Int)).toNat = b := by
    rw [BitVec.ofInt_natCast, BitVec.toNat_ofNat]; exact Nat.mod_eq_of_lt (by omega)
  show IntKind.u32.wrap ((BitVec.ofInt 32 (a : Int) ^^^ BitVec.ofInt 32 (b : Int)).toNat : Int) = _
  rw [BitVec.toNat_xor, h1, h2, IntKind.wrap_u32]
  omega

theorem bits_and32 (a b : Nat) (ha : a < 4294967296) (hb : b < 4294967296) : bits .and .u32 (a : Int) (b : Int) = ((a &&& b : Nat) : Int) := by
  have hx : a &&& b ≤ a := Nat.and_le_left
  have h1 : (BitVec.ofInt 32 (a : Int)).toNat = a := by
    rw [BitVec.ofInt_natCast, BitVec.toNat_ofNat]; exact Nat.mod_eq_of_lt (by omega)
  have h2 : (BitVec.ofInt 32 (b : Int)).toNat = b := by
    rw [BitVec.ofInt_natCast, BitVec.toNat_ofNat]; exact Nat.mod_eq_of_lt (by omega)
  show IntKind.u32.wrap ((BitVec.ofInt 32 (a : Int) &&& BitVec.ofInt 32 (b : Int)).toNat : Int) = _
  rw [BitVec.toNat_and, h1, h2, IntKind.wrap_u32]
  omega

theorem or_lt32 {a b : Nat} (ha : a < 4294967296) (hb : b < 4294967296) : a ||| b < 4294967296 := Nat.or_lt_two_pow (n := 32) (by omega) (by omega)

theorem xor_lt32 {a b : Nat} (ha : a < 4294967296) (hb : b < 4294967296) : a ^^^ b < 4294967296 := Nat.xor_lt_two_pow (n := 32) (by omega) (by omega)

theorem and_lt32 {a b : Nat} (ha : a < 4294967296) : a &&& b < 4294967296 := Nat.lt_of_le_of_lt Nat.and_le_left ha

theorem shrN_lt {x : Nat} (n : Nat) (h : x < 4294967296) : shrN x n < 4294967296 := Nat.lt_of_le_of_lt (Nat.div_le_self _ _) h

theorem rotN_lt {x : Nat} (n : Nat) (h : x < 4294967296) : rotN x n < 4294967296 := or_lt32 (shrN_lt n h) (Nat.mod_lt _ (by omega))

theorem rotN_int (x n : Nat) (h : x < 4294967296) : bits BinOp.or IntKind.u32 ((x : Int) / 2 ^ n) ((x : Int) * 2 ^ (32 - n) % 4294967296) = ((rotN x n : Nat) : Int) := by
  have e1 : (x : Int) / 2 ^ n = ((x / 2 ^ n : Nat) : Int) := by simp
  have e2 : (x : Int) * 2 ^ (32 - n) % 4294967296 = ((x * 2 ^ (32 - n) % 4294967296 : Nat) : Int) := by simp
  rw [e1, e2, bits_or32 (x / 2 ^ n) _ (shrN_lt n h) (Nat.mod_lt _ (by omega))]
  rfl

theorem shrN_int (x n : Nat) : (x : Int) / 2 ^ n = ((shrN x n : Nat) : Int) := by simp [shrN]

/-- what a mix is: two numbers of turning, one of turning or pushing -/
def mixN (one two three : Nat) (push : Bool) (x : Nat) : Nat := (rotN x one ^^^ rotN x two) ^^^ (if push then shrN x three else rotN x three)

theorem mixN_lt {x : Nat} (a b c : Nat) (p : Bool) (h : x < 4294967296) : mixN a b c p x < 4294967296 := by
  unfold mixN
  refine xor_lt32 (xor_lt32 (rotN_lt _ h) (rotN_lt _ h)) ?_
  split
  · exact shrN_lt _ h
  · exact rotN_lt _ h

/-- the constants, and the start, as the code has them -/
def K64 : List Nat := [1116352408, 1899447441, 3049323471, 3921009573, 961987163, 1508970993, 2453635748, 2870763221, 3624381080, 310598401, 607225278, 1426881987, 1925078388, 2162078206, 2614888103, 3248222580, 3835390401, 4022224774, 264347078, 604807628, 770255983, 1249150122, 1555081692, 1996064986, 2554220882, 2821834349, 2952996808, 3210313671, 3336571891, 3584528711, 113926993, 338241895, 666307205, 773529912, 1294757372, 1396182291, 1695183700, 1986661051, 2177026350, 2456956037, 2730485921, 2820302411, 3259730800, 3345764771, 3516065817, 3600352804, 4094571909, 275423344, 430227734, 506948616, 659060556, 883997877, 958139571, 1322822218, 1537002063, 1747873779, 1955562222, 2024104815, 2227730452, 2361852424, 2428436474, 2756734187, 3204031479, 3329325298]
def H8 : List Nat := [1779033703, 3144134277, 1013904242, 2773480762, 1359893119, 2600822924, 528734635, 1541459225]
/-- natural numbers as values of 32 bits -/
def ofN (xs : List Nat) : List Value := xs.map fun x : Nat => Value.int .u32 (x : Int)

theorem ofN_length (xs : List Nat) : (ofN xs).length = xs.length := by simp [ofN]

theorem ofN_get (xs : List Nat) (i : Nat) (h : i < xs.length) : (ofN xs)[i]? = some (.int .u32 (xs[i] : Nat)) := by simp [ofN, h]

theorem one_ofN (xs : List Nat) : ∀ u ∈ ofN xs, u.oneCell' = true := by
  intro u hu; obtain ⟨b, _, rfl⟩ := List.mem_map.1 hu; rfl

end Go.Proofs.Ytkbhehnpgnilmaa
