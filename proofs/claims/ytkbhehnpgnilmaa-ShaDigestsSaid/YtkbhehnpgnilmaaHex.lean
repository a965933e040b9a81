/-
  Digits of base sixteen, as plain functions. Plain mathematics. Conditions: bytes.
-/
import Derived.Test.YtkbhehnpgnilmaaStr
import Derived.Test.YtkbhehnpgnilmaaShaT
namespace Go.Proofs.Ytkbhehnpgnilmaa
open Go Go.RowKit

/-- is a byte a digit? -/
def isHex (c : Int) : Bool := (decide (48 ≤ c) && decide (c ≤ 57)) || (decide (97 ≤ c) && decide (c ≤ 102))
/-- a digit's number -/
def hexD (c : Int) : Int := if c ≤ 57 then c - 48 else c - 87

theorem hexD_bd {c : Int} (h : isHex c = true) : 0 ≤ hexD c ∧ hexD c < 16 := by
  simp only [isHex, Bool.or_eq_true, Bool.and_eq_true, decide_eq_true_eq] at h
  unfold hexD; split <;> omega

theorem sign_hexD {c : Int} (h : isHex c = true) : signL (hexD c) = c := by
  simp only [isHex, Bool.or_eq_true, Bool.and_eq_true, decide_eq_true_eq] at h
  unfold hexD signL; split <;> split <;> omega

theorem hexD_sign {n : Int} (h : 0 ≤ n ∧ n < 16) : isHex (signL n) = true ∧ hexD (signL n) = n := by
  simp only [isHex, Bool.or_eq_true, Bool.and_eq_true, decide_eq_true_eq]
  unfold hexD signL
  split <;> (constructor <;> (try split) <;> omega)

/-- the digest's bytes behind k digits -/
def idTo (bs : List Int) (k : Nat) : List Int := (List.range 32).map fun i => if 2 * i + 1 < k then 16 * hexD (bs.getD (2 * i) 0) + hexD (bs.getD (2 * i + 1) 0) else if 2 * i < k then hexD (bs.getD (2 * i) 0) else 0

theorem idTo_length (bs : List Int) (k : Nat) : (idTo bs k).length = 32 := by simp [idTo]

theorem idTo_get (bs : List Int) (k i : Nat) (h : i < 32) : (idTo bs k)[i]'(by rw [idTo_length]; exact h) = if 2 * i + 1 < k then 16 * hexD (bs.getD (2 * i) 0) + hexD (bs.getD (2 * i + 1) 0) else if 2 * i < k then hexD (bs.getD (2 * i) 0) else 0 := by
  simp [idTo]

theorem idTo_zero (bs : List Int) : idTo bs 0 = List.replicate 32 0 := by
  apply List.ext_getElem
  · rw [idTo_length, List.length_replicate]
  · intro i h1 h2
    rw [List.getElem_replicate, idTo_get bs 0 i (by rwa [idTo_length] at h1), if_neg (by omega), if_neg (by omega)]

/-- the byte that a digit turns -/
def nextB (bs : List Int) (k : Nat) : Int := if k % 2 = 0 then hexD (bs.getD k 0) else 16 * hexD (bs.getD (k - 1) 0) + hexD (bs.getD k 0)

theorem idTo_set (bs : List Int) (k : Nat) : (idTo bs k).set (k / 2) (nextB bs k) = idTo bs (k + 1) := by
  apply List.ext_getElem
  · rw [List.length_set, idTo_length, idTo_length]
  · intro i h1 h2
    have hi : i < 32 := by rwa [idTo_length] at h2
    rw [List.getElem_set, idTo_get bs (k + 1) i hi]
    by_cases he : k / 2 = i
    · rw [if_pos he]
      unfold nextB
      by_cases h0 : k % 2 = 0
      · have e1 : k = 2 * i := by omega
        rw [if_pos h0, if_neg (show ¬ 2 * i + 1 < k + 1 by omega), if_pos (show 2 * i < k + 1 by omega), e1]
      · have e1 : k = 2 * i + 1 := by omega
        rw [if_neg h0, if_pos (show 2 * i + 1 < k + 1 by omega), e1, Nat.add_sub_cancel]
    · rw [if_neg he, idTo_get bs k i hi]
      by_cases h3 : 2 * i + 1 < k
      · rw [if_pos h3, if_pos (show 2 * i + 1 < k + 1 by omega)]
      · rw [if_neg h3, if_neg (show ¬ 2 * i + 1 < k + 1 by omega)]
        by_cases h4 : 2 * i < k
        · rw [if_pos h4, if_pos (show 2 * i < k + 1 by omega)]
        · rw [if_neg h4, if_neg (show ¬ 2 * i < k + 1 by omega)]

/-- what the byte was -/
def oldB (bs : List Int) (k : Nat) : Int := if k % 2 = 0 then 0 else hexD (bs.getD (k - 1) 0)

theorem idTo_old (bs : List Int) (k : Nat) (hk : k < 64) : (idTo bs k)[k / 2]'(by rw [idTo_length]; omega) = oldB bs k := by
  rw [idTo_get _ _ _ (by omega), if_neg (by omega)]
  unfold oldB
  by_cases h0 : k % 2 = 0
  · rw [if_neg (by omega), if_pos h0]
  · rw [if_pos (by omega), if_neg h0, show 2 * (k / 2) = k - 1 by omega]

theorem or_byte (x y : Int) (hx : 0 ≤ x ∧ x < 16) (hy : 0 ≤ y ∧ y < 16) : bits BinOp.or IntKind.u8 (IntKind.u8.wrap (x * 16)) y = 16 * x + y ∧ IntKind.u8.wrap (x * 16) = 16 * x ∧ IntKind.u8.wrap y = y := by
  have key : ∀ a b : Fin 16, bits BinOp.or IntKind.u8 (IntKind.u8.wrap (((a : Nat) : Int) * 16)) ((b : Nat) : Int) = 16 * ((a : Nat) : Int) + ((b : Nat) : Int) := by decide +kernel
  have h := key ⟨x.toNat, by omega⟩ ⟨y.toNat, by omega⟩
  simp only [show ((x.toNat : Nat) : Int) = x by omega, show ((y.toNat : Nat) : Int) = y by omega] at h
  exact ⟨h, by rw [IntKind.wrap_u8]; omega, by rw [IntKind.wrap_u8]; omega⟩

theorem or_byte2 (x y : Int) (hx : 0 ≤ x ∧ x < 16) (hy : 0 ≤ y ∧ y < 16) : bits BinOp.or IntKind.u8 (x * 16 % 256) y = 16 * x + y := by
  have := (or_byte x y hx hy).1
  rwa [IntKind.wrap_u8] at this

theorem nextB_eq (bs : List Int) (k : Nat) : nextB bs k = 16 * oldB bs k + hexD (bs.getD k 0) := by
  unfold nextB oldB; split <;> omega

theorem oldB_bd (bs : List Int) (k : Nat) (h : ∀ j, j < k → isHex (bs.getD j 0) = true) : 0 ≤ oldB bs k ∧ oldB bs k < 16 := by
  unfold oldB
  split
  · omega
  · exact hexD_bd (h _ (by omega))

/-- the digest that digits say, and the error -/
def parseF (bs : List Int) : List Int × Int := if bs.length = 64 ∧ bs.all isHex = true then (idTo bs 64, 0) else (List.replicate 32 0, 130)

theorem decode_hex (s : ByteArray) (k : Nat) (h : k < s.size) : (isHex ((s[k]'h).toNat : Int) = true → (Utf8.decode s k).1 = (s[k]'h).toNat ∧ (Utf8.decode s k).2 = 1) ∧
    (isHex ((s[k]'h).toNat : Int) = false → isHex ((Utf8.decode s k).1 : Int) = false) := by
  by_cases hs : (s[k]'h).toNat < 128
  · rw [decode_ascii s k h hs]
    exact ⟨fun _ => ⟨rfl, rfl⟩, fun h => h⟩
  · have hd := decode_high s k h (by omega)
    refine ⟨fun hh => ?_, fun _ => ?_⟩
    · simp only [isHex, Bool.or_eq_true, Bool.and_eq_true, decide_eq_true_eq] at hh
      omega
    · have h1 : ¬ (((Utf8.decode s k).1 : Nat) : Int) ≤ 57 := by omega
      have h2 : ¬ (((Utf8.decode s k).1 : Nat) : Int) ≤ 102 := by omega
      simp [isHex, h1, h2]

end Go.Proofs.Ytkbhehnpgnilmaa
