/-
  Digits of base sixteen, there and back. Plain mathematics. Conditions: bytes.
-/
import Derived.Test.YtkbhehnpgnilmaaHex
namespace Go.Proofs.Ytkbhehnpgnilmaa
open Go Go.RowKit

theorem textL_get (bs : List Int) (i : Nat) (h : i < bs.length) : (textL bs).getD (2 * i) 0 = signL (bs[i] / 16) ∧ (textL bs).getD (2 * i + 1) 0 = signL (bs[i] % 16) := by
  induction bs generalizing i with
  | nil => simp at h
  | cons b bs ih =>
    have e : textL (b :: bs) = signL (b / 16) :: signL (b % 16) :: textL bs := rfl
    rw [e]
    cases i with
    | zero => exact ⟨rfl, rfl⟩
    | succ i =>
      have := ih i (by simpa using h)
      rw [show 2 * (i + 1) = 2 * i + 1 + 1 by omega]
      simpa using this

theorem textL_hex {bs : List Int} (h : AllB bs) : (textL bs).all isHex = true := by
  rw [List.all_eq_true]
  intro c hc
  obtain ⟨b, hb, hc⟩ := List.mem_flatMap.1 hc
  have := h b hb
  simp only [List.mem_cons, List.not_mem_nil, or_false] at hc
  rcases hc with rfl | rfl
  · exact (hexD_sign (by omega)).1
  · exact (hexD_sign (by omega)).1

theorem idTo_text {bs : List Int} (h : AllB bs) (hl : bs.length = 32) : idTo (textL bs) 64 = bs := by
  apply List.ext_getElem
  · rw [idTo_length, hl]
  · intro i h1 h2
    have hi : i < 32 := by rwa [idTo_length] at h1
    rw [idTo_get _ _ _ hi, if_pos (by omega), (textL_get bs i h2).1, (textL_get bs i h2).2]
    have := h bs[i] (List.getElem_mem h2)
    rw [(hexD_sign (by omega)).2, (hexD_sign (by omega)).2]
    omega

theorem parse_text {bs : List Int} (h : AllB bs) (hl : bs.length = 32) : parseF (textL bs) = (bs, 0) := by
  unfold parseF
  rw [if_pos ⟨by rw [textL_length, hl], textL_hex h⟩, idTo_text h hl]

theorem all_getD {cs : List Int} (h : cs.all isHex = true) (i : Nat) (hi : i < cs.length) : isHex (cs.getD i 0) = true := by
  rw [List.getD_eq_getElem?_getD, List.getElem?_eq_getElem hi]
  exact List.all_eq_true.1 h _ (List.getElem_mem hi)

theorem idTo_allB {cs : List Int} (h : cs.all isHex = true) (hl : cs.length = 64) : AllB (idTo cs 64) := by
  intro c hc
  obtain ⟨i, hi, rfl⟩ := List.getElem_of_mem hc
  have hi' : i < 32 := by rwa [idTo_length] at hi
  rw [idTo_get _ _ _ hi', if_pos (by omega)]
  have h1 := hexD_bd (all_getD h (2 * i) (by omega))
  have h2 := hexD_bd (all_getD h (2 * i + 1) (by omega))
  omega

theorem text_parse {cs : List Int} (h : cs.all isHex = true) (hl : cs.length = 64) : textL (idTo cs 64) = cs := by
  apply List.ext_getElem
  · rw [textL_length, idTo_length, hl]
  · intro j h1 h2
    have hj : j < 64 := by omega
    have e1 : (textL (idTo cs 64))[j] = (textL (idTo cs 64)).getD j 0 := by rw [List.getD_eq_getElem?_getD, List.getElem?_eq_getElem h1]; rfl
    have e2 : cs[j] = cs.getD j 0 := by rw [List.getD_eq_getElem?_getD, List.getElem?_eq_getElem h2]; rfl
    refine e1.trans (Eq.trans ?_ e2.symm)
    have hi : j / 2 < (idTo cs 64).length := by rw [idTo_length]; omega
    have ht := textL_get (idTo cs 64) (j / 2) hi
    rw [idTo_get _ _ _ (by omega), if_pos (by omega)] at ht
    have b1 := hexD_bd (all_getD h (2 * (j / 2)) (by omega))
    have b2 := hexD_bd (all_getD h (2 * (j / 2) + 1) (by omega))
    by_cases h0 : j % 2 = 0
    · have ej : j = 2 * (j / 2) := by omega
      have := ht.1
      rw [show (16 * hexD (cs.getD (2 * (j / 2)) 0) + hexD (cs.getD (2 * (j / 2) + 1) 0)) / 16 = hexD (cs.getD (2 * (j / 2)) 0) by omega, sign_hexD (all_getD h _ (by omega)), ← ej] at this
      exact this
    · have ej : j = 2 * (j / 2) + 1 := by omega
      have := ht.2
      rw [show (16 * hexD (cs.getD (2 * (j / 2)) 0) + hexD (cs.getD (2 * (j / 2) + 1) 0)) % 16 = hexD (cs.getD (2 * (j / 2) + 1) 0) by omega, sign_hexD (all_getD h _ (by omega)), ← ej] at this
      exact this

/-- what a text says is a digest of bytes -/
theorem parseF_cases (cs : List Int) : (∃ id, parseF cs = (id, 0) ∧ id.length = 32 ∧ AllB id ∧ textL id = cs) ∨ (parseF cs = (List.replicate 32 0, 130) ∧ ¬ (cs.length = 64 ∧ cs.all isHex = true)) := by
  by_cases h : cs.length = 64 ∧ cs.all isHex = true
  · exact .inl ⟨idTo cs 64, by unfold parseF; rw [if_pos h], idTo_length _ _, idTo_allB h.2 h.1, text_parse h.2 h.1⟩
  · exact .inr ⟨by unfold parseF; rw [if_neg h], h⟩

theorem all_set {cs : List Int} (h : cs.all isHex = true) (i : Nat) (x : Int) (hi : i < cs.length) : (cs.set i x).all isHex = isHex x := by
  rw [Bool.eq_iff_iff, List.all_eq_true]
  constructor
  · intro h2
    exact h2 x (List.mem_iff_getElem.2 ⟨i, by simpa using hi, by simp⟩)
  · intro hx c hc
    rcases List.mem_or_eq_of_mem_set hc with h1 | h1
    · exact List.all_eq_true.1 h c h1
    · rw [h1]; exact hx

end Go.Proofs.Ytkbhehnpgnilmaa
