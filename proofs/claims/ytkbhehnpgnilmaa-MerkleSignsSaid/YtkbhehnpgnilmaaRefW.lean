/-
  The reference's words of a block against mine. Plain mathematics. Conditions: bytes.
-/
import Derived.Test.YtkbhehnpgnilmaaRefN
namespace Go.Proofs.Ytkbhehnpgnilmaa
open Go Go.RowKit

/-- the sixteen words of the machine behind t rounds -/
def runW (ws : List Nat) : Nat → List Nat
  | 0 => ws
  | t + 1 => stepW (runW ws t) t

theorem runT_words (hs ws : List Nat) (t : Nat) : (runT (hs, ws) t).2 = runW ws t := by
  induction t with
  | zero => rfl
  | succ t ih => show stepW (runT (hs, ws) t).2 t = _; rw [ih]; rfl

/-- the t-th word -/
def wX (bs : List Int) (t : Nat) : Nat := newWord (runW (wordsTo bs 16) t) t

theorem runW_length (ws : List Nat) (t : Nat) : (runW ws t).length = ws.length := by
  induction t with
  | zero => rfl
  | succ t ih => show (stepW _ t).length = _; unfold stepW; rw [List.length_set, ih]

theorem wordsTo_length (bs : List Int) (k : Nat) : (wordsTo bs k).length = 16 := by simp [wordsTo]

theorem runW_at (bs : List Int) (t : Nat) : (∀ s, s < t → t ≤ s + 16 → (runW (wordsTo bs 16) t).getD (s % 16) 0 = wX bs s) ∧ (∀ s, t ≤ s → s < 16 → (runW (wordsTo bs 16) t).getD s 0 = wordAt bs s) := by
  induction t with
  | zero =>
    refine ⟨fun s h => absurd h (by omega), fun s _ h => ?_⟩
    show (wordsTo bs 16).getD s 0 = _
    rw [List.getD_eq_getElem?_getD]
    simp [wordsTo, h]
  | succ t ih =>
    have hl : t % 16 < (runW (wordsTo bs 16) t).length := by rw [runW_length, wordsTo_length]; omega
    constructor
    · intro s h1 h2
      show (stepW _ t).getD (s % 16) 0 = _
      by_cases hs : s = t
      · subst hs; exact stepW_at rfl hl
      · unfold stepW
        rw [List.getD_eq_getElem?_getD, List.getElem?_set_ne (by omega), ← List.getD_eq_getElem?_getD]
        exact ih.1 s (by omega) (by omega)
    · intro s h1 h2
      show (stepW _ t).getD s 0 = _
      unfold stepW
      rw [List.getD_eq_getElem?_getD, List.getElem?_set_ne (by omega), ← List.getD_eq_getElem?_getD]
      exact ih.2 s (by omega) h2

theorem wX_small (bs : List Int) (t : Nat) (h : t < 16) : wX bs t = wordAt bs t := by
  unfold wX newWord
  rw [if_pos h, Nat.mod_eq_of_lt h]
  exact (runW_at bs t).2 t (Nat.le_refl _) h

theorem wX_great (bs : List Int) (t : Nat) (h : 16 ≤ t) : wX bs t = add32 (add32 (add32 (mixN 17 19 10 true (wX bs (t - 2))) (wX bs (t - 7))) (mixN 7 18 3 true (wX bs (t - 15)))) (wX bs (t - 16)) := by
  have k := (runW_at bs t).1
  rw [show wX bs t = newWord (runW (wordsTo bs 16) t) t from rfl]
  unfold newWord
  rw [if_neg (by omega), k (t - 2) (by omega) (by omega), k (t - 7) (by omega) (by omega), k (t - 15) (by omega) (by omega), show t % 16 = (t - 16) % 16 by omega, k (t - 16) (by omega) (by omega)]
  unfold add32
  omega

theorem wX_lt {bs : List Int} (ha : AllB bs) (t : Nat) : wX bs t < 4294967296 := by
  by_cases h : t < 16
  · rw [wX_small bs t h]; exact wordAt_lt ha t
  · rw [wX_great bs t (by omega)]; exact add32_lt _ _

/-- the reference's words behind k rounds -/
def wordsX (bs : List Int) (k : Nat) : List Nat := (List.range 64).map fun j => if j < k then wX bs j else 0

theorem wordsX_length (bs : List Int) (k : Nat) : (wordsX bs k).length = 64 := by simp [wordsX]

theorem wordsX_at (bs : List Int) (k j : Nat) (h : j < 64) : (wordsX bs k).getD j 0 = if j < k then wX bs j else 0 := by
  rw [List.getD_eq_getElem?_getD]; simp [wordsX, h]

theorem wordsX_zero (bs : List Int) : wordsX bs 0 = List.replicate 64 0 := by
  apply List.ext_getElem
  · simp [wordsX]
  · intro i h1 h2; rw [List.getElem_replicate]; simp [wordsX]

theorem wordsX_set (bs : List Int) (k : Nat) : (wordsX bs k).set k (wX bs k) = wordsX bs (k + 1) := by
  unfold wordsX
  apply List.ext_getElem
  · simp
  · intro i h1 h2
    simp only [List.getElem_set, List.getElem_map, List.getElem_range]
    by_cases e : k = i
    · subst e; simp
    · rw [if_neg e]
      by_cases h3 : i < k
      · rw [if_pos h3, if_pos (by omega)]
      · rw [if_neg h3, if_neg (by omega)]

/-- the row as the reference holds it behind t rounds -/
def rowX (hs : List Nat) (bs : List Int) (t : Nat) : List Nat := (List.range 8).map fun i => atG (runT (hs, wordsTo bs 16) t).1 i t

theorem rowX_length (hs : List Nat) (bs : List Int) (t : Nat) : (rowX hs bs t).length = 8 := by simp [rowX]

theorem rowX_at (hs : List Nat) (bs : List Int) (t i : Nat) (h : i < 8) : (rowX hs bs t).getD i 0 = atG (runT (hs, wordsTo bs 16) t).1 i t := by
  rw [List.getD_eq_getElem?_getD]; simp [rowX, h]

theorem rowX_zero {hs : List Nat} (bs : List Int) (h : hs.length = 8) : rowX hs bs 0 = hs := by
  apply List.ext_getElem
  · rw [rowX_length, h]
  · intro i h1 h2
    have hi : i < 8 := by rwa [rowX_length] at h1
    simp only [rowX, List.getElem_map, List.getElem_range, atG, atN, runT]
    rw [show (i + 64 - 0) % 8 = i by omega, List.getD_eq_getElem?_getD, List.getElem?_eq_getElem h2]; rfl

def sX (row : List Nat) (k w : Nat) : Nat := add32 (add32 (add32 (add32 (row.getD 7 0) (mixN 6 11 25 false (row.getD 4 0))) (row.getD 6 0 ^^^ (row.getD 4 0 &&& (row.getD 5 0 ^^^ row.getD 6 0)))) k) w
def topX (row : List Nat) (s : Nat) : Nat := add32 (add32 s (mixN 2 13 22 false (row.getD 0 0))) ((row.getD 0 0 &&& row.getD 2 0) ||| (row.getD 1 0 &&& (row.getD 0 0 ||| row.getD 2 0)))

theorem runT_length (hs ws : List Nat) (t : Nat) : (runT (hs, ws) t).1.length = hs.length := by
  induction t with
  | zero => rfl
  | succ t ih => show (stepR _ _ t).length = _; unfold stepR; rw [List.length_set, List.length_set, ih]

theorem rowX_succ {hs : List Nat} (bs : List Int) (t : Nat) (h : hs.length = 8) (ht : t < 64) :
    rowX hs bs (t + 1) = [topX (rowX hs bs t) (sX (rowX hs bs t) (K64.getD t 0) (wX bs t)), (rowX hs bs t).getD 0 0, (rowX hs bs t).getD 1 0, (rowX hs bs t).getD 2 0, add32 ((rowX hs bs t).getD 3 0) (sX (rowX hs bs t) (K64.getD t 0) (wX bs t)), (rowX hs bs t).getD 4 0, (rowX hs bs t).getD 5 0, (rowX hs bs t).getD 6 0] := by
  have hl := runT_length hs (wordsTo bs 16) t
  have es : sumS (runT (hs, wordsTo bs 16) t).1 (K64.getD t 0) (newWord (runT (hs, wordsTo bs 16) t).2 t) t = sX (rowX hs bs t) (K64.getD t 0) (wX bs t) := by
    unfold sumS sX
    rw [rowX_at _ _ _ 7 (by omega), rowX_at _ _ _ 4 (by omega), rowX_at _ _ _ 5 (by omega), rowX_at _ _ _ 6 (by omega), runT_words]
    rfl
  have et : newTop (runT (hs, wordsTo bs 16) t).1 (sX (rowX hs bs t) (K64.getD t 0) (wX bs t)) t = topX (rowX hs bs t) (sX (rowX hs bs t) (K64.getD t 0) (wX bs t)) := by
    unfold newTop topX
    rw [rowX_at _ _ _ 0 (by omega), rowX_at _ _ _ 1 (by omega), rowX_at _ _ _ 2 (by omega)]
  have e1 : (runT (hs, wordsTo bs 16) (t + 1)).1 = stepR (runT (hs, wordsTo bs 16) t).1 (sX (rowX hs bs t) (K64.getD t 0) (wX bs t)) t := by
    show stepR _ (sumS _ _ _ t) t = _
    rw [es]
  have hget : ∀ i, i < 8 → atG (runT (hs, wordsTo bs 16) (t + 1)).1 i (t + 1) = if i = 0 then topX (rowX hs bs t) (sX (rowX hs bs t) (K64.getD t 0) (wX bs t)) else if i = 4 then add32 ((rowX hs bs t).getD 3 0) (sX (rowX hs bs t) (K64.getD t 0) (wX bs t)) else (rowX hs bs t).getD (i - 1) 0 := by
    intro i hi
    rw [e1]
    unfold stepR
    have l7 := atN_lt 7 t
    have l3 := atN_lt 3 t
    by_cases h0 : i = 0
    · rw [if_pos h0, ← et]
      unfold atG
      rw [show atN i (t + 1) = atN 7 t by unfold atN; omega, List.getD_eq_getElem?_getD, List.getElem?_set_self (by rw [List.length_set, hl, h]; exact l7)]
      rfl
    · rw [if_neg h0]
      by_cases h4 : i = 4
      · rw [if_pos h4, rowX_at _ _ _ 3 (by omega)]
        unfold atG
        rw [show atN i (t + 1) = atN 3 t by unfold atN; omega, List.getD_eq_getElem?_getD, List.getElem?_set_ne (by unfold atN; omega), List.getElem?_set_self (by rw [hl, h]; exact l3)]
        rfl
      · rw [if_neg h4, rowX_at _ _ _ (i - 1) (by omega)]
        unfold atG
        rw [show atN i (t + 1) = atN (i - 1) t by unfold atN; omega, List.getD_eq_getElem?_getD, List.getElem?_set_ne (by unfold atN; omega), List.getElem?_set_ne (by unfold atN; omega), ← List.getD_eq_getElem?_getD]
  have e8 : rowX hs bs (t + 1) = [0, 1, 2, 3, 4, 5, 6, 7].map fun i => atG (runT (hs, wordsTo bs 16) (t + 1)).1 i (t + 1) := rfl
  rw [e8]
  simp only [List.map_cons, List.map_nil]
  rw [hget 0 (by omega), hget 1 (by omega), hget 2 (by omega), hget 3 (by omega), hget 4 (by omega), hget 5 (by omega), hget 6 (by omega), hget 7 (by omega)]
  simp

theorem rowX_all {hs : List Nat} (bs : List Int) (h : hs.length = 8) : (List.range 8).map (fun j => add32 ((rowX hs bs 64).getD j 0) (hs.getD j 0)) = blockN hs bs := by
  unfold blockN
  apply List.ext_getElem
  · simp [runT_length, h]
  · intro i h1 h2
    have hi : i < 8 := by simpa using h1
    have hl := runT_length hs (wordsTo bs 16) 64
    simp only [List.getElem_map, List.getElem_range, List.getElem_zip]
    rw [rowX_at _ _ _ _ hi, List.getD_eq_getElem?_getD, List.getElem?_eq_getElem (by omega)]
    unfold atG
    rw [show atN i 64 = i by unfold atN; omega, List.getD_eq_getElem?_getD, List.getElem?_eq_getElem (by rw [hl]; omega)]
    simp only [Option.getD_some]
    unfold add32
    rw [Nat.add_comm]

end Go.Proofs.Ytkbhehnpgnilmaa
