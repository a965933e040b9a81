/-
  Blocks and chains of blocks by their words. Plain mathematics. Conditions: bytes, numbers below 2^32.
-/
import Derived.Test.YtkbhehnpgnilmaaPkA
import Derived.Test.YtkbhehnpgnilmaaRefW
namespace Go.Proofs.Ytkbhehnpgnilmaa
open Go Go.RowKit
set_option linter.unusedSimpArgs false

theorem wX_rec (bs : List Int) (t : Nat) : wX bs (t + 16) = add32 (wX bs t) (add32 (add32 (mixN 17 19 10 true (wX bs (t + 14))) (wX bs (t + 9))) (mixN 7 18 3 true (wX bs (t + 1)))) := by
  have h := (runW_at bs (t + 16)).1
  have e0 := h t (by omega) (by omega)
  have e14 := h (t + 14) (by omega) (by omega)
  have e9 := h (t + 9) (by omega) (by omega)
  have e1 := h (t + 1) (by omega) (by omega)
  show newWord (runW (wordsTo bs 16) (t + 16)) (t + 16) = _
  unfold newWord
  rw [if_neg (by omega), show (t + 16) % 16 = t % 16 by omega, show t + 16 - 2 = t + 14 by omega, show t + 16 - 7 = t + 9 by omega, show t + 16 - 15 = t + 1 by omega, e0, e14, e9, e1]

theorem list8 {l : List Nat} (h : l.length = 8) : [l.getD 0 0, l.getD 1 0, l.getD 2 0, l.getD 3 0, l.getD 4 0, l.getD 5 0, l.getD 6 0, l.getD 7 0] = l := by
  match l, h with
  | [_, _, _, _, _, _, _, _], _ => rfl

theorem goS_row {hs : List Nat} (bs : List Int) (hh : hs.length = 8) : ∀ (d t : Nat), t + d = 64 →
    goS (K64.drop t) ((rowX hs bs t).getD 0 0) ((rowX hs bs t).getD 1 0) ((rowX hs bs t).getD 2 0) ((rowX hs bs t).getD 3 0) ((rowX hs bs t).getD 4 0) ((rowX hs bs t).getD 5 0) ((rowX hs bs t).getD 6 0) ((rowX hs bs t).getD 7 0)
      (wX bs t) (wX bs (t + 1)) (wX bs (t + 2)) (wX bs (t + 3)) (wX bs (t + 4)) (wX bs (t + 5)) (wX bs (t + 6)) (wX bs (t + 7)) (wX bs (t + 8)) (wX bs (t + 9)) (wX bs (t + 10)) (wX bs (t + 11)) (wX bs (t + 12)) (wX bs (t + 13)) (wX bs (t + 14)) (wX bs (t + 15)) = rowX hs bs 64
  | 0, t, h => by
    obtain rfl : t = 64 := by omega
    exact list8 (rowX_length hs bs 64)
  | d + 1, t, h => by
    have ht : t < 64 := by omega
    have hk : K64.drop t = K64.getD t 0 :: K64.drop (t + 1) := by
      have hl : t < K64.length := ht
      rw [List.drop_eq_getElem_cons hl, List.getD_eq_getElem?_getD, List.getElem?_eq_getElem hl]; rfl
    have ih := goS_row bs hh d (t + 1) (by omega)
    rw [rowX_succ bs t hh ht] at ih
    simp only [List.getD_cons_zero, List.getD_cons_succ] at ih
    rw [hk, ← ih]
    rw [show t + 1 + 15 = t + 16 by omega, wX_rec]
    rfl

/-- eight numbers behind sixteen words -/
def blockW (hs ws : List Nat) : List Nat :=
  (hs.zip (goS K64 (hs.getD 0 0) (hs.getD 1 0) (hs.getD 2 0) (hs.getD 3 0) (hs.getD 4 0) (hs.getD 5 0) (hs.getD 6 0) (hs.getD 7 0)
    (ws.getD 0 0) (ws.getD 1 0) (ws.getD 2 0) (ws.getD 3 0) (ws.getD 4 0) (ws.getD 5 0) (ws.getD 6 0) (ws.getD 7 0) (ws.getD 8 0) (ws.getD 9 0) (ws.getD 10 0) (ws.getD 11 0) (ws.getD 12 0) (ws.getD 13 0) (ws.getD 14 0) (ws.getD 15 0))).map fun p => add32 p.1 p.2

theorem wordsTo_get (bs : List Int) (j : Nat) (h : j < 16) : (wordsTo bs 16).getD j 0 = wordAt bs j := by
  unfold wordsTo
  rw [List.getD_eq_getElem?_getD, List.getElem?_map, List.getElem?_range h]
  simp [h]

theorem zip8 {hs r : List Nat} (h : hs.length = 8) (h2 : r.length = 8) : (hs.zip r).map (fun p => add32 p.1 p.2) = (List.range 8).map (fun j => add32 (r.getD j 0) (hs.getD j 0)) := by
  match hs, h, r, h2 with
  | [_, _, _, _, _, _, _, _], _, [_, _, _, _, _, _, _, _], _ => simp [List.range_succ, List.range_zero, add32, Nat.add_comm]

theorem blockN_W {hs : List Nat} (bs : List Int) (hh : hs.length = 8) : blockN hs bs = blockW hs (wordsTo bs 16) := by
  have h := goS_row bs hh 64 0 rfl
  rw [rowX_zero bs hh, List.drop_zero] at h
  simp only [Nat.zero_add] at h
  rw [← rowX_all bs hh, ← zip8 hh (rowX_length hs bs 64), ← h]
  unfold blockW
  simp only [wordsTo_get _ _ (show 0 < 16 by omega), wordsTo_get _ _ (show 1 < 16 by omega), wordsTo_get _ _ (show 2 < 16 by omega), wordsTo_get _ _ (show 3 < 16 by omega), wordsTo_get _ _ (show 4 < 16 by omega), wordsTo_get _ _ (show 5 < 16 by omega), wordsTo_get _ _ (show 6 < 16 by omega), wordsTo_get _ _ (show 7 < 16 by omega), wordsTo_get _ _ (show 8 < 16 by omega), wordsTo_get _ _ (show 9 < 16 by omega), wordsTo_get _ _ (show 10 < 16 by omega), wordsTo_get _ _ (show 11 < 16 by omega), wordsTo_get _ _ (show 12 < 16 by omega), wordsTo_get _ _ (show 13 < 16 by omega), wordsTo_get _ _ (show 14 < 16 by omega), wordsTo_get _ _ (show 15 < 16 by omega),
    wX_small _ _ (show 0 < 16 by omega), wX_small _ _ (show 1 < 16 by omega), wX_small _ _ (show 2 < 16 by omega), wX_small _ _ (show 3 < 16 by omega), wX_small _ _ (show 4 < 16 by omega), wX_small _ _ (show 5 < 16 by omega), wX_small _ _ (show 6 < 16 by omega), wX_small _ _ (show 7 < 16 by omega), wX_small _ _ (show 8 < 16 by omega), wX_small _ _ (show 9 < 16 by omega), wX_small _ _ (show 10 < 16 by omega), wX_small _ _ (show 11 < 16 by omega), wX_small _ _ (show 12 < 16 by omega), wX_small _ _ (show 13 < 16 by omega), wX_small _ _ (show 14 < 16 by omega), wX_small _ _ (show 15 < 16 by omega)]

/-- the words of bytes -/
def wordsB : List Int → List Nat
  | a :: b :: c :: d :: r => (valL [a, b, c, d]).toNat :: wordsB r
  | _ => []

theorem wordsB_get : ∀ (k : Nat) (bs : List Int), 4 * k + 4 ≤ bs.length → (wordsB bs).getD k 0 = wordAt bs k
  | 0, a :: b :: c :: d :: r, _ => rfl
  | k + 1, a :: b :: c :: d :: r, h => by
    have := wordsB_get k r (by simp only [List.length_cons] at h; omega)
    show (wordsB r).getD k 0 = _
    rw [this]
    unfold wordAt
    rw [show 4 * (k + 1) = 4 * k + 4 by omega]
    rfl
  | _, [], h => by simp at h
  | _, [_], h => by simp at h
  | _, [_, _], h => by simp at h
  | _, [_, _, _], h => by simp at h

theorem wordsB_length : ∀ (bs : List Int), (wordsB bs).length = bs.length / 4
  | a :: b :: c :: d :: r => by
    show (wordsB r).length + 1 = (r.length + 4) / 4
    rw [wordsB_length r]; omega
  | [] => rfl
  | [_] => by simp [wordsB]
  | [_, _] => by simp [wordsB]
  | [_, _, _] => by simp [wordsB]

theorem wordsB_drop : ∀ (k : Nat) (bs : List Int), wordsB (bs.drop (4 * k)) = (wordsB bs).drop k
  | 0, bs => rfl
  | k + 1, a :: b :: c :: d :: r => by
    show wordsB ((a :: b :: c :: d :: r).drop (4 * k + 4)) = (wordsB r).drop k
    rw [← wordsB_drop k r]; rfl
  | k + 1, [] => by simp [wordsB]
  | k + 1, [_] => by rw [List.drop_eq_nil_of_le (by simp; omega)]; simp [wordsB]
  | k + 1, [_, _] => by rw [List.drop_eq_nil_of_le (by simp; omega)]; simp [wordsB]
  | k + 1, [_, _, _] => by rw [List.drop_eq_nil_of_le (by simp; omega)]; simp [wordsB]

theorem wordAt_take (bs : List Int) (j : Nat) (h : j < 16) : wordAt (bs.take 64) j = wordAt bs j := by
  unfold wordAt
  rw [List.drop_take, List.take_take, show min 4 (64 - 4 * j) = 4 by omega]

theorem wordsTo_B (bs : List Int) (h : 64 ≤ bs.length) : wordsTo (bs.take 64) 16 = (wordsB bs).take 16 := by
  apply List.ext_getElem
  · rw [wordsTo_length, List.length_take, wordsB_length]; omega
  · intro i h1 h2
    have hi : i < 16 := by rwa [wordsTo_length] at h1
    have e1 : (wordsTo (bs.take 64) 16)[i]'h1 = (wordsTo (bs.take 64) 16).getD i 0 := by rw [List.getD_eq_getElem?_getD, List.getElem?_eq_getElem h1]; rfl
    have h3 : i < (wordsB bs).length := by rw [wordsB_length]; omega
    have e2 : (wordsB bs)[i] = (wordsB bs).getD i 0 := by rw [List.getD_eq_getElem?_getD, List.getElem?_eq_getElem h3]; rfl
    refine e1.trans ?_
    rw [wordsTo_get _ _ hi, wordAt_take bs i hi, ← wordsB_get i bs (by omega), ← e2, List.getElem_take]

/-- eight numbers behind n blocks of words -/
def chainW (hs : List Nat) : Nat → List Nat → List Nat
  | 0, _ => hs
  | n + 1, ws => chainW (blockW hs (ws.take 16)) n (ws.drop 16)

theorem chainN_W : ∀ (n : Nat) (hs : List Nat) (bs : List Int), hs.length = 8 → All32 hs → AllB bs → bs.length = 64 * n → chainN hs n bs = chainW hs n (wordsB bs)
  | 0, _, _, _, _, _, _ => rfl
  | n + 1, hs, bs, hh, h32, ha, hl => by
    have hat : AllB (bs.take 64) := fun c hc => ha c (List.mem_of_mem_take hc)
    have e := blockN_W (bs.take 64) hh
    rw [wordsTo_B bs (by omega)] at e
    show chainN (blockN hs (bs.take 64)) n (bs.drop 64) = chainW (blockW hs ((wordsB bs).take 16)) n ((wordsB bs).drop 16)
    rw [← e, ← wordsB_drop 16 bs]
    exact chainN_W n _ _ (blockN_length hh h32 hat) (blockN_32 _ _) (fun c hc => ha c (List.mem_of_mem_drop hc)) (by rw [List.length_drop]; omega)

theorem sumL_W {bs : List Int} (ha : AllB bs) : sumL bs = bytesN (chainW H8 ((padL bs).length / 64) (wordsB (padL bs))) := by
  unfold sumL
  rw [chainN_W _ H8 _ rfl (fun x hx => by revert x; decide) (padL_allB ha) (by have := padL_mod bs; omega)]

end Go.Proofs.Ytkbhehnpgnilmaa
