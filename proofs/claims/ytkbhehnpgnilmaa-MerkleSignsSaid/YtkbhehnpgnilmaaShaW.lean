/-
  The words of a block, and what a block, a row of blocks and a filled-up row come to, as plain functions. Plain mathematics. Conditions: bytes, numbers of 32 bits.
-/
import Derived.Test.YtkbhehnpgnilmaaShaM
import Derived.Test.YtkbhehnpgnilmaaBe
namespace Go.Proofs.Ytkbhehnpgnilmaa
open Go Go.RowKit

/-- the k-th word of a block -/
def wordAt (bs : List Int) (k : Nat) : Nat := (valL ((bs.drop (4 * k)).take 4)).toNat
/-- the words behind k rounds -/
def wordsTo (bs : List Int) (k : Nat) : List Nat := (List.range 16).map fun j => if j < k then wordAt bs j else 0

theorem wordsTo_succ (bs : List Int) (k : Nat) : (wordsTo bs k).set k (wordAt bs k) = wordsTo bs (k + 1) := by
  unfold wordsTo
  apply List.ext_getElem
  · simp
  · intro i h1 h2
    simp only [List.getElem_set, List.getElem_map, List.getElem_range]
    by_cases e : k = i
    · subst e; simp
    · rw [if_neg e]
      by_cases h3 : i < k
      · rw [if_pos h3, if_pos (by omega)]
      · rw [if_neg h3, if_neg (by omega)]

theorem cut4 {bs : List Int} (ha : AllB bs) (k : Nat) : AllB ((bs.drop (4 * k)).take 4) := fun c hc => ha c (List.mem_of_mem_drop (List.mem_of_mem_take hc))

theorem wordAt_lt {bs : List Int} (ha : AllB bs) (k : Nat) : wordAt bs k < 4294967296 := by
  have h := valL_bd _ (cut4 ha k)
  have hl : ((bs.drop (4 * k)).take 4).length ≤ 4 := List.length_take_le _ _
  have hp : (256 : Int) ^ ((bs.drop (4 * k)).take 4).length ≤ 256 ^ 4 := by
    have : ∀ n : Nat, n ≤ 4 → (256 : Int) ^ n ≤ 256 ^ 4 := by decide
    exact this _ hl
  unfold wordAt
  omega

theorem word_val {bs : List Int} (ha : AllB bs) (k : Nat) : IntKind.u32.wrap (numF ((bs.drop (4 * k)).take 4)) = ((wordAt bs k : Nat) : Int) := by
  have h0 := (valL_bd _ (cut4 ha k)).1
  have h1 := wordAt_lt ha k
  rw [numF_val _ (cut4 ha k), IntKind.wrap_u32]
  unfold wordAt at *
  omega

theorem words_lt {bs : List Int} (ha : AllB bs) : All32 (wordsTo bs 16) := by
  intro x hx
  obtain ⟨j, _, rfl⟩ := List.mem_map.1 hx
  split
  · exact wordAt_lt ha j
  · omega

theorem takeF_drop (bs : List Int) (k : Nat) (h : 4 * k + 4 ≤ bs.length) : takeF (bs.drop (4 * k)) 0 4 = (bs.drop (4 * (k + 1)), 0, (bs.drop (4 * k)).take 4) := by
  have := takeF_ok (bs := bs.drop (4 * k)) (n := 4) (by rw [List.length_drop]; omega)
  rw [List.drop_drop] at this
  exact this

theorem stepW_small {ws : List Nat} {t : Nat} (h : t < 16) : stepW ws t = ws := by
  unfold stepW newWord
  rw [if_pos h]
  apply List.ext_getElem?
  intro i
  by_cases hi : t % 16 = i
  · subst hi
    by_cases hl : t % 16 < ws.length
    · rw [List.getElem?_set_self hl, List.getD_eq_getElem?_getD, List.getElem?_eq_getElem hl]; rfl
    · rw [List.getElem?_eq_none (by rw [List.length_set]; omega), List.getElem?_eq_none (by omega)]
  · rw [List.getElem?_set_ne hi]

theorem stepW_at {ws : List Nat} {t i : Nat} (hi : i = t % 16) (hl : i < ws.length) : (stepW ws t).getD i 0 = newWord ws t := by
  subst hi
  unfold stepW
  rw [List.getD_eq_getElem?_getD, List.getElem?_set_self hl]; rfl

theorem atG_set {row : List Nat} {i j t x : Nat} (ht : t < 64) (hi : i < 8) (hj : j < 8) (hij : i ≠ j) : atG (row.set (atN i t) x) j t = atG row j t := by
  unfold atG
  rw [List.getD_eq_getElem?_getD, List.getElem?_set_ne (fun e => hij (atN_inj hi hj ht e)), ← List.getD_eq_getElem?_getD]

/-- eight numbers behind a block -/
def blockN (hs : List Nat) (bs : List Int) : List Nat := (hs.zip (runT (hs, wordsTo bs 16) 64).1).map fun p => add32 p.1 p.2

/-- the numbers handed in, k of them with the row's added -/
def addTo (hs row : List Nat) (k : Nat) : List Nat := (List.range 8).map fun j => if j < k then add32 (hs.getD j 0) (row.getD j 0) else hs.getD j 0

theorem addTo_length (hs row : List Nat) (k : Nat) : (addTo hs row k).length = 8 := by simp [addTo]

theorem addTo_at (hs row : List Nat) (k j : Nat) (h : j < 8) : (addTo hs row k).getD j 0 = if j < k then add32 (hs.getD j 0) (row.getD j 0) else hs.getD j 0 := by
  unfold addTo
  rw [List.getD_eq_getElem?_getD, List.getElem?_map, List.getElem?_range h]; rfl

theorem addTo_zero {hs row : List Nat} (h : hs.length = 8) : addTo hs row 0 = hs := by
  apply List.ext_getElem
  · rw [addTo_length, h]
  · intro i h1 h2
    simp [addTo, h2]

theorem addTo_succ (hs row : List Nat) (k : Nat) : (addTo hs row k).set k (add32 (hs.getD k 0) (row.getD k 0)) = addTo hs row (k + 1) := by
  apply List.ext_getElem
  · simp [addTo]
  · intro i h1 h2
    rw [List.getElem_set]
    by_cases hki : k = i
    · subst hki; rw [if_pos rfl]; simp [addTo]
    · rw [if_neg hki]
      simp only [addTo, List.getElem_map, List.getElem_range]
      by_cases h3 : i < k
      · rw [if_pos h3, if_pos (by omega)]
      · rw [if_neg h3, if_neg (by omega)]

theorem addTo_all {hs row : List Nat} (h : hs.length = 8) (h2 : row.length = 8) : addTo hs row 8 = (hs.zip row).map fun p => add32 p.1 p.2 := by
  apply List.ext_getElem
  · simp [addTo, h, h2]
  · intro i h3 h4
    have hi : i < 8 := by rwa [addTo_length] at h3
    simp [addTo, hi, h, h2]

/-- bytes, filled up -/
def padL (bs : List Int) : List Int := bs ++ 128 :: (List.replicate ((119 - bs.length % 64) % 64) 0 ++ beF (8 * (bs.length : Int)) 8)

/-- eight numbers behind n blocks -/
def chainN (hs : List Nat) : Nat → List Int → List Nat
  | 0, _ => hs
  | n + 1, bs => chainN (blockN hs (bs.take 64)) n (bs.drop 64)

/-- the bytes of numbers of 32 bits -/
def bytesN (xs : List Nat) : List Int := xs.flatMap fun x : Nat => beF (x : Int) 4

/-- the digest of bytes -/
def sumL (bs : List Int) : List Int := bytesN (chainN H8 ((padL bs).length / 64) (padL bs))

theorem padL_length (bs : List Int) : (padL bs).length = bs.length + 9 + (119 - bs.length % 64) % 64 := by simp [padL, beF_length]; omega

theorem padL_mod (bs : List Int) : (padL bs).length % 64 = 0 := by rw [padL_length]; omega

theorem padL_allB {bs : List Int} (h : AllB bs) : AllB (padL bs) := by
  intro c hc
  rw [padL, List.mem_append, List.mem_cons, List.mem_append] at hc
  rcases hc with h1 | h1 | h1 | h1
  · exact h c h1
  · subst h1; omega
  · have := (List.mem_replicate.1 h1).2; omega
  · exact beF_allB _ _ c h1

theorem runT_good {row ws : List Nat} (h : ShaGood row ws) : ∀ n, ShaGood (runT (row, ws) n).1 (runT (row, ws) n).2
  | 0 => h
  | n + 1 => by
    have := runT_good h n
    exact this.step n

theorem start_good {hs : List Nat} {bs : List Int} (hh : hs.length = 8) (h32 : All32 hs) (ha : AllB bs) : ShaGood hs (wordsTo bs 16) :=
  ⟨hh, by simp [wordsTo], h32, words_lt ha⟩

theorem blockN_length {hs : List Nat} {bs : List Int} (hh : hs.length = 8) (h32 : All32 hs) (ha : AllB bs) : (blockN hs bs).length = 8 := by
  have := (runT_good (start_good hh h32 ha) 64).hr
  simp [blockN, hh, this]

theorem blockN_32 (hs : List Nat) (bs : List Int) : All32 (blockN hs bs) := by
  intro x hx
  obtain ⟨p, _, rfl⟩ := List.mem_map.1 hx
  exact add32_lt _ _

theorem allB_take {bs : List Int} (h : AllB bs) (n : Nat) : AllB (bs.take n) := fun c hc => h c (List.mem_of_mem_take hc)
theorem allB_drop {bs : List Int} (h : AllB bs) (n : Nat) : AllB (bs.drop n) := fun c hc => h c (List.mem_of_mem_drop hc)

theorem chainN_good : ∀ (n : Nat) (hs : List Nat) (bs : List Int), hs.length = 8 → All32 hs → AllB bs → (chainN hs n bs).length = 8 ∧ All32 (chainN hs n bs)
  | 0, _, _, hh, h32, _ => ⟨hh, h32⟩
  | n + 1, _, _, hh, h32, ha => chainN_good n _ _ (blockN_length hh h32 (allB_take ha 64)) (blockN_32 _ _) (allB_drop ha 64)

theorem H8_good : H8.length = 8 ∧ All32 H8 := ⟨by decide, by unfold All32; decide⟩

theorem bytesN_length (xs : List Nat) : (bytesN xs).length = 4 * xs.length := by
  induction xs with
  | nil => rfl
  | cons x xs ih =>
    have : bytesN (x :: xs) = beF (x : Int) 4 ++ bytesN xs := rfl
    rw [this, List.length_append, beF_length, ih, List.length_cons]; omega

theorem bytesN_allB (xs : List Nat) : AllB (bytesN xs) := by
  intro c hc
  obtain ⟨x, _, h⟩ := List.mem_flatMap.1 hc
  exact beF_allB _ _ c h

theorem sumL_length {bs : List Int} (h : AllB bs) : (sumL bs).length = 32 := by
  rw [sumL, bytesN_length, (chainN_good _ _ _ H8_good.1 H8_good.2 (padL_allB h)).1]

theorem sumL_allB (bs : List Int) : AllB (sumL bs) := bytesN_allB _

end Go.Proofs.Ytkbhehnpgnilmaa
