/-
  Plain laws of layer 6: walks add, a signature leads to its key, each of two unlike digests has a digit below the other's, keys of bytes are keys of words. Conditions: bytes.
-/
import Derived.Test.YtkbhehnpgnilmaaWtJ
import Derived.Test.YtkbhehnpgnilmaaPkD
namespace Go.Proofs.Ytkbhehnpgnilmaa
open Go Go.RowKit
set_option linter.unusedSimpArgs false

theorem walkB_add (x : List Int) (c a : Int) (j : Nat) : ∀ k : Nat, walkB (walkB x c a j) c (a + j) k = walkB x c a (j + k)
  | 0 => rfl
  | k + 1 => by
    show stepB (walkB (walkB x c a j) c (a + j) k) c (a + j + k) = stepB (walkB x c a (j + k)) c (a + ((j + k : Nat) : Int))
    rw [walkB_add x c a j k]
    congr 1
    push_cast
    omega
theorem walkB_one (x : List Int) (c a : Int) (k : Nat) : walkB (stepB x c a) c (a + 1) k = walkB x c a (k + 1) := by
  have h := walkB_add x c a 1 k
  rw [show k + 1 = 1 + k by omega, ← h]
  show _ = walkB (stepB x c (a + ((0 : Nat) : Int))) c (a + ((1 : Nat) : Int)) k
  simp
theorem rowL_getD (g : Nat → List Int) (n i : Nat) (h : i < n) : (rowL g n).getD i [] = g i := by
  unfold rowL
  rw [List.getD_eq_getElem?_getD, List.getElem?_map, List.getElem?_range h]
  rfl
theorem digit_bd {m : List Int} (hm : IsD m) (i : Nat) (hi : i < 67) : 0 ≤ (digitsL m).getD i 0 ∧ (digitsL m).getD i 0 ≤ 15 := by
  have hl : i < (digitsL m).length := by rw [digitsL_length hm]; exact hi
  rw [List.getD_eq_getElem?_getD, List.getElem?_eq_getElem hl]
  exact digitsL_bd hm _ (List.getElem_mem hl)
theorem rec_sig {m : List Int} (hm : IsD m) (seed : List Int) : recB m (sigOf seed m) = keyOf seed := by
  unfold recB keyOf
  have e : recL m (sigOf seed m) 67 = rowL (endL seed) 67 := by
    unfold recL rowL
    refine List.map_congr_left fun i hi => ?_
    have hi := List.mem_range.1 hi
    have hb := digit_bd hm i hi
    show walkB ((sigOf seed m).getD i []) i _ _ = _
    unfold sigOf
    rw [rowL_getD _ _ _ hi]
    unfold sigL endL
    generalize (digitsL m).getD i 0 = d at hb
    have h := walkB_add (startB seed i) i 0 d.toNat (15 - d).toNat
    rw [show (0 : Int) + (d.toNat : Int) = d by omega, show d.toNat + (15 - d).toNat = 15 by omega] at h
    exact h
  rw [e]
theorem isD_row {g : Nat → List Int} {n : Nat} (h : ∀ i < n, IsD (g i)) : ∀ x ∈ rowL g n, IsD x := rowL_D h
theorem isD_key {seed : List Int} (h : IsD seed) : IsD (keyOf seed) := isD_sum (digB_allB (by omega) (rowL_D fun i _ => isD_end h i))
theorem isD_rec {m : List Int} {s : List (List Int)} (hs : ∀ x ∈ s, IsD x) (hl : s.length = 67) : IsD (recB m s) := isD_sum (digB_allB (by omega) (recL_D hs 67 (by omega)))
theorem sigOf_length (seed m : List Int) : (sigOf seed m).length = 67 := rowL_length _ _
theorem sigOf_D {seed : List Int} (h : IsD seed) (m : List Int) : ∀ x ∈ sigOf seed m, IsD x := rowL_D fun i _ => isD_sig h m i

/-! ### digits -/
theorem missF_add : ∀ (l : List Int) (a : Int), l.foldl (fun a d => a + (15 - d)) a = a + missL l
  | [], a => by simp [missL]
  | d :: l, a => by
    show l.foldl _ (a + (15 - d)) = a + l.foldl _ (0 + (15 - d))
    rw [missF_add l, missF_add l]
    omega
theorem missL_cons (d : Int) (l : List Int) : missL (d :: l) = (15 - d) + missL l := by
  show l.foldl _ (0 + (15 - d)) = _
  rw [missF_add]; omega
theorem miss_le : ∀ (l k : List Int), l.length = k.length → (∀ i, i < l.length → k.getD i 0 ≤ l.getD i 0) → missL l ≤ missL k ∧ (missL l = missL k → l = k)
  | [], [], _, _ => ⟨Int.le_refl _, fun _ => rfl⟩
  | [], _ :: _, h, _ => by simp at h
  | _ :: _, [], h, _ => by simp at h
  | x :: l, y :: k, h, hi => by
    have h0 := hi 0 (by simp)
    simp only [List.getD_cons_zero] at h0
    obtain ⟨h1, h2⟩ := miss_le l k (by simpa using h) (fun i hil => by simpa using hi (i + 1) (by simpa using hil))
    rw [missL_cons, missL_cons]
    refine ⟨by omega, fun e => ?_⟩
    obtain rfl : x = y := by omega
    rw [h2 (by omega)]
theorem digs_inj : ∀ (a b : List Int), digsL a = digsL b → a = b
  | [], [], _ => rfl
  | [], _ :: _, h => by simp [digsL] at h
  | _ :: _, [], h => by simp [digsL] at h
  | x :: a, y :: b, h => by
    have e : digsL (x :: a) = x / 16 :: x % 16 :: digsL a := rfl
    have e2 : digsL (y :: b) = y / 16 :: y % 16 :: digsL b := rfl
    rw [e, e2] at h
    injection h with h1 h
    injection h with h2 h
    rw [digs_inj a b h, show x = y by omega]
theorem getD_left {l r : List Int} {i : Nat} (h : i < l.length) : (l ++ r).getD i 0 = l.getD i 0 := by
  rw [List.getD_eq_getElem?_getD, List.getD_eq_getElem?_getD, List.getElem?_append_left h]
theorem getD_right {l r : List Int} {i : Nat} (n : Nat) (h : l.length = n) (hi : n ≤ i) : (l ++ r).getD i 0 = r.getD (i - n) 0 := by
  rw [List.getD_eq_getElem?_getD, List.getD_eq_getElem?_getD, List.getElem?_append_right (by omega), h]
theorem below_law {a b : List Int} (ha : IsD a) (hb : IsD b) (hne : a ≠ b) : ∃ i, i < 67 ∧ (digitsL a).getD i 0 < (digitsL b).getD i 0 := by
  refine Classical.byContradiction fun hc => ?_
  have hge : ∀ i, i < 67 → (digitsL b).getD i 0 ≤ (digitsL a).getD i 0 := fun i hi => by
    refine Classical.byContradiction fun hlt => ?_
    exact hc ⟨i, hi, by omega⟩
  have la : (digsL a).length = 64 := by rw [digsL_length, ha.1]
  have lb : (digsL b).length = 64 := by rw [digsL_length, hb.1]
  have h1 := miss_le (digsL a) (digsL b) (by omega) (fun i hi => by
    have := hge i (by omega)
    unfold digitsL at this
    rwa [getD_left (by omega), getD_left (by omega)] at this)
  have h64 := hge 64 (by omega)
  have h65 := hge 65 (by omega)
  have h66 := hge 66 (by omega)
  unfold digitsL at h64 h65 h66
  rw [getD_right 64 la (by omega), getD_right 64 lb (by omega)] at h64 h65 h66
  simp only [Nat.sub_self, Nat.reduceSub, List.getD_cons_zero, List.getD_cons_succ] at h64 h65 h66
  exact hne (digs_inj a b (h1.2 (by omega)))
theorem below_self (a : List Int) : ¬ ∃ i, i < 67 ∧ (digitsL a).getD i 0 < (digitsL a).getD i 0 := fun ⟨_, _, h⟩ => by omega

/-! ### keys of bytes and of words -/
theorem bytesN_cons (x : Nat) (xs : List Nat) : bytesN (x :: xs) = beAt (x : Int) 4 0 :: beAt (x : Int) 4 1 :: beAt (x : Int) 4 2 :: beAt (x : Int) 4 3 :: bytesN xs := rfl
theorem bytesN_inj : ∀ (a b : List Nat), All32 a → All32 b → bytesN a = bytesN b → a = b
  | [], [], _, _, _ => rfl
  | [], _ :: _, _, _, h => by rw [bytesN_cons] at h; exact absurd h (by simp [bytesN])
  | _ :: _, [], _, _, h => by rw [bytesN_cons] at h; exact absurd h (by simp [bytesN])
  | x :: a, y :: b, ha, hb, h => by
    have hx := ha x (by simp)
    have hy := hb y (by simp)
    rw [bytesN_cons, bytesN_cons] at h
    injection h with h0 h
    injection h with h1 h
    injection h with h2 h
    injection h with h3 h
    rw [bytesN_inj a b (fun z hz => ha z (by simp [hz])) (fun z hz => hb z (by simp [hz])) h]
    congr 1
    simp [beAt] at h0 h1 h2 h3
    omega
theorem startB_W {S : List Nat} (hS : S.length = 8 ∧ All32 S) (c : Nat) (hc : c < 256) : startB (bytesN S) c = bytesN (dig2 83 c S) := by
  unfold startB
  rw [show digB 83 [(c : Int)] [bytesN S] = (83 : Int) :: (c : Int) :: bytesN S from by
    show (83 : Int) :: (((c : Int) % 256) :: (bytesN S ++ [])) = _
    rw [Int.emod_eq_of_lt (by omega) (by omega), List.append_nil]]
  exact sum2 83 c S (by omega) hc hS.1 hS.2
theorem stepB_W {S : List Nat} (hS : S.length = 8 ∧ All32 S) (c n : Nat) (hc : c < 256) (hn : n < 256) : stepB (bytesN S) c n = bytesN (dig3 67 c n S) := by
  unfold stepB
  rw [show digB 67 [(c : Int), (n : Int)] [bytesN S] = (67 : Int) :: (c : Int) :: (n : Int) :: bytesN S from by
    show (67 : Int) :: (((c : Int) % 256) :: (((n : Int) % 256) :: (bytesN S ++ []))) = _
    rw [Int.emod_eq_of_lt (by omega) (by omega), Int.emod_eq_of_lt (by omega) (by omega), List.append_nil]]
  exact sum3 67 c n S (by omega) hc hn hS.1 hS.2
theorem walkB_W {S : List Nat} (hS : S.length = 8 ∧ All32 S) (c : Nat) (hc : c < 256) : ∀ k : Nat, k ≤ 15 → walkB (bytesN S) c 0 k = bytesN ((List.range k).foldl (fun x s => dig3 67 c s x) S)
  | 0, _ => rfl
  | k + 1, hk => by
    show stepB (walkB (bytesN S) c 0 k) c (0 + (k : Int)) = _
    rw [walkB_W hS c hc k (by omega), List.range_succ, List.foldl_append, Int.zero_add]
    exact stepB_W (foldl_dig3_good 67 c _ _ hS) c k hc (by omega)
theorem endL_W {S : List Nat} (hS : S.length = 8 ∧ All32 S) (c : Nat) (hc : c < 256) : endL (bytesN S) c = bytesN (endW S c) := by
  unfold endL endW
  rw [startB_W hS c hc]
  exact walkB_W (dig2_good _ _ _) c hc 15 (by omega)
theorem bytesN_flat (f : Nat → List Nat) : ∀ l : List Nat, (l.map fun i => bytesN (f i)).flatten = bytesN (l.flatMap f)
  | [] => rfl
  | i :: l => by
    rw [List.map_cons, List.flatten_cons, bytesN_flat f l, List.flatMap_cons]
    unfold bytesN
    rw [List.flatMap_append]
theorem keyOf_W {S : List Nat} (hS : S.length = 8 ∧ All32 S) : keyOf (bytesN S) = bytesN (keyW S) := by
  unfold keyOf keyW digB rowL
  have e : (List.range 67).map (endL (bytesN S)) = (List.range 67).map (fun i => bytesN (endW S i)) := List.map_congr_left fun i hi => endL_W hS i (by have := List.mem_range.1 hi; omega)
  rw [e, List.map_nil, List.nil_append, bytesN_flat]
  exact sumK (flat_len (fun i => (endW_good S i).1) 67) (flat_32 (fun i => (endW_good S i).2) 67)
theorem chainW_good : ∀ (n : Nat) (ws H : List Nat), H.length = 8 ∧ All32 H → (chainW H n ws).length = 8 ∧ All32 (chainW H n ws)
  | 0, _, _, h => h
  | n + 1, ws, H, h => chainW_good n (ws.drop 16) (blockW H (ws.take 16)) (blockW_good h.1 h.2)
theorem keyW_all (S : List Nat) : All32 (keyW S) := (chainW_good _ _ _ H8g).2
theorem seedA_good : seedA.length = 8 ∧ All32 seedA := ⟨rfl, by intro x hx; revert x; decide⟩
theorem seedB_good : seedB.length = 8 ∧ All32 seedB := ⟨rfl, by intro x hx; revert x; decide⟩
def idA : List Int := 1 :: List.replicate 31 0
def idB : List Int := 3 :: List.replicate 31 0
def idM : List Int := 2 :: List.replicate 31 0
theorem idA_W : bytesN seedA = idA := by decide
theorem idB_W : bytesN seedB = idB := by decide
theorem isD_A : IsD idA := ⟨by simp [idA], by unfold AllB idA; decide⟩
theorem isD_B : IsD idB := ⟨by simp [idB], by unfold AllB idB; decide⟩
theorem isD_M : IsD idM := ⟨by simp [idM], by unfold AllB idM; decide⟩
theorem key_AB : keyOf idA ≠ keyOf idB := by
  rw [← idA_W, ← idB_W, keyOf_W seedA_good, keyOf_W seedB_good]
  intro h
  exact keys_apart (bytesN_inj _ _ (keyW_all _) (keyW_all _) h)
theorem digits_zer : digitsL zer32 = List.replicate 64 0 ++ [3, 12, 0] := by decide +kernel

end Go.Proofs.Ytkbhehnpgnilmaa
