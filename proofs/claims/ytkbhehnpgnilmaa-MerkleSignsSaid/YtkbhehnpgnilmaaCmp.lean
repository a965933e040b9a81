/-
  bytes.Compare walked; and that rows in as many bytes stand as their numbers do. Conditions: bytes.
-/
import Derived.Test.YtkbhehnpgnilmaaPut
import Derived.Laws.Externs
namespace Go.Proofs.Ytkbhehnpgnilmaa
open Go Go.RowKit

theorem run_loadBytes {P : Program} (w : World) : ∀ (bs : List Int) (a : Addr) (acc : ByteArray), (∀ i u, (ofK .u8 bs)[i]? = some u → w.cell? (a.add i) = some u) →
    (Extern.Bytes.loadBytes a bs.length acc).run P w = .ok ⟨acc.data ++ (toU8 bs).toArray⟩ w := by
  intro bs
  induction bs with
  | nil => intro a acc _; simp [Extern.Bytes.loadBytes, toU8, Sem.run_pure]
  | cons b bs ih =>
    intro a acc h
    have h0 : w.cell? a = some (.int .u8 b) := by
      have := h 0 (.int .u8 b) (by simp [ofK])
      simpa [Addr.add] using this
    have hr := ih (a.add 1) (acc.push b.toNat.toUInt8) (fun i u hu => by
      rw [Addr.add_add, Nat.add_comm]
      exact h (i + 1) u (by simpa [ofK] using hu))
    simp only [List.length_cons, Extern.Bytes.loadBytes, Sem.run_bind, run_load, h0, Result.andThen]
    rw [hr]
    simp [toU8, ByteArray.push]

theorem run_bytesOf_sl {P : Program} (w : World) (v : Value) (bs : List Int) (h : Sl w v (ofK .u8 bs)) : (Extern.Bytes.bytesOf v).run P w = .ok (toB bs) w := by
  rcases h with ⟨rfl, h2⟩ | ⟨ad, c, rfl, h2, h3, h4⟩
  · have : bs = [] := by simpa [ofK] using h2
    subst this
    rfl
  · rw [length_ofK]
    show (Extern.Bytes.loadBytes ad bs.length ByteArray.empty).run P w = _
    rw [run_loadBytes w bs ad _ h4]
    simp [toB]

/-- how two rows stand, byte by byte -/
def cmpL : List Int → List Int → Int
  | x :: xs, y :: ys => if x = y then cmpL xs ys else if x < y then -1 else 1
  | [], [] => 0
  | [], _ :: _ => -1
  | _ :: _, [] => 1

theorem run_compare {P : Program} (w : World) (v1 v2 : Value) (xs ys : List Int) (h1 : Sl w v1 (ofK .u8 xs)) (h2 : Sl w v2 (ofK .u8 ys)) :
    (Extern.BytealgCompare.compare #[v1, v2]).run P w = .ok (.int .i64 (Extern.BytealgCompare.cmp (toB xs) (toB ys))) w := by
  change Sem.run P (do pure (goInt (Extern.BytealgCompare.cmp (← Extern.Bytes.bytesOf v1) (← Extern.Bytes.bytesOf v2)))) w = _
  simp only [Sem.run_bind, run_bytesOf_sl w v1 xs h1, run_bytesOf_sl w v2 ys h2, Result.andThen, Sem.run_pure]
  rfl

theorem toB_get (bs : List Int) (i : Nat) : (toB bs)[i]! = (toU8 bs).getD i default := by
  by_cases h : i < (toB bs).size
  · rw [getElem!_pos (toB bs) i h]
    have h' : i < (toU8 bs).length := by simpa [toB, ByteArray.size] using h
    rw [List.getD_eq_getElem?_getD, List.getElem?_eq_getElem h', Option.getD_some]
    simp [toB, ByteArray.getElem_eq_getElem_data]
  · rw [getElem!_neg (toB bs) i h]
    have h' : ¬ i < (toU8 bs).length := by simpa [toB, ByteArray.size] using h
    rw [List.getD_eq_getElem?_getD, List.getElem?_eq_none (by omega)]
    rfl

theorem toB_size (bs : List Int) : (toB bs).size = bs.length := by simp [toB, toU8, ByteArray.size]

theorem cmp_eq (xs ys : List Int) (hx : AllB xs) (hy : AllB ys) (hl : xs.length = ys.length) : Extern.BytealgCompare.cmp (toB xs) (toB ys) = cmpL xs ys := by
  induction xs generalizing ys with
  | nil =>
    obtain rfl : ys = [] := List.eq_nil_of_length_eq_zero (by simpa using hl.symm)
    rfl
  | cons x xs ih =>
    cases ys with
    | nil => simp at hl
    | cons y ys =>
      have hl' : xs.length = ys.length := by simpa using hl
      have bx := hx x (by simp)
      have bby := hy y (by simp)
      have ih' := ih ys (fun c hc => hx c (by simp [hc])) (fun c hc => hy c (by simp [hc])) hl'
      unfold Extern.BytealgCompare.cmp at *
      simp only [toB_get, toB_size, List.length_cons, ← hl', Nat.min_self] at *
      rw [List.range_succ_eq_map, List.find?_cons]
      have e0 : ((toU8 (x :: xs)).getD 0 default != (toU8 (y :: ys)).getD 0 default) = decide (x ≠ y) := by
        simp only [toU8, List.map_cons, List.getD_cons_zero]
        rw [Bool.eq_iff_iff]
        simp only [bne_iff_ne, ne_eq, decide_eq_true_eq, ← UInt8.toNat_inj, UInt8.toNat_ofNat']
        omega
      rw [e0]
      by_cases e : x = y
      · subst e
        simp only [ne_eq, not_true_eq_false, decide_false, List.find?_map, cmpL, if_true]
        have e1 : ((fun i => (toU8 (x :: xs)).getD i default != (toU8 (x :: ys)).getD i default) ∘ Nat.succ) = fun i => (toU8 xs).getD i default != (toU8 ys).getD i default := by
          funext i; simp [toU8]
        rw [e1, ← ih']
        cases List.find? (fun i => (toU8 xs).getD i default != (toU8 ys).getD i default) (List.range xs.length) <;> simp [toU8]
      · simp only [ne_eq, e, not_false_eq_true, decide_true, cmpL, if_false]
        have e2 : ((toU8 (x :: xs)).getD 0 default < (toU8 (y :: ys)).getD 0 default) ↔ x < y := by
          simp only [toU8, List.map_cons, List.getD_cons_zero, UInt8.lt_iff_toNat_lt, UInt8.toNat_ofNat']
          omega
        simp only [e2]

/-- the number whose bytes these are -/
def valL : List Int → Int
  | [] => 0
  | x :: xs => x * 256 ^ xs.length + valL xs

theorem valL_bd (xs : List Int) (h : AllB xs) : 0 ≤ valL xs ∧ valL xs < 256 ^ xs.length := by
  induction xs with
  | nil => simp [valL]
  | cons x xs ih =>
    have ih' := ih (fun c hc => h c (by simp [hc]))
    have hx := h x (by simp)
    have hp : (0 : Int) < 256 ^ xs.length := Int.pow_pos (by omega)
    simp only [valL, List.length_cons, Int.pow_succ]
    generalize (256 : Int) ^ xs.length = P at *
    have h1 : 0 ≤ x * P := Int.mul_nonneg hx.1 (by omega)
    have h2 : x * P ≤ 255 * P := Int.mul_le_mul_of_nonneg_right hx.2 (by omega)
    omega

def ordI (x y : Int) : Int := if x < y then -1 else if y < x then 1 else 0

theorem cmpL_val (xs ys : List Int) (hx : AllB xs) (hy : AllB ys) (hl : xs.length = ys.length) : cmpL xs ys = ordI (valL xs) (valL ys) := by
  induction xs generalizing ys with
  | nil =>
    obtain rfl : ys = [] := List.eq_nil_of_length_eq_zero (by simpa using hl.symm)
    rfl
  | cons x xs ih =>
    cases ys with
    | nil => simp at hl
    | cons y ys =>
      have hl' : xs.length = ys.length := by simpa using hl
      have ih' := ih ys (fun c hc => hx c (by simp [hc])) (fun c hc => hy c (by simp [hc])) hl'
      have b1 := valL_bd xs (fun c hc => hx c (by simp [hc]))
      have b2 := valL_bd ys (fun c hc => hy c (by simp [hc]))
      simp only [cmpL, valL, ← hl']
      rw [← hl'] at b2
      rw [ih']
      generalize (256 : Int) ^ xs.length = P at *
      unfold ordI
      by_cases e : x = y
      · subst e
        rw [if_pos rfl]
        (repeat' split) <;> omega
      · rw [if_neg e]
        by_cases c : x < y
        · have : (x + 1) * P ≤ y * P := Int.mul_le_mul_of_nonneg_right (by omega) (by omega)
          rw [Int.add_mul] at this
          rw [if_pos c, if_pos (by omega)]
        · have : (y + 1) * P ≤ x * P := Int.mul_le_mul_of_nonneg_right (by omega) (by omega)
          rw [Int.add_mul] at this
          rw [if_neg c, if_neg (by omega), if_pos (by omega)]

theorem beF_allB (x : Int) (n : Nat) : AllB (beF x n) := by
  intro c hc
  obtain ⟨k, _, rfl⟩ := List.mem_map.1 hc
  unfold beAt; omega

theorem beF_length (x : Int) (n : Nat) : (beF x n).length = n := by simp [beF]

theorem beF_2 (x : Int) (h : 0 ≤ x ∧ x ≤ 65535) : valL (beF x 2) = x := by
  have e : beF x 2 = [x / 2 ^ 8 % 256, x / 2 ^ 0 % 256] := rfl
  rw [e]; simp only [valL, List.length_cons, List.length_nil]; omega

theorem beF_4 (x : Int) (h : 0 ≤ x ∧ x ≤ 4294967295) : valL (beF x 4) = x := by
  have e : beF x 4 = [x / 2 ^ 24 % 256, x / 2 ^ 16 % 256, x / 2 ^ 8 % 256, x / 2 ^ 0 % 256] := rfl
  rw [e]; simp only [valL, List.length_cons, List.length_nil]; omega

theorem beF_8 (x : Int) (h : 0 ≤ x ∧ x ≤ 18446744073709551615) : valL (beF x 8) = x := by
  have e : beF x 8 = [x / 2 ^ 56 % 256, x / 2 ^ 48 % 256, x / 2 ^ 40 % 256, x / 2 ^ 32 % 256, x / 2 ^ 24 % 256, x / 2 ^ 16 % 256, x / 2 ^ 8 % 256, x / 2 ^ 0 % 256] := rfl
  rw [e]; simp only [valL, List.length_cons, List.length_nil]; omega

theorem cmp_be {x y : Int} (n : Nat) (hx : valL (beF x n) = x) (hy : valL (beF y n) = y) : Extern.BytealgCompare.cmp (toB (beF x n)) (toB (beF y n)) = ordI x y := by
  rw [cmp_eq _ _ (beF_allB _ _) (beF_allB _ _) (by rw [beF_length, beF_length]), cmpL_val _ _ (beF_allB _ _) (beF_allB _ _) (by rw [beF_length, beF_length]), hx, hy]

end Go.Proofs.Ytkbhehnpgnilmaa
