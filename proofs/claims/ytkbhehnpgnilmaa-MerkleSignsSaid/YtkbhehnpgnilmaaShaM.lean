/-
  The rounds of a block as plain functions of natural numbers, with the row that does not move. Plain mathematics. Conditions: numbers below 2^32.
-/
import Derived.Test.YtkbhehnpgnilmaaShaA
namespace Go.Proofs.Ytkbhehnpgnilmaa
open Go Go.RowKit

def add32 (a b : Nat) : Nat := (a + b) % 4294967296

theorem add32_lt (a b : Nat) : add32 a b < 4294967296 := Nat.mod_lt _ (by omega)

/-- the row's i-th number at turn t -/
def atG (row : List Nat) (i t : Nat) : Nat := row.getD (atN i t) 0

def newWord (ws : List Nat) (t : Nat) : Nat :=
  if t < 16 then ws.getD (t % 16) 0
  else add32 (ws.getD (t % 16) 0) (add32 (add32 (mixN 17 19 10 true (ws.getD ((t - 2) % 16) 0)) (ws.getD ((t - 7) % 16) 0)) (mixN 7 18 3 true (ws.getD ((t - 15) % 16) 0)))

def sumS (row : List Nat) (k w t : Nat) : Nat :=
  add32 (add32 (add32 (add32 (atG row 7 t) (mixN 6 11 25 false (atG row 4 t))) (atG row 6 t ^^^ (atG row 4 t &&& (atG row 5 t ^^^ atG row 6 t)))) k) w

def newTop (row : List Nat) (s t : Nat) : Nat :=
  add32 (add32 s (mixN 2 13 22 false (atG row 0 t))) ((atG row 0 t &&& atG row 2 t) ||| (atG row 1 t &&& (atG row 0 t ||| atG row 2 t)))

def stepW (ws : List Nat) (t : Nat) : List Nat := ws.set (t % 16) (newWord ws t)

def stepR (row : List Nat) (s t : Nat) : List Nat := (row.set (atN 3 t) (add32 (atG row 3 t) s)).set (atN 7 t) (newTop row s t)

def stepT (st : List Nat × List Nat) (t : Nat) : List Nat × List Nat :=
  (stepR st.1 (sumS st.1 (K64.getD t 0) (newWord st.2 t) t) t, stepW st.2 t)

def runT (st : List Nat × List Nat) : Nat → List Nat × List Nat
  | 0 => st
  | t + 1 => stepT (runT st t) t

/-- all below 2^32 -/
def All32 (xs : List Nat) : Prop := ∀ x ∈ xs, x < 4294967296

theorem All32.getD {xs : List Nat} (h : All32 xs) (i : Nat) : xs.getD i 0 < 4294967296 := by
  rw [List.getD_eq_getElem?_getD]
  by_cases hi : i < xs.length
  · rw [List.getElem?_eq_getElem hi]; exact h _ (List.getElem_mem hi)
  · rw [List.getElem?_eq_none (by omega)]; simp

theorem All32.set {xs : List Nat} (h : All32 xs) (i x : Nat) (hx : x < 4294967296) : All32 (xs.set i x) := by
  intro y hy
  rcases List.mem_or_eq_of_mem_set hy with h1 | h1
  · exact h _ h1
  · rw [h1]; exact hx

theorem newWord_lt {ws : List Nat} (h : All32 ws) (t : Nat) : newWord ws t < 4294967296 := by
  unfold newWord
  split
  · exact h.getD _
  · exact add32_lt _ _

structure ShaGood (row ws : List Nat) : Prop where
  hr : row.length = 8
  hw : ws.length = 16
  ar : All32 row
  aw : All32 ws

theorem ShaGood.step {row ws : List Nat} (h : ShaGood row ws) (t : Nat) : ShaGood (stepT (row, ws) t).1 (stepT (row, ws) t).2 := by
  refine ⟨by simp [stepT, stepR, h.hr], by simp [stepT, stepW, h.hw], ?_, ?_⟩
  · exact (h.ar.set _ _ (add32_lt _ _)).set _ _ (add32_lt _ _)
  · exact h.aw.set _ _ (newWord_lt h.aw t)

theorem u32_add (a b : Nat) : IntKind.u32.wrap ((a : Int) + (b : Int)) = ((add32 a b : Nat) : Int) := by
  rw [IntKind.wrap_u32]; unfold add32; omega

theorem atN_lt (i t : Nat) : atN i t < 8 := Nat.mod_lt _ (by omega)

theorem atN_inj {i j t : Nat} (hi : i < 8) (hj : j < 8) (ht : t < 64) (h : atN i t = atN j t) : i = j := by unfold atN at h; omega

/-- a number of a block of numbers, as a cell -/
theorem cell_ofN {w : World} {g : Nat} {e : TypeId} {xs : List Nat} (h : Blk w g e (ofN xs)) (i : Nat) (hi : i < xs.length) : w.cell? ⟨g, i, none⟩ = some (.int .u32 ((xs.getD i 0 : Nat) : Int)) := by
  rw [h.cell, ofN_get xs i hi, List.getD_eq_getElem?_getD, List.getElem?_eq_getElem hi]
  rfl

end Go.Proofs.Ytkbhehnpgnilmaa
