/-
  The small functions of the disk, walked. Conditions: none.
-/
import Derived.Test.YticcjaccpcnjhaaDk
import Derived.Test.YticcjaccpcnjhaaQt
import Derived.Outline
namespace Go.Proofs.Yticcjaccpcnjhaa
open Go Go.RowKit

/-- two cells of block p at o -/
structure Two (w : World) (p o : Nat) (u v : Value) : Prop where
  c0 : w.cell? ⟨p, o, none⟩ = some u
  c1 : w.cell? ⟨p, o + 1, none⟩ = some v
  f0 : w.frozen? ⟨p, o, none⟩ = false
  f1 : w.frozen? ⟨p, o + 1, none⟩ = false

theorem set_any (p o : Nat) (u v : Value) (n : Int) (w : World) (h : Two w p o u v) :
    Calls Try.prog 48 #[.pointer (some ⟨p, o, none⟩), .int .i64 n] w (fun e w' => e = .returned (.tuple #[]) ∧ w' = (w.setCell ⟨p, o, none⟩ (.bool (decide (0 ≤ n)))).setCell ⟨p, o + 1, none⟩ (.int .i64 n)) := by
  obtain ⟨c0, c1, f0, f1⟩ := h
  by_cases hn : 0 ≤ n
  · rw [decide_eq_true hn]
    go_enter Try.func48, Try.ntmps48
    go_wp2
    go_end0
    exact ⟨rfl, rfl⟩
  · rw [decide_eq_false hn]
    have hd : decide (n ≥ 0) = false := decide_eq_false hn
    go_enter Try.func48, Try.ntmps48
    go_wp2
    go_end0
    exact ⟨rfl, rfl⟩

theorem met_off (p o : Nat) (v : Value) (w : World) (h : Two w p o (.bool false) v) :
    Calls Try.prog 50 #[.pointer (some ⟨p, o, none⟩)] w (fun e w' => e = .returned (.bool false) ∧ w = w') := by
  obtain ⟨c0, c1, f0, f1⟩ := h
  go_enter Try.func50, Try.ntmps50
  go_wp2
  go_ret
  exact ⟨rfl, rfl⟩

theorem met_now (p o : Nat) (w : World) (h : Two w p o (.bool true) (.int .i64 0)) :
    Calls Try.prog 50 #[.pointer (some ⟨p, o, none⟩)] w (fun e w' => e = .returned (.bool true) ∧ w' = (w.setCell ⟨p, o, none⟩ (.bool false)).setCell ⟨p, o + 1, none⟩ (.int .i64 0)) := by
  obtain ⟨c0, c1, f0, f1⟩ := h
  go_enter Try.func50, Try.ntmps50
  go_wp2
  go_ret
  exact ⟨rfl, rfl⟩

theorem met_near (p o : Nat) (n : Int) (w : World) (h0 : 1 ≤ n) (h1 : n ≤ 9223372036854775807) (h : Two w p o (.bool true) (.int .i64 n)) :
    Calls Try.prog 50 #[.pointer (some ⟨p, o, none⟩)] w (fun e w' => e = .returned (.bool false) ∧ w' = w.setCell ⟨p, o + 1, none⟩ (.int .i64 (n - 1))) := by
  obtain ⟨c0, c1, f0, f1⟩ := h
  have hn : (n == 0) = false := by simp; omega
  go_enter Try.func50, Try.ntmps50
  go_wp2
  go_ret
  exact ⟨rfl, rfl⟩

/-- the cells of a disk's block, as the walk spells them -/
structure Cs (w : World) (p m : Nat) (lv : Value) (al fl : Int) (x : Dk) : Prop where
  c0 : w.cell? ⟨p, 0, none⟩ = some (.int .i64 x.size)
  c1 : w.cell? ⟨p, 0 + 1, none⟩ = some (.map (some m))
  c2 : w.cell? ⟨p, 0 + 2, none⟩ = some lv
  c3 : w.cell? ⟨p, 0 + 3, none⟩ = some (.bool x.out)
  c8 : w.cell? ⟨p, 0 + 8, none⟩ = some (.int .i64 x.ops)
  f1 : w.frozen? ⟨p, 0 + 1, none⟩ = false
  f2 : w.frozen? ⟨p, 0 + 2, none⟩ = false
  f3 : w.frozen? ⟨p, 0 + 3, none⟩ = false
  f8 : w.frozen? ⟨p, 0 + 8, none⟩ = false
  arms : Two w p (0 + 4) (.bool (decide (0 ≤ x.arms))) (.int .i64 al)
  fails : Two w p (0 + 6) (.bool (decide (0 ≤ x.fails))) (.int .i64 fl)

theorem DkB.cs {w : World} {p m : Nat} {lv : Value} {al fl : Int} {x : Dk} (h : DkB w p m lv al fl x) : Cs w p m lv al fl x := by
  unfold DkB at h
  have c := fun i => Blk.cell h i
  have f := fun i => Blk.free h i
  exact ⟨(c 0).trans rfl, (c 1).trans rfl, (c 2).trans rfl, (c 3).trans rfl, (c 8).trans rfl, f 1, f 2, f 3, f 8, ⟨(c 4).trans rfl, (c 5).trans rfl, f 4, f 5⟩, ⟨(c 6).trans rfl, (c 7).trans rfl, f 6, f 7⟩⟩

theorem powered_nil (w : World) : Calls Try.prog 47 #[.pointer none] w (fun e w' => e = .returned (.int .i64 1) ∧ w = w') := by
  go_enter Try.func47, Try.ntmps47
  go_wp2
  go_ret
  exact ⟨rfl, rfl⟩

theorem powered_any (p : Nat) (S : Nat → Prop) (x : Dk) (w : World) (h : DkAt w p S x) : Calls Try.prog 47 #[.pointer (some ⟨p, 0, none⟩)] w (fun e w' => e = .returned (.int .i64 (if x.out = true then 9 else 0)) ∧ w = w') := by
  obtain ⟨m, lv, al, fl, h⟩ := h
  have c3 := h.blk.cs.c3
  clear h
  cases ho : x.out <;> rw [ho] at c3 <;> clear ho
  all_goals
    go_enter Try.func47, Try.ntmps47
    go_wp2
    go_ret
    exact ⟨rfl, rfl⟩

theorem len_nil (w : World) : Calls Try.prog 26 #[.pointer none] w (fun e w' => e = .returned (.int .i64 0) ∧ w = w') := by
  go_enter Try.func26, Try.ntmps26
  go_wp2
  go_ret
  exact ⟨rfl, rfl⟩
theorem len_any (p : Nat) (S : Nat → Prop) (x : Dk) (w : World) (h : DkAt w p S x) : Calls Try.prog 26 #[.pointer (some ⟨p, 0, none⟩)] w (fun e w' => e = .returned (.int .i64 x.size) ∧ w = w') := by
  obtain ⟨m, lv, al, fl, h⟩ := h
  have c0 := h.blk.cs.c0
  clear h
  go_enter Try.func26, Try.ntmps26
  go_wp2
  go_ret
  exact ⟨rfl, rfl⟩

theorem ops_nil (w : World) : Calls Try.prog 27 #[.pointer none] w (fun e w' => e = .returned (.int .i64 0) ∧ w = w') := by
  go_enter Try.func27, Try.ntmps27
  go_wp2
  go_ret
  exact ⟨rfl, rfl⟩
theorem ops_any (p : Nat) (S : Nat → Prop) (x : Dk) (w : World) (h : DkAt w p S x) : Calls Try.prog 27 #[.pointer (some ⟨p, 0, none⟩)] w (fun e w' => e = .returned (.int .i64 x.ops) ∧ w = w') := by
  obtain ⟨m, lv, al, fl, h⟩ := h
  have c8 := h.blk.cs.c8
  clear h
  go_enter Try.func27, Try.ntmps27
  go_wp2
  go_ret
  exact ⟨rfl, rfl⟩

theorem dead_nil (w : World) : Calls Try.prog 28 #[.pointer none] w (fun e w' => e = .returned (.bool false) ∧ w = w') := by
  go_enter Try.func28, Try.ntmps28
  go_wp2
  go_ret
  exact ⟨rfl, rfl⟩
theorem dead_any (p : Nat) (S : Nat → Prop) (x : Dk) (w : World) (h : DkAt w p S x) : Calls Try.prog 28 #[.pointer (some ⟨p, 0, none⟩)] w (fun e w' => e = .returned (.bool x.out) ∧ w = w') := by
  obtain ⟨m, lv, al, fl, h⟩ := h
  have c3 := h.blk.cs.c3
  clear h
  go_enter Try.func28, Try.ntmps28
  go_wp2
  go_ret
  exact ⟨rfl, rfl⟩

theorem new_bad (n : Int) (w : World) (h : n < 1 ∨ 2048 < n) : Calls Try.prog 11 #[.int .i64 n] w (fun e w' => e = .returned (.tuple #[.pointer none, .int .i64 2]) ∧ w = w') := by
  by_cases h1 : n < 1
  · clear h
    go_enter Try.func11, Try.ntmps11
    go_wp2
    go_ret2
    exact ⟨rfl, rfl⟩
  · have h2 : 2048 < n := by omega
    clear h
    go_enter Try.func11, Try.ntmps11
    go_wp2
    go_ret2
    exact ⟨rfl, rfl⟩

/-- a new disk -/
def newD (n : Int) : Dk := ⟨n, fun _ => zer, [], false, -1, -1, 0⟩

theorem newD_ok {n : Int} (h1 : 1 ≤ n) (h2 : n ≤ 2048) (k : Nat) : (newD n).Ok k := ⟨h1, h2, by simp [newD], by simp [newD], by simp [newD], by simp [newD], by simp [newD], by simp [newD], by simp [newD], fun _ => isB_zer, by simp [newD]⟩

theorem new_at (w : World) (n : Int) : DkAt ((w.alloc (.map #[] 0)).alloc (.cells #[.int .i64 n, .map (some w.heap.size), .slice none 0 0, .bool false, .bool false, .int .i64 0, .bool false, .int .i64 0, .int .i64 0] 75)) (w.heap.size + 1) (fun k => w.heap.size ≤ k ∧ k < w.heap.size + 2) (newD n) := by
  have hb := Blk.new (w.alloc (.map #[] 0)) [.int .i64 n, .map (some w.heap.size), .slice none 0 0, .bool false, .bool false, .int .i64 0, .bool false, .int .i64 0, .int .i64 0] 75
  rw [World.size_alloc] at hb
  have hm : MapAt (w.alloc (.map #[] 0)) w.heap.size #[] 0 := heap_alloc_new _ _
  refine ⟨w.heap.size, .slice none 0 0, 0, 0, ⟨hb, fun h => absurd h (by simp [newD]), fun h => absurd h (by simp [newD]), ⟨_, _, ?_, reads_empty _ _⟩, World.ownsRow_nil _ _ _ _, by omega, by omega, fun k hk => by simp [Value.ownBlock] at hk, by omega, fun k hk => by simp; omega⟩⟩
  exact hm.keep ((Ch.refl (fun _ => False) _).alloc _) (fun h => h)

theorem new_ok (n : Int) (w : World) (h1 : 1 ≤ n) (h2 : n ≤ 2048) : Calls Try.prog 11 #[.int .i64 n] w (fun e w' => ∃ p, e = .returned (.tuple #[.pointer (some ⟨p, 0, none⟩), .int .i64 0]) ∧ DkAt w' p (fun k => w.heap.size ≤ k ∧ k < w'.heap.size) (newD n) ∧ Below w.heap.size w w') := by
  have H := Lib.hid (new_at w n)
  have hmm := @run_makeMap Try.prog
  go_enter Try.func11, Try.ntmps11
  go_wp2
  go_ret2
  refine ⟨w.heap.size + 1, rfl, ?_, ((Below.refl _ _).alloc (Nat.le_refl _) _).alloc (by simp) _⟩
  have := H.out
  simp only [World.size_alloc]
  exact this

end Go.Proofs.Yticcjaccpcnjhaa
