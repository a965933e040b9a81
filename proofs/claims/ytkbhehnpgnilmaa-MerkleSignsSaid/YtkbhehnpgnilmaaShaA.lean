/-
  Package sha: the turned and pushed numbers and the mixes, walked. Conditions: numbers of 32 bits.
-/
import Derived.Test.YtkbhehnpgnilmaaPut
import Derived.Test.YtkbhehnpgnilmaaShaN
import Derived.BigQuiet
import Derived.Deep.QuietTactic
import Derived.Deep.RegionHeld3
import Derived.Deep.DeepCutAuto
namespace Go.Proofs.Ytkbhehnpgnilmaa
open Go Go.RowKit

theorem turned_any (x n : Nat) (w : World) (hx : x < 4294967296) (hn : 0 < n ∧ n < 32) :
    Calls Try.prog 94 #[.int .u32 x, .int .i64 n] w (fun e w' => e = .returned (.int .u32 (rotN x n : Nat)) ∧ ∃ m, w' = w.drewN m) := by
  have n0 := hn.1
  have n1 := hn.2
  have HR := Lib.hid (rotN_int x n hx)
  clear hn
  go_enter Try.func94, Try.ntmps94
  go_wp2
  go_quiet (fail)
  go_wp2
  go_ret
  exact ⟨by rw [← HR.out]; rfl, _, rfl⟩

theorem pushed_any (x n : Nat) (w : World) (_hx : x < 4294967296) (hn : 0 < n ∧ n < 32) :
    Calls Try.prog 93 #[.int .u32 x, .int .i64 n] w (fun e w' => e = .returned (.int .u32 (shrN x n : Nat)) ∧ ∃ m, w' = w.drewN m) := by
  have n0 := hn.1
  have n1 := hn.2
  have HR := Lib.hid (shrN_int x n)
  clear hn
  go_enter Try.func93, Try.ntmps93
  go_wp2
  go_ret
  exact ⟨by rw [← HR.out]; rfl, 0, rfl⟩

theorem run_callPushed (args : Array Value) (w : World) : Sem.run Try.prog (callFunc 93 args) w = .ok (.enter 93 args) w :=
  run_callFunc_body Try.func93 (by kernel_rfl) (by kernel_rfl) args w

theorem run_callTurned (args : Array Value) (w : World) : Sem.run Try.prog (callFunc 94 args) w = .ok (.enter 94 args) w :=
  run_callFunc_body Try.func94 (by kernel_rfl) (by kernel_rfl) args w

theorem xors (x a b : Nat) (l : Nat) (hx : x < 4294967296) (hl : l < 4294967296) :
    bits BinOp.xor IntKind.u32 (bits BinOp.xor IntKind.u32 ((rotN x a : Nat) : Int) ((rotN x b : Nat) : Int)) ((l : Nat) : Int) = (((rotN x a ^^^ rotN x b) ^^^ l : Nat) : Int) := by
  rw [bits_xor32 _ _ (rotN_lt a hx) (rotN_lt b hx), bits_xor32 _ _ (xor_lt32 (rotN_lt a hx) (rotN_lt b hx)) hl]

set_option maxHeartbeats 800000 in
theorem of_push (a b c x y : Nat) (w : World) (hx : x < 4294967296) (ha : 0 < a ∧ a < 32) (hb : 0 < b ∧ b < 32) (hc : 0 < c ∧ c < 32) (hy : mixN a b c true x = y) :
    Calls Try.prog 97 #[.agg #[.int .i64 a, .int .i64 b, .int .i64 c, .func (Fn.func 93) #[] #[]], .int .u32 x] w (fun e w' => e = .returned (.int .u32 y) ∧ Below w.heap.size w w') := by
  have hxs := xors x a b (shrN x c) hx (shrN_lt c hx)
  have e1 : (rotN x a ^^^ rotN x b) ^^^ shrN x c = y := hy
  rw [e1] at hxs
  have HX := Lib.hid hxs
  have hcf := run_callPushed
  clear hy hxs e1
  go_enter Try.func97, Try.ntmps97
  go_wp2
  go_quiet ((first | (go_at_call 94; exact Calls.quiet_of (turned_any _ _ _ hx (by assumption))) | (go_at_call 93; exact Calls.quiet_of (pushed_any _ _ _ hx (by assumption)))))
  go_wp2
  go_ret
  exact ⟨by rw [← HX.out]; rfl, ((Below.refl _ _).alloc (Nat.le_refl _) _).trans (((Sm.refl _).drewN _).below _)⟩

set_option maxHeartbeats 800000 in
theorem of_turn (a b c x y : Nat) (w : World) (hx : x < 4294967296) (ha : 0 < a ∧ a < 32) (hb : 0 < b ∧ b < 32) (hc : 0 < c ∧ c < 32) (hy : mixN a b c false x = y) :
    Calls Try.prog 97 #[.agg #[.int .i64 a, .int .i64 b, .int .i64 c, .func (Fn.func 94) #[] #[]], .int .u32 x] w (fun e w' => e = .returned (.int .u32 y) ∧ Below w.heap.size w w') := by
  have hxs := xors x a b (rotN x c) hx (rotN_lt c hx)
  have e1 : (rotN x a ^^^ rotN x b) ^^^ rotN x c = y := hy
  rw [e1] at hxs
  have HX := Lib.hid hxs
  have hcf := run_callTurned
  clear hy hxs e1
  go_enter Try.func97, Try.ntmps97
  go_wp2
  go_quiet (((go_at_call 94; exact Calls.quiet_of (turned_any _ _ _ hx (by assumption)))))
  go_wp2
  go_ret
  exact ⟨by rw [← HX.out]; rfl, ((Below.refl _ _).alloc (Nat.le_refl _) _).trans (((Sm.refl _).drewN _).below _)⟩

theorem small0_any (x y : Nat) (w : World) (hx : x < 4294967296) (hy : mixN 7 18 3 true x = y) :
    Calls Try.prog 97 #[.agg #[.int .i64 7, .int .i64 18, .int .i64 3, .func (Fn.func 93) #[] #[]], .int .u32 x] w (fun e w' => e = .returned (.int .u32 y) ∧ Below w.heap.size w w') :=
  of_push 7 18 3 x y w hx (by omega) (by omega) (by omega) hy

theorem small1_any (x y : Nat) (w : World) (hx : x < 4294967296) (hy : mixN 17 19 10 true x = y) :
    Calls Try.prog 97 #[.agg #[.int .i64 17, .int .i64 19, .int .i64 10, .func (Fn.func 93) #[] #[]], .int .u32 x] w (fun e w' => e = .returned (.int .u32 y) ∧ Below w.heap.size w w') :=
  of_push 17 19 10 x y w hx (by omega) (by omega) (by omega) hy

theorem big0_any (x y : Nat) (w : World) (hx : x < 4294967296) (hy : mixN 2 13 22 false x = y) :
    Calls Try.prog 97 #[.agg #[.int .i64 2, .int .i64 13, .int .i64 22, .func (Fn.func 94) #[] #[]], .int .u32 x] w (fun e w' => e = .returned (.int .u32 y) ∧ Below w.heap.size w w') :=
  of_turn 2 13 22 x y w hx (by omega) (by omega) (by omega) hy

theorem big1_any (x y : Nat) (w : World) (hx : x < 4294967296) (hy : mixN 6 11 25 false x = y) :
    Calls Try.prog 97 #[.agg #[.int .i64 6, .int .i64 11, .int .i64 25, .func (Fn.func 94) #[] #[]], .int .u32 x] w (fun e w' => e = .returned (.int .u32 y) ∧ Below w.heap.size w w') :=
  of_turn 6 11 25 x y w hx (by omega) (by omega) (by omega) hy

/-- the place of the row's i-th number at turn t -/
def atN (i t : Nat) : Nat := (i + 64 - t) % 8

theorem bits_and7 (i t : Nat) (hi : i < 8) (ht : t < 64) : bits BinOp.and IntKind.i64 ((i : Int) - (t : Int)) 7 = ((atN i t : Nat) : Int) := by
  have key : ∀ i : Fin 8, ∀ t : Fin 64, bits BinOp.and IntKind.i64 (((i : Nat) : Int) - ((t : Nat) : Int)) 7 = ((atN i t : Nat) : Int) := by decide +kernel
  exact key ⟨i, hi⟩ ⟨t, ht⟩

theorem atClo_any (i t R T j : Nat) (w : World) (hi : i < 8) (ht : t < 64) (hT : w.cell? ⟨T, 0, none⟩ = some (.int .i64 t)) (hj : atN i t = j) :
    Calls Try.prog 98 #[.int .i64 i, .pointer (some ⟨R, 0, none⟩), .pointer (some ⟨T, 0, none⟩)] w (fun e w' => e = .returned (.pointer (some ⟨R, j, none⟩)) ∧ w' = w) := by
  have hb := bits_and7 i t hi ht
  rw [hj] at hb
  have hj8 : j < 8 := by rw [← hj]; exact Nat.mod_lt _ (by omega)
  clear hj
  go_enter Try.func98, Try.ntmps98
  go_wp2
  go_ret
  exact ⟨rfl, rfl⟩

end Go.Proofs.Ytkbhehnpgnilmaa
