/-
  Arm, Fail, asked, walked. Conditions: none.
-/
import Derived.Test.YticcjaccpcnjhaaDkA
namespace Go.Proofs.Yticcjaccpcnjhaa
open Go Go.RowKit

theorem blk_set {w : World} {g : Nat} {e : TypeId} {xs ys : List Value} (h : Blk w g e xs) (i : Nat) (u : Value) (hy : xs.set i u = ys) : Blk (w.setCell ⟨g, 0 + i, none⟩ u) g e ys := by
  rw [Nat.zero_add, ← hy]; exact h.set i u

/-- what holds of the disk when its count arms is set -/
theorem DkAt'.arm {w : World} {p m : Nat} {lv : Value} {al fl : Int} {S : Nat → Prop} {x : Dk} (h : DkAt' w p m lv al fl S x) (b : Bool) (l n : Int) (hb : b = decide (0 ≤ n)) (hl : 0 ≤ n → l = n) :
    DkAt' ((w.setCell ⟨p, 0 + 4, none⟩ (.bool b)).setCell ⟨p, 0 + 4 + 1, none⟩ (.int .i64 l)) p m lv l fl S { x with arms := n } ∧ Ch (· = p) w ((w.setCell ⟨p, 0 + 4, none⟩ (.bool b)).setCell ⟨p, 0 + 4 + 1, none⟩ (.int .i64 l)) := by
  subst hb
  have hc : Ch (· = p) w ((w.setCell ⟨p, 0 + 4, none⟩ (.bool (decide (0 ≤ n)))).setCell ⟨p, 0 + 4 + 1, none⟩ (.int .i64 l)) := (Ch.set w ⟨p, 0 + 4, none⟩ _).trans (Ch.set _ ⟨p, 0 + 4 + 1, none⟩ _)
  refine ⟨⟨?_, hl, h.flE, h.firm.keep hc (fun e => h.pm e.symm), own_ch h.row hc (fun k hk e => (h.sl k hk).2.1 e), h.sp, h.sm, h.sl, h.pm, fun k hk => Nat.lt_of_lt_of_le (h.bd k hk) hc.size⟩, hc⟩
  exact blk_set (blk_set h.blk 4 _ rfl) 5 _ rfl

theorem DkAt'.fail {w : World} {p m : Nat} {lv : Value} {al fl : Int} {S : Nat → Prop} {x : Dk} (h : DkAt' w p m lv al fl S x) (b : Bool) (l n : Int) (hb : b = decide (0 ≤ n)) (hl : 0 ≤ n → l = n) :
    DkAt' ((w.setCell ⟨p, 0 + 6, none⟩ (.bool b)).setCell ⟨p, 0 + 6 + 1, none⟩ (.int .i64 l)) p m lv al l S { x with fails := n } ∧ Ch (· = p) w ((w.setCell ⟨p, 0 + 6, none⟩ (.bool b)).setCell ⟨p, 0 + 6 + 1, none⟩ (.int .i64 l)) := by
  subst hb
  have hc : Ch (· = p) w ((w.setCell ⟨p, 0 + 6, none⟩ (.bool (decide (0 ≤ n)))).setCell ⟨p, 0 + 6 + 1, none⟩ (.int .i64 l)) := (Ch.set w ⟨p, 0 + 6, none⟩ _).trans (Ch.set _ ⟨p, 0 + 6 + 1, none⟩ _)
  refine ⟨⟨?_, h.alE, hl, h.firm.keep hc (fun e => h.pm e.symm), own_ch h.row hc (fun k hk e => (h.sl k hk).2.1 e), h.sp, h.sm, h.sl, h.pm, fun k hk => Nat.lt_of_lt_of_le (h.bd k hk) hc.size⟩, hc⟩
  exact blk_set (blk_set h.blk 6 _ rfl) 7 _ rfl

/-- a number to be armed with -/
def upF (n : Int) : Int := if 0 ≤ n then n else -1
theorem upF_dec (n : Int) : decide (0 ≤ n) = decide (0 ≤ upF n) := by unfold upF; split <;> simp_all
theorem upF_eq {n : Int} (h : 0 ≤ upF n) : n = upF n := by unfold upF at *; split <;> simp_all

def armF (x : Dk) (n : Int) : Dk := if x.out = true then x else { x with arms := upF n }
def failF (x : Dk) (n : Int) : Dk := if x.out = true then x else { x with fails := upF n }
def powE (x : Dk) : Int := if x.out = true then 9 else 0

theorem arm_nil (n : Int) (w : World) : Calls Try.prog 24 #[.pointer none, .int .i64 n] w (fun e w' => e = .returned (.int .i64 1) ∧ w = w') := by
  go_enter Try.func24, Try.ntmps24
  go_wp2_with (go_at_call 47; refine (powered_nil _).mono ?_; rintro e w' ⟨rfl, rfl⟩)
  go_ret
  exact ⟨rfl, rfl⟩
theorem fail_nil (n : Int) (w : World) : Calls Try.prog 25 #[.pointer none, .int .i64 n] w (fun e w' => e = .returned (.int .i64 1) ∧ w = w') := by
  go_enter Try.func25, Try.ntmps25
  go_wp2_with (go_at_call 47; refine (powered_nil _).mono ?_; rintro e w' ⟨rfl, rfl⟩)
  go_ret
  exact ⟨rfl, rfl⟩

theorem powered_at (p : Nat) (S : Nat → Prop) (x : Dk) (n : Int) (w : World) (h : DkAt w p S x) (hn : powE x = n) : Calls Try.prog 47 #[.pointer (some ⟨p, 0, none⟩)] w (fun e w' => e = .returned (.int .i64 n) ∧ w = w') := by
  rw [← hn]; exact powered_any p S x w h

theorem arm_any (p : Nat) (S : Nat → Prop) (x : Dk) (n : Int) (w : World) (h : DkAt w p S x) :
    Calls Try.prog 24 #[.pointer (some ⟨p, 0, none⟩), .int .i64 n] w (fun e w' => e = .returned (.int .i64 (powE x)) ∧ DkAt w' p S (armF x n) ∧ Ch (· = p) w w') := by
  by_cases ho : x.out = true
  · have e1 : powE x = 9 := by unfold powE; rw [if_pos ho]
    have e2 : armF x n = x := by unfold armF; rw [if_pos ho]
    rw [e1, e2]
    have H := Lib.hid (And.intro h e1)
    clear h e1 e2 ho
    go_enter Try.func24, Try.ntmps24
    go_wp2_with (go_at_call 47; refine (powered_at p S x 9 _ H.out.1 H.out.2).mono ?_; rintro e w' ⟨rfl, rfl⟩)
    go_ret
    exact ⟨rfl, H.out.1, Ch.refl _ _⟩
  · have e1 : powE x = 0 := by unfold powE; rw [if_neg ho]
    have e2 : armF x n = { x with arms := upF n } := by unfold armF; rw [if_neg ho]
    rw [e1, e2]
    obtain ⟨m, lv, al, fl, h'⟩ := h
    have hc := h'.blk.cs.arms
    have hR := h'.arm (decide (0 ≤ n)) n (upF n) (upF_dec n) upF_eq
    have H := Lib.hid (And.intro (show DkAt w p S x from ⟨m, lv, al, fl, h'⟩) (And.intro e1 (And.intro hc hR)))
    clear h' hR hc e1 e2 ho
    go_enter Try.func24, Try.ntmps24
    go_wp2_with (first | (go_at_call 47; refine (powered_at p S x 0 _ H.out.1 H.out.2.1).mono ?_; rintro e w' ⟨rfl, rfl⟩) | (go_at_call 48; refine (set_any _ _ _ _ _ _ H.out.2.2.1).mono ?_; rintro e w' ⟨rfl, rfl⟩))
    go_ret
    exact ⟨rfl, ⟨_, _, _, _, H.out.2.2.2.1⟩, H.out.2.2.2.2⟩

theorem fail_any (p : Nat) (S : Nat → Prop) (x : Dk) (n : Int) (w : World) (h : DkAt w p S x) :
    Calls Try.prog 25 #[.pointer (some ⟨p, 0, none⟩), .int .i64 n] w (fun e w' => e = .returned (.int .i64 (powE x)) ∧ DkAt w' p S (failF x n) ∧ Ch (· = p) w w') := by
  by_cases ho : x.out = true
  · have e1 : powE x = 9 := by unfold powE; rw [if_pos ho]
    have e2 : failF x n = x := by unfold failF; rw [if_pos ho]
    rw [e1, e2]
    have H := Lib.hid (And.intro h e1)
    clear h e1 e2 ho
    go_enter Try.func25, Try.ntmps25
    go_wp2_with (go_at_call 47; refine (powered_at p S x 9 _ H.out.1 H.out.2).mono ?_; rintro e w' ⟨rfl, rfl⟩)
    go_ret
    exact ⟨rfl, H.out.1, Ch.refl _ _⟩
  · have e1 : powE x = 0 := by unfold powE; rw [if_neg ho]
    have e2 : failF x n = { x with fails := upF n } := by unfold failF; rw [if_neg ho]
    rw [e1, e2]
    obtain ⟨m, lv, al, fl, h'⟩ := h
    have hc := h'.blk.cs.fails
    have hR := h'.fail (decide (0 ≤ n)) n (upF n) (upF_dec n) upF_eq
    have H := Lib.hid (And.intro (show DkAt w p S x from ⟨m, lv, al, fl, h'⟩) (And.intro e1 (And.intro hc hR)))
    clear h' hR hc e1 e2 ho
    go_enter Try.func25, Try.ntmps25
    go_wp2_with (first | (go_at_call 47; refine (powered_at p S x 0 _ H.out.1 H.out.2.1).mono ?_; rintro e w' ⟨rfl, rfl⟩) | (go_at_call 48; refine (set_any _ _ _ _ _ _ H.out.2.2.1).mono ?_; rintro e w' ⟨rfl, rfl⟩))
    go_ret
    exact ⟨rfl, ⟨_, _, _, _, H.out.2.2.2.1⟩, H.out.2.2.2.2⟩

end Go.Proofs.Yticcjaccpcnjhaa
