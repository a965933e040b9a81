/-
  The disk as plain data, and what a world holds of it. Conditions: none.
-/
import Derived.Test.YticcjaccpcnjhaaMapF
import Derived.Test.YticcjaccpcnjhaaArr
import Derived.Test.YticcjaccpcnjhaaProg
namespace Go.Proofs.Yticcjaccpcnjhaa
open Go Go.RowKit

/-- a write: its sector and its block -/
abbrev Wr := Int × List Int

/-- a block of noughts -/
def zer : List Int := List.replicate 64 0

/-- sixty-four bytes -/
def IsB (b : List Int) : Prop := b.length = 64 ∧ AllB b

theorem isB_zer : IsB zer := ⟨by simp [zer], fun c hc => by obtain ⟨_, rfl⟩ := List.mem_replicate.1 hc; omega⟩

structure Dk where
  size : Int
  firm : Int → List Int
  loose : List Wr
  out : Bool
  arms : Int
  fails : Int
  ops : Int

/-- f, with b at i -/
def lay (f : Int → List Int) (x : Wr) : Int → List Int := fun j => if j = x.1 then x.2 else f j
/-- what a sector holds -/
def Dk.holds (x : Dk) (i : Int) : List Int := x.loose.foldl lay x.firm i

/-- such as a disk is, with at most n writes and acts -/
structure Dk.Ok (x : Dk) (n : Nat) : Prop where
  size1 : 1 ≤ x.size
  size2 : x.size ≤ 2048
  arms1 : -1 ≤ x.arms
  arms2 : x.arms ≤ 9223372036854775807
  fails1 : -1 ≤ x.fails
  fails2 : x.fails ≤ 9223372036854775807
  ops1 : 0 ≤ x.ops
  ops2 : x.ops ≤ n
  len : x.loose.length ≤ n
  firmB : ∀ i, IsB (x.firm i)
  looseB : ∀ e ∈ x.loose, IsB e.2

theorem Dk.Ok.mono {x : Dk} {n m : Nat} (h : x.Ok n) (hm : n ≤ m) : x.Ok m := { h with ops2 := by have := h.ops2; omega, len := by have := h.len; omega }

theorem foldl_lay_B : ∀ (l : List Wr) (f : Int → List Int), (∀ i, IsB (f i)) → (∀ e ∈ l, IsB e.2) → ∀ i, IsB (l.foldl lay f i)
  | [], _, hf, _, i => hf i
  | e :: l, f, hf, hl, i => foldl_lay_B l _ (fun j => by unfold lay; split; exact hl e (by simp); exact hf j) (fun e' he => hl e' (by simp [he])) i

theorem Dk.Ok.holdsB {x : Dk} {n : Nat} (h : x.Ok n) (i : Int) : IsB (x.holds i) := foldl_lay_B _ _ h.firmB h.looseB i

/-- a block as a value -/
def vB (b : List Int) : Value := .agg (ofK .u8 b).toArray
/-- a write's cells -/
def wrC (e : Wr) : List Value := .int .i64 e.1 :: ofK .u8 e.2
def wrsC (l : List Wr) : List Value := l.flatMap wrC

theorem wrC_len {e : Wr} (h : IsB e.2) : (wrC e).length = 65 := by simp [wrC, ofK, h.1]
theorem wrsC_len : ∀ {l : List Wr}, (∀ e ∈ l, IsB e.2) → (wrsC l).length = l.length * 65
  | [], _ => rfl
  | e :: l, h => by
    have h1 := wrC_len (h e (by simp))
    have h2 := wrsC_len (l := l) (fun e he => h e (by simp [he]))
    unfold wrsC at *
    rw [List.flatMap_cons, List.length_append, h1, h2, List.length_cons]; omega

theorem wrsC_snoc (l : List Wr) (e : Wr) : wrsC (l ++ [e]) = wrsC l ++ wrC e := by simp [wrsC]

/-- the i-th write's cells -/
theorem wrsC_at : ∀ {l : List Wr}, (∀ e ∈ l, IsB e.2) → ∀ (i : Nat) (hi : i < l.length) (j : Nat), j < 65 → (wrsC l)[i * 65 + j]? = (wrC l[i])[j]?
  | e :: l, h, 0, _, j, hj => by
    simp only [wrsC, List.flatMap_cons, Nat.zero_mul, Nat.zero_add, List.getElem_cons_zero]
    rw [List.getElem?_append_left (by rw [wrC_len (h e (by simp))]; exact hj)]
  | e :: l, h, i + 1, hi, j, hj => by
    have := wrsC_at (l := l) (fun e he => h e (by simp [he])) i (by simpa using hi) j hj
    simp only [wrsC, List.flatMap_cons, List.getElem_cons_succ] at *
    rw [List.getElem?_append_right (by rw [wrC_len (h e (by simp))]; omega), wrC_len (h e (by simp)), show (i + 1) * 65 + j - 65 = i * 65 + j by omega]
    exact this

/-- the disk's own block, its map's, its writes' -/
def DkB (w : World) (p m : Nat) (lv : Value) (al fl : Int) (x : Dk) : Prop :=
  Blk w p 75 [.int .i64 x.size, .map (some m), lv, .bool x.out, .bool (decide (0 ≤ x.arms)), .int .i64 al, .bool (decide (0 ≤ x.fails)), .int .i64 fl, .int .i64 x.ops]

/-- in the world w block p is the disk x, which lies in blocks of S -/
structure DkAt' (w : World) (p m : Nat) (lv : Value) (al fl : Int) (S : Nat → Prop) (x : Dk) : Prop where
  blk : DkB w p m lv al fl x
  alE : 0 ≤ x.arms → al = x.arms
  flE : 0 ≤ x.fails → fl = x.fails
  firm : MapF w m .i64 (vB zer) (fun i => vB (x.firm i))
  row : w.ownsRow 0 84 65 lv x.loose.length (wrsC x.loose)
  sp : S p
  sm : S m
  sl : ∀ k, lv.ownBlock = some k → S k ∧ k ≠ p ∧ k ≠ m
  pm : p ≠ m
  bd : ∀ k, S k → k < w.heap.size

def DkAt (w : World) (p : Nat) (S : Nat → Prop) (x : Dk) : Prop := ∃ m lv al fl, DkAt' w p m lv al fl S x

theorem DkAt.mono {w : World} {p : Nat} {S T : Nat → Prop} {x : Dk} (h : DkAt w p S x) (hT : ∀ k, S k → T k) (hB : ∀ k, T k → k < w.heap.size) : DkAt w p T x := by
  obtain ⟨m, lv, al, fl, h⟩ := h
  exact ⟨m, lv, al, fl, { h with sp := hT _ h.sp, sm := hT _ h.sm, sl := fun k hk => ⟨hT _ (h.sl k hk).1, (h.sl k hk).2⟩, bd := hB }⟩

theorem own_ch {w w' : World} {S : Nat → Prop} {base e size n : Nat} {v : Value} {xs : List Value} (h : w.ownsRow base e size v n xs) (hc : Ch S w w') (hS : ∀ k, v.ownBlock = some k → ¬ S k) : w'.ownsRow base e size v n xs := by
  obtain ⟨h1, h2 | ⟨g, cap, C, h3, h4, h5, h6⟩⟩ := h
  · exact ⟨h1, .inl h2⟩
  · exact ⟨h1, .inr ⟨g, cap, C, h3, h4, by rw [hc.block g (lt_of_block h5) (hS g (by rw [h3]; rfl))]; exact h5, h6⟩⟩

theorem DkAt'.keep {w w' : World} {p m : Nat} {lv : Value} {al fl : Int} {S T : Nat → Prop} {x : Dk} (h : DkAt' w p m lv al fl S x) (hc : Ch T w w') (hS : ∀ k, S k → ¬ T k) : DkAt' w' p m lv al fl S x :=
  { h with blk := h.blk.keep hc (hS _ h.sp), firm := h.firm.keep hc (hS _ h.sm), row := own_ch h.row hc (fun k hk => hS _ (h.sl k hk).1), bd := fun k hk => Nat.lt_of_lt_of_le (h.bd k hk) hc.size }

theorem DkAt.keep {w w' : World} {p : Nat} {S T : Nat → Prop} {x : Dk} (h : DkAt w p S x) (hc : Ch T w w') (hS : ∀ k, S k → ¬ T k) : DkAt w' p S x := by
  obtain ⟨m, lv, al, fl, h⟩ := h
  exact ⟨m, lv, al, fl, h.keep hc hS⟩

theorem DkAt.sp {w : World} {p : Nat} {S : Nat → Prop} {x : Dk} (h : DkAt w p S x) : S p := by obtain ⟨m, lv, al, fl, h⟩ := h; exact h.sp
theorem DkAt.lt {w : World} {p : Nat} {S : Nat → Prop} {x : Dk} (h : DkAt w p S x) : p < w.heap.size := by obtain ⟨m, lv, al, fl, h⟩ := h; exact Blk.lt h.blk

theorem DkAt.bd {w : World} {p : Nat} {S : Nat → Prop} {x : Dk} (h : DkAt w p S x) : ∀ k, S k → k < w.heap.size := by obtain ⟨m, lv, al, fl, h⟩ := h; exact h.bd

/-- S and what is new between two worlds -/
def Gr (S : Nat → Prop) (w w' : World) : Nat → Prop := fun k => S k ∨ (w.heap.size ≤ k ∧ k < w'.heap.size)

theorem Gr.lt {S : Nat → Prop} {w w' : World} (h : ∀ k, S k → k < w.heap.size) (hs : w.heap.size ≤ w'.heap.size) : ∀ k, Gr S w w' k → k < w'.heap.size := fun k hk => by
  rcases hk with hk | hk
  · have := h k hk; omega
  · exact hk.2
theorem DkAt.gr {w0 w : World} {p : Nat} {S : Nat → Prop} {x : Dk} (h : DkAt w p S x) : DkAt w p (Gr S w0 w) x :=
  h.mono (fun _ hk => .inl hk) (fun k hk => by rcases hk with hk | hk; exact h.bd k hk; exact hk.2)
theorem Gr.trans {S : Nat → Prop} {a b c : World} (h1 : a.heap.size ≤ b.heap.size) (h2 : b.heap.size ≤ c.heap.size) : ∀ k, Gr (Gr S a b) b c k → Gr S a c k := fun k hk => by
  rcases hk with (hk | hk) | hk
  · exact .inl hk
  · exact .inr ⟨hk.1, by omega⟩
  · exact .inr ⟨by omega, hk.2⟩

theorem below_keep {w w' : World} (hb : Below w.heap.size w w') (S' : Nat → Prop) : Ch S' w w' := Ch.of_below hb (Nat.le_refl _)

end Go.Proofs.Yticcjaccpcnjhaa
