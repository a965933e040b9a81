/-
  A string's bytes in a row of their own, that may be written. No program in sight. Conditions: none.
-/
import Derived.Test.YtfenikoajadiaaaStr
import Derived.Laws.IdiomStrings
namespace Go.Proofs.Ytfenikoajadiaaa
open Go Go.RowKit

/-- block g is a row that a conversion has laid: the mark lies behind its last cell -/
def BlkM (w : World) (g : Nat) (e : TypeId) (xs : List Value) : Prop := w.heap[g]? = some (.cells xs.toArray e (xs.length, xs.length + 1))

theorem BlkM.lt {w : World} {g : Nat} {e : TypeId} {xs : List Value} (h : BlkM w g e xs) : g < w.heap.size := lt_of_block h
theorem BlkM.cell {w : World} {g : Nat} {e : TypeId} {xs : List Value} (h : BlkM w g e xs) (i : Nat) : w.cell? ⟨g, i, none⟩ = xs[i]? := by
  unfold BlkM at h; simp [World.cell?, h]
theorem BlkM.free {w : World} {g : Nat} {e : TypeId} {xs : List Value} (h : BlkM w g e xs) (i : Nat) (hi : i < xs.length) : w.frozen? ⟨g, i, none⟩ = false := by
  unfold BlkM at h
  have : ¬ xs.length ≤ i := by omega
  simp [World.frozen?, h, this]
theorem BlkM.set {w : World} {g : Nat} {e : TypeId} {xs : List Value} (h : BlkM w g e xs) (i : Nat) (u : Value) : BlkM (w.setCell ⟨g, i, none⟩ u) g e (xs.set i u) := by
  unfold BlkM at *
  have hlt := lt_of_block h
  have h' : w.heap[g] = .cells xs.toArray e (xs.length, xs.length + 1) := by simpa [Array.getElem?_eq_getElem hlt] using h
  show (w.heap.modify g _)[g]? = _
  rw [Array.getElem?_eq_getElem (by simpa using hlt), Array.getElem_modify_self, h']
  simp
theorem BlkM.below {B : Nat} {w w' : World} {g : Nat} {e : TypeId} {xs : List Value} (h : BlkM w g e xs) (hc : Below B w w') (hb : g < B) : BlkM w' g e xs := by
  unfold BlkM at *; rw [hc.block g hb]; exact h
theorem BlkM.sl {w : World} {g : Nat} {e : TypeId} {xs : List Value} (h : BlkM w g e xs) (n c : Nat) (hn : n ≤ xs.length) (hc : n ≤ c) (hm : c ≤ maxLen) : Sl w (.slice (some ⟨g, 0, none⟩) n c) (xs.take n) := by
  refine .inr ⟨⟨g, 0, none⟩, c, by congr 1; simp; omega, by simp; omega, hm, fun i u hu => ?_⟩
  rw [List.getElem?_take] at hu
  split at hu
  · rw [Addr.add_mid, Nat.zero_add, h.cell]; exact hu
  · cases hu

theorem conv_string {P : Program} (w : World) (src dst e : TypeId) (s : ByteArray) (hs : P.underlying src = some .string) (hd : P.underlying dst = some (.slice e)) (he : P.underlying e = some (.int .u8)) (hm : s.size ≤ maxLen) :
    ∃ c w', (convert src dst (.string s)).run P w = .ok (.slice (some ⟨w.heap.size, 0, none⟩) s.size c) w' ∧ s.size ≤ c ∧ c ≤ maxLen ∧ BlkM w' w.heap.size e (ofK .u8 (ints s) ++ List.replicate (c - s.size) (Value.int .u8 0)) ∧ Below w.heap.size w w' := by
  have hge := grownCap_ge w s.size 0 e
  refine ⟨_, _, run_bytes_of_string w src dst e s hs hd he, hge, grownCap_le_maxLen w s.size 0 e hm, ?_, ((Below.refl _ w).drew.alloc (Nat.le_refl _) _)⟩
  have e1 : (bytesRow s (grownCap w s.size 0 e)) = (ofK .u8 (ints s) ++ List.replicate (grownCap w s.size 0 e - s.size) (Value.int .u8 0)).toArray := by
    apply Array.ext'
    simp [bytesRow, ofK, ints, Function.comp_def]
  unfold BlkM
  have := heap_alloc_new w.drew (.cells (bytesRow s (grownCap w s.size 0 e)) e ((bytesRow s (grownCap w s.size 0 e)).size, (bytesRow s (grownCap w s.size 0 e)).size + 1))
  refine this.trans ?_
  rw [e1]
  simp

end Go.Proofs.Ytfenikoajadiaaa
