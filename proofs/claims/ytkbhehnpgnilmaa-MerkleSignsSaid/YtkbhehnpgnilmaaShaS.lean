/-
  Package sha: the memory of Block, as a state. No walk. Conditions: none.
-/
import Derived.Test.YtkbhehnpgnilmaaShaB
import Derived.Test.YtkbhehnpgnilmaaShaW
import Derived.Test.YtkbhehnpgnilmaaQt
import Derived.Laws.EntriesVeiled
namespace Go.Proofs.Ytkbhehnpgnilmaa
open Go Go.RowKit

theorem heap_allocs (os : List Obj) : ∀ (w : World) (k : Nat) (h : k < os.length), (os.foldl World.alloc w).heap[w.heap.size + k]? = some os[k] := by
  induction os with
  | nil => intro w k h; simp at h
  | cons o os ih =>
    intro w k h
    cases k with
    | zero =>
      have keep : ∀ (os : List Obj) (w : World) (i : Nat), i < w.heap.size → (os.foldl World.alloc w).heap[i]? = w.heap[i]? := by
        intro os
        induction os with
        | nil => intro w i _; rfl
        | cons o os ih2 => intro w i hi; exact (ih2 (w.alloc o) i (by simp; omega)).trans (Below.heap_alloc _ _ _ hi)
      exact (keep os (w.alloc o) w.heap.size (by simp)).trans (heap_alloc_new _ _)
    | succ k =>
      have := ih (w.alloc o) k (by simpa using h)
      rw [World.size_alloc] at this
      simpa [Nat.add_assoc, Nat.add_comm 1 k] using this

/-- the cells of a mix -/
def mixC (a b c : Int) (f : Nat) : List Value := [.int .i64 a, .int .i64 b, .int .i64 c, .func (Fn.func f) #[] #[]]

/-- the variables of Block: the numbers handed in, the result's, the mixes, the last sixteen words; B: the heap's size when the call began -/
structure ShaSt (w : World) (B : Nat) (hs res ws : List Nat) : Prop where
  h : Blk w B 42 (ofN hs)
  res : Blk w (B + 2) 42 (ofN res)
  m5 : Blk w (B + 3) 126 (mixC 7 18 3 93)
  m6 : Blk w (B + 4) 126 (mixC 17 19 10 93)
  m7 : Blk w (B + 5) 126 (mixC 2 13 22 94)
  m8 : Blk w (B + 6) 126 (mixC 6 11 25 94)
  ws : Blk w (B + 7) 127 (ofN ws)

theorem ShaSt.keep {S : Nat → Prop} {w w' : World} {B : Nat} {hs res ws : List Nat} (h : ShaSt w B hs res ws) (hc : Ch S w w') (hS : ∀ k, S k → B + 8 ≤ k) : ShaSt w' B hs res ws := by
  have n : ∀ k, k < B + 8 → ¬ S k := fun k hk hs => by have := hS k hs; omega
  exact ⟨h.h.keep hc (n _ (by omega)), h.res.keep hc (n _ (by omega)), h.m5.keep hc (n _ (by omega)), h.m6.keep hc (n _ (by omega)), h.m7.keep hc (n _ (by omega)), h.m8.keep hc (n _ (by omega)), h.ws.keep hc (n _ (by omega))⟩

theorem ShaSt.setWord {w : World} {B : Nat} {hs res ws : List Nat} (h : ShaSt w B hs res ws) (i x : Nat) : ShaSt (w.setCell ⟨B + 7, i, none⟩ (.int .u32 (x : Nat))) B hs res (ws.set i x) := by
  have hc := Ch.set w ⟨B + 7, i, none⟩ (.int .u32 (x : Nat))
  have n : ∀ k, k ≠ B + 7 → ¬ (fun k => k = B + 7) k := fun k hk h => hk h
  have hw := h.ws.set i (.int .u32 (x : Nat))
  have e : (ofN ws).set i (.int .u32 (x : Nat)) = ofN (ws.set i x) := by simp [ofN, List.map_set]
  rw [e] at hw
  exact ⟨h.h.keep hc (n _ (by omega)), h.res.keep hc (n _ (by omega)), h.m5.keep hc (n _ (by omega)), h.m6.keep hc (n _ (by omega)), h.m7.keep hc (n _ (by omega)), h.m8.keep hc (n _ (by omega)), hw⟩

/-- the variables as they are laid at first -/
def shaObjs (hs : List Nat) (bs : List Int) : List Obj := [.cells (ofN hs).toArray 42, .cells (ofK .u8 bs).toArray 45, .cells (ofN [0, 0, 0, 0, 0, 0, 0, 0]).toArray 42,
  .cells (mixC 7 18 3 93).toArray 126, .cells (mixC 17 19 10 93).toArray 126, .cells (mixC 2 13 22 94).toArray 126, .cells (mixC 6 11 25 94).toArray 126,
  .cells (ofN [0, 0, 0, 0, 0, 0, 0, 0, 0, 0, 0, 0, 0, 0, 0, 0]).toArray 127]

theorem size_allocs (os : List Obj) : ∀ (w : World), (os.foldl World.alloc w).heap.size = w.heap.size + os.length := by
  induction os with
  | nil => intro w; rfl
  | cons o os ih => intro w; rw [List.foldl_cons, ih (w.alloc o)]; simp; omega

theorem below_allocs (os : List Obj) : ∀ (w0 w : World), Below w0.heap.size w0 w → Below w0.heap.size w0 (os.foldl World.alloc w) := by
  induction os with
  | nil => intro w0 w h; exact h
  | cons o os ih => intro w0 w h; exact ih w0 (w.alloc o) (h.alloc h.size o)

theorem shaStart (hs : List Nat) (bs : List Int) (w : World) (hb : bs.length = 64) :
    Sl ((shaObjs hs bs).foldl World.alloc w) (.slice (some ⟨w.heap.size + 1, 0, none⟩) 64 64) (ofK .u8 bs) ∧ ShaSt ((shaObjs hs bs).foldl World.alloc w) w.heap.size hs [0, 0, 0, 0, 0, 0, 0, 0] (wordsTo bs 0) ∧
    ((shaObjs hs bs).foldl World.alloc w).heap.size = w.heap.size + 8 ∧ Below w.heap.size w ((shaObjs hs bs).foldl World.alloc w) := by
  have g := heap_allocs (shaObjs hs bs) w
  refine ⟨?_, ⟨g 0 (by simp [shaObjs]), g 2 (by simp [shaObjs]), g 3 (by simp [shaObjs]), g 4 (by simp [shaObjs]), g 5 (by simp [shaObjs]), g 6 (by simp [shaObjs]), g 7 (by simp [shaObjs])⟩, size_allocs _ _, below_allocs _ _ _ (Below.refl _ _)⟩
  have h1 : Blk ((shaObjs hs bs).foldl World.alloc w) (w.heap.size + 1) 45 (ofK .u8 bs) := g 1 (by simp [shaObjs])
  have := h1.sl 0 64 64 (by rw [length_ofK]; omega) (Nat.le_refl _) (by unfold maxLen; omega)
  rw [List.drop_zero, List.take_of_length_le (by rw [length_ofK]; omega)] at this
  exact this

/-- all that a turn looks at: B the call's blocks, R the row, T the turn's own variable -/
structure ShaIn (w0 w : World) (B R T t : Nat) (hs row ws : List Nat) : Prop where
  st : ShaSt w B hs [0, 0, 0, 0, 0, 0, 0, 0] ws
  row : Blk w R 42 (ofN row)
  t : Blk w T 3 [.int .i64 t]
  bel : Below B w0 w
  hR : B + 8 ≤ R
  hT : R < T

theorem ShaIn.ch {S : Nat → Prop} {w0 w w' : World} {B R T t : Nat} {hs row ws : List Nat} (h : ShaIn w0 w B R T t hs row ws) (hB : B = w0.heap.size) (hc : Ch S w w') (hS : ∀ k, ¬ S k) : ShaIn w0 w' B R T t hs row ws :=
  ⟨h.st.keep hc (fun k hk => (hS k hk).elim), h.row.keep hc (hS _), h.t.keep hc (hS _), below_ch h.bel hc (by omega) (fun k hk => (hS k hk).elim), h.hR, h.hT⟩

theorem ShaIn.below {w0 w w' : World} {B R T t : Nat} {hs row ws : List Nat} (h : ShaIn w0 w B R T t hs row ws) (hB : B = w0.heap.size) (hc : Below w.heap.size w w') : ShaIn w0 w' B R T t hs row ws :=
  h.ch hB (Ch.of_below (S := fun _ => False) hc (Nat.le_refl _)) (fun _ h => h)

theorem ShaIn.drew {w0 w : World} {B R T t : Nat} {hs row ws : List Nat} (h : ShaIn w0 w B R T t hs row ws) (hB : B = w0.heap.size) : ShaIn w0 w.drew B R T t hs row ws :=
  h.ch hB (Ch.refl (fun _ => False) w).drew (fun _ h => h)

theorem ShaIn.setWord {w0 w : World} {B R T t : Nat} {hs row ws : List Nat} (h : ShaIn w0 w B R T t hs row ws) (hB : B = w0.heap.size) (i x : Nat) : ShaIn w0 (w.setCell ⟨B + 7, i, none⟩ (.int .u32 (x : Nat))) B R T t hs row (ws.set i x) := by
  have hc := Ch.set w ⟨B + 7, i, none⟩ (.int .u32 (x : Nat))
  have h1 := h.hR
  have h2 := h.hT
  exact ⟨h.st.setWord i x, h.row.keep hc (fun e => by have e2 : R = B + 7 := e; omega), h.t.keep hc (fun e => by have e2 : T = B + 7 := e; omega), below_ch h.bel hc (by omega) (fun k hk => by have e2 : k = B + 7 := hk; omega), h1, h2⟩

theorem ShaIn.setRow {w0 w : World} {B R T t : Nat} {hs row ws : List Nat} (h : ShaIn w0 w B R T t hs row ws) (hB : B = w0.heap.size) (i x : Nat) : ShaIn w0 (w.setCell ⟨R, i, none⟩ (.int .u32 (x : Nat))) B R T t hs (row.set i x) ws := by
  have hc := Ch.set w ⟨R, i, none⟩ (.int .u32 (x : Nat))
  have h1 := h.hR
  have h2 := h.hT
  have hw := h.row.set i (.int .u32 (x : Nat))
  have e : (ofN row).set i (.int .u32 (x : Nat)) = ofN (row.set i x) := by simp [ofN, List.map_set]
  rw [e] at hw
  exact ⟨h.st.keep hc (fun k hk => by have e2 : k = R := hk; omega), hw, h.t.keep hc (fun e => by have e2 : T = R := e; omega), below_ch h.bel hc (by omega) (fun k hk => by have e2 : k = R := hk; omega), h1, h2⟩

theorem cell_below {w w' : World} {p : Addr} {v : Value} (h : w.cell? p = some v) (hb : Below w.heap.size w w') : w'.cell? p = some v := (hb.cell (block_of_cell h)).trans h

theorem frozen_below {w w' : World} {p : Addr} {v : Value} (h : w.cell? p = some v) (hf : w.frozen? p = false) (hb : Below w.heap.size w w') : w'.frozen? p = false :=
  ((Ch.of_below (S := fun _ => False) hb (Nat.le_refl _)).frozen (block_of_cell h) (fun h => h)).trans hf

theorem cell_apart {w : World} {g i j : Nat} {u v : Value} (h : w.cell? ⟨g, i, none⟩ = some v) (hij : g ≠ g ∨ i ≠ j) : (w.setCell ⟨g, j, none⟩ u).cell? ⟨g, i, none⟩ = some v := by
  rcases hij with h1 | h1
  · exact absurd rfl h1
  · rw [World.cell?_setCell_other]
    · exact h
    · intro e; exact h1 (by cases e; rfl)

theorem cell_far {w : World} {g g' i j : Nat} {u v : Value} (h : w.cell? ⟨g, i, none⟩ = some v) (hg : g ≠ g') : (w.setCell ⟨g', j, none⟩ u).cell? ⟨g, i, none⟩ = some v := by
  rw [World.cell?_setCell_other]
  · exact h
  · intro e; exact hg (by cases e; rfl)

/-- the cells of a mix in its block -/
theorem mix_cells {w : World} {g : Nat} {e : TypeId} {a b c : Int} {f : Nat} (h : Blk w g e (mixC a b c f)) :
    w.cell? ⟨g, 0, none⟩ = some (.int .i64 a) ∧ w.cell? ⟨g, 1, none⟩ = some (.int .i64 b) ∧ w.cell? ⟨g, 2, none⟩ = some (.int .i64 c) ∧ w.cell? ⟨g, 3, none⟩ = some (.func (Fn.func f) #[] #[]) :=
  ⟨h.cell 0, h.cell 1, h.cell 2, h.cell 3⟩

end Go.Proofs.Ytkbhehnpgnilmaa
