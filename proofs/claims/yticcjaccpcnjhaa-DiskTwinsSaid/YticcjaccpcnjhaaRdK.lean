/-
  The law's ought: how its walk stands. Conditions: none.
-/
import Derived.Test.YticcjaccpcnjhaaRdJ
namespace Go.Proofs.Yticcjaccpcnjhaa
open Go Go.RowKit

theorem StAt.keep {S : Nat → Prop} {w w' : World} {sv : Value} {st : List Wr} (h : StAt w sv st) (hc : Ch S w w') (hS : ∀ k, sv.ownBlock = some k → ¬ S k) : StAt w' sv st := by
  obtain ⟨ao, c, rfl, h2, h3, h4, h7⟩ := h
  refine ⟨ao, c, rfl, h2, h3, fun h0 => ?_, h7⟩
  obtain ⟨g, o, rfl, h6⟩ := h4 h0
  exact ⟨g, o, rfl, fun k hk => rangeW_ch (h6 k hk) hc (hS g rfl)⟩

theorem StAt.shape {w : World} {sv : Value} {st : List Wr} (h : StAt w sv st) : ∃ ao len c, sv = .slice ao len c := by
  obtain ⟨ao, c, rfl, _⟩ := h
  exact ⟨_, _, _, rfl⟩

/-- how ought stands: the reference's box, the act's, the results' variables, the block -/
structure OuI (w : World) (B0 B1 B2 B3 B4 : Nat) (L : List Value) (b : List Int) (A : List Value) (wz : World) : Prop where
  box : Blk wz B0 30 L
  act : Blk wz B1 49 A
  rd : Blk wz B2 30 rZ
  rb : Blk wz B3 39 (ofK .u8 zer)
  blk : Blk wz B4 39 (ofK .u8 b)
  bel : Below w.heap.size w wz
  ord : w.heap.size = B0 ∧ B0 < B1 ∧ B1 < B2 ∧ B2 < B3 ∧ B3 < B4

section
variable {w wz w' : World} {B0 B1 B2 B3 B4 : Nat} {L L' A : List Value} {b b' : List Int}

theorem OuI.below (h : OuI w B0 B1 B2 B3 B4 L b A wz) (hb : Below wz.heap.size wz w') : OuI w B0 B1 B2 B3 B4 L b A w' :=
  ⟨h.box.below hb h.box.lt, h.act.below hb h.act.lt, h.rd.below hb h.rd.lt, h.rb.below hb h.rb.lt, h.blk.below hb h.blk.lt, below_thn h.bel hb (Nat.le_refl _), h.ord⟩
theorem OuI.setBox (h : OuI w B0 B1 B2 B3 B4 L b A wz) (hb : Blk w' B0 30 L') (hc : Ch (· = B0) wz w') : OuI w B0 B1 B2 B3 B4 L' b A w' := by
  have o := h.ord
  exact ⟨hb, h.act.keep hc (fun e => by have e : B1 = B0 := e; omega), h.rd.keep hc (fun e => by have e : B2 = B0 := e; omega), h.rb.keep hc (fun e => by have e : B3 = B0 := e; omega), h.blk.keep hc (fun e => by have e : B4 = B0 := e; omega), below_ch h.bel hc (Nat.le_refl _) (fun k e => by have e : k = B0 := e; omega), o⟩
theorem OuI.setBlk (h : OuI w B0 B1 B2 B3 B4 L b A wz) (hb : Blk w' B4 39 (ofK .u8 b')) (hc : Ch (· = B4) wz w') : OuI w B0 B1 B2 B3 B4 L b' A w' := by
  have o := h.ord
  exact ⟨h.box.keep hc (fun e => by have e : B0 = B4 := e; omega), h.act.keep hc (fun e => by have e : B1 = B4 := e; omega), h.rd.keep hc (fun e => by have e : B2 = B4 := e; omega), h.rb.keep hc (fun e => by have e : B3 = B4 := e; omega), hb, below_ch h.bel hc (Nat.le_refl _) (fun k e => by have e : k = B4 := e; omega), o⟩
/-- the results are laid -/
theorem OuI.outs {v1 v2 : World} {zs cs : List Value} (h : OuI w B0 B1 B2 B3 B4 L b A wz) (h1 : Blk v1 B2 30 zs) (c1 : Ch (· = B2) wz v1) (h2 : Blk v2 B3 39 cs) (c2 : Ch (· = B3) v1 v2) : Blk v2 B2 30 zs ∧ Blk v2 B3 39 cs ∧ Below w.heap.size w v2 := by
  have o := h.ord
  exact ⟨h1.keep c2 (fun e => by have e : B2 = B3 := e; omega), h2, below_ch (below_ch h.bel c1 (Nat.le_refl _) (fun k e => by have e : k = B2 := e; omega)) c2 (Nat.le_refl _) (fun k e => by have e : k = B3 := e; omega)⟩
theorem OuI.rngs (h : OuI w B0 B1 B2 B3 B4 L b A wz) : wz.rangeAt B0 0 L ∧ wz.rangeAt B4 0 (ofK .u8 b) := ⟨rangeW_blk h.box, rangeW_blk h.blk⟩
theorem OuI.rng1 {v1 : World} (h : OuI w B0 B1 B2 B3 B4 L b A wz) (c1 : Ch (· = B2) wz v1) : v1.rangeAt B0 0 L ∧ v1.rangeAt B4 0 (ofK .u8 b) := by
  have o := h.ord
  exact ⟨rangeW_ch h.rngs.1 c1 (fun e => by have e : B0 = B2 := e; omega), rangeW_ch h.rngs.2 c1 (fun e => by have e : B4 = B2 := e; omega)⟩
theorem OuI.rng2 {v1 v2 : World} (h : OuI w B0 B1 B2 B3 B4 L b A wz) (c1 : Ch (· = B2) wz v1) (c2 : Ch (· = B3) v1 v2) : v2.rangeAt B0 0 L ∧ v2.rangeAt B4 0 (ofK .u8 b) := by
  have o := h.ord
  have r := h.rng1 c1
  exact ⟨rangeW_ch r.1 c2 (fun e => by have e : B0 = B3 := e; omega), rangeW_ch r.2 c2 (fun e => by have e : B4 = B3 := e; omega)⟩

/-- the story beside it -/
structure StO (w : World) (B4 : Nat) (sv0 sv : Value) (st : List Wr) (wz : World) : Prop where
  st : StAt wz sv st
  far : ∀ k, sv.ownBlock = some k → k < w.heap.size ∨ B4 < k
  src : ∀ k, sv.ownBlock = some k → sv0.ownBlock = some k ∨ (w.heap.size ≤ k ∧ k < wz.heap.size)

theorem StO.below {sv0 sv : Value} {st : List Wr} (h : StO w B4 sv0 sv st wz) (hb : Below wz.heap.size wz w') : StO w B4 sv0 sv st w' := ⟨h.st.below hb, h.far, fun k hk => (h.src k hk).imp id (fun e => ⟨e.1, Nat.lt_of_lt_of_le e.2 hb.size⟩)⟩
theorem StO.set {sv0 sv : Value} {st : List Wr} {B : Nat} (h : StO w B4 sv0 sv st wz) (hc : Ch (· = B) wz w') (h1 : w.heap.size ≤ B) (h2 : B ≤ B4) : StO w B4 sv0 sv st w' :=
  ⟨h.st.keep hc (fun k hk e => by have e : k = B := e
                                  rcases h.far k hk with h | h <;> omega), h.far, fun k hk => (h.src k hk).imp id (fun e => ⟨e.1, Nat.lt_of_lt_of_le e.2 hc.size⟩)⟩
theorem StO.start {sv : Value} {st : List Wr} (hs : StAt w sv st) (hk : ∀ k, sv.ownBlock = some k → k < w.heap.size) (hb : Below w.heap.size w wz) : StO w B4 sv sv st wz := ⟨hs.below hb, fun k h => .inl (hk k h), fun _ h => .inl h⟩
theorem StO.next {sv sv' : Value} {st' : List Wr} (h : OuI w B0 B1 B2 B3 B4 L b A wz) (hk : ∀ k, sv.ownBlock = some k → k < w.heap.size) (hs : StAt w' sv' st') (hs' : ∀ k, sv'.ownBlock = some k → sv.ownBlock = some k ∨ (wz.heap.size ≤ k ∧ k < w'.heap.size)) : StO w B4 sv sv' st' w' := by
  have o := h.ord
  have l := h.blk.lt
  exact ⟨hs, fun k e => by
    rcases hs' k e with h | h
    · exact .inl (hk k h)
    · exact .inr (by omega), fun k e => by
    rcases hs' k e with h | h
    · exact .inl h
    · exact .inr ⟨by omega, h.2⟩⟩
end

/-- what ought tells -/
def OughtP (w : World) (sv : Value) (N : Nat) (y : Dk) (b : List Int) (m : Int) (e : Ending) (w' : World) : Prop :=
  ∃ sv' st' fm', e = .returned (.tuple #[.agg (rC y fm' sv').toArray, .agg (ofK .u8 b).toArray, .int .i64 m]) ∧ StAt w' sv' st' ∧ RefOf y st' fm' ∧ st'.length ≤ N ∧ (∀ k, sv'.ownBlock = some k → sv.ownBlock = some k ∨ (w.heap.size ≤ k ∧ k < w'.heap.size)) ∧ Below w.heap.size w w'

theorem results_cct {P : Program} {fn : Func} {p q v : Tmp} {ty ty2 : TypeId} (h : fn.results = #[.cell p ty, .cell q ty2, .tmp v]) (tmps : Array Value) (w : World) (g g2 : Nat) (e e2 : TypeId) (xs ys : List Value) (hp : tmps.getD p undef = .pointer (some ⟨g, 0, none⟩)) (hq : tmps.getD q undef = .pointer (some ⟨g2, 0, none⟩)) (hb : Blk w g e xs) (hb2 : Blk w g2 e2 ys) (d d2 : TypeDesc)
    (hu : P.underlying ty = some d) (hd : d.isRow = true) (hi : (P.info? ty).map (·.size) = some xs.length) (hu2 : P.underlying ty2 = some d2) (hd2 : d2.isRow = true) (hi2 : (P.info? ty2).map (·.size) = some ys.length) (y : Value) (hy : tmps.getD v undef = y) : (results fn tmps).run P w = .ok (.tuple #[.agg xs.toArray, .agg ys.toArray, y]) w := by
  have hl := run_loadVar_mid (P := P) w g 0 ty xs d (fun j v hv => by rw [Nat.zero_add, hb.cell]; exact hv) hu hd hi
  have hl2 := run_loadVar_mid (P := P) w g2 0 ty2 ys d2 (fun j v hv => by rw [Nat.zero_add, hb2.cell]; exact hv) hu2 hd2 hi2
  simp only [Array.getD_eq_getD_getElem?] at hp hq hy
  simp [results, h, hp, hq, hy, asAddr, hl, hl2, Result.andThen]

end Go.Proofs.Yticcjaccpcnjhaa
