/-
  Whole arrays in blocks of their own: laid, stored, loaded, as laws for the walk. No program in sight. Conditions: none.
-/
import Derived.Test.YtkbhehnpgnilmaaLib
import Derived.Deep.MidRow
namespace Go.Proofs.Ytkbhehnpgnilmaa
open Go Go.RowKit

def setFrom (xs : List Value) (o : Nat) : List Value → List Value
  | [] => xs
  | v :: r => setFrom (xs.set o v) (o + 1) r

theorem setFrom_get (vs : List Value) : ∀ (xs : List Value) (o : Nat), o + vs.length ≤ xs.length → ∀ i, (setFrom xs o vs)[i]? = if o ≤ i ∧ i < o + vs.length then vs[i - o]? else xs[i]? := by
  induction vs with
  | nil => intro xs o _ i; simp only [setFrom, List.length_nil]; rw [if_neg (by omega)]
  | cons v r ih =>
    intro xs o h i
    simp only [List.length_cons] at h
    simp only [setFrom, List.length_cons]
    rw [ih (xs.set o v) (o + 1) (by rw [List.length_set]; omega) i]
    by_cases h1 : i = o
    · subst h1
      rw [if_neg (by omega), if_pos (by omega), Nat.sub_self, List.getElem?_set_self (by omega)]; rfl
    · by_cases h2 : o + 1 ≤ i ∧ i < o + 1 + r.length
      · rw [if_pos h2, if_pos (by omega), show i - o = (i - (o + 1)) + 1 from by omega, List.getElem?_cons_succ]
      · rw [if_neg h2, if_neg (by omega), List.getElem?_set_ne (by omega)]

theorem setFrom_all (vs xs : List Value) (h : vs.length = xs.length) : setFrom xs 0 vs = vs := by
  apply List.ext_getElem?
  intro i
  rw [setFrom_get vs xs 0 (by omega) i]
  by_cases hi : i < vs.length
  · rw [if_pos (by omega)]; rfl
  · rw [if_neg (by omega), List.getElem?_eq_none (by omega), List.getElem?_eq_none (by omega)]

theorem Blk.setCells {g : Nat} {e : TypeId} : ∀ (vs : List Value) (o : Nat) (w : World) (xs : List Value), Blk w g e xs → Blk (w.setCells g o vs) g e (setFrom xs o vs) := by
  intro vs
  induction vs with
  | nil => intro o w xs h; exact h
  | cons v r ih => intro o w xs h; exact ih (o + 1) _ _ (h.set o v)

theorem ch_setCells (g : Nat) : ∀ (vs : List Value) (o : Nat) (w : World), Ch (· = g) w (w.setCells g o vs) := by
  intro vs
  induction vs with
  | nil => intro o w; exact Ch.refl _ _
  | cons v r ih => intro o w; exact (Ch.set w ⟨g, o, none⟩ v).trans (ih (o + 1) _)

theorem size_setCells (g : Nat) : ∀ (vs : List Value) (o : Nat) (w : World), (w.setCells g o vs).heap.size = w.heap.size := by
  intro vs
  induction vs with
  | nil => intro o w; rfl
  | cons v r ih => intro o w; exact (ih (o + 1) _).trans (by simp [World.setCell])

/-- an operation whose run is known, whatever the world -/
theorem wpList_of_run {P : Program} (w : World) {ops : Array Oper} {rest : List Oper} {o : Oper} {a : Act} {Q : Exit → Act → World → Prop} (hgd : o.guard = none) (v : Value) (hrun : ∀ w, (execOp a.eval o).run P w = .ok (.value v) w)
    (h : wpList P ops Q rest (a.put o.dst v) w) : wpList P ops Q (o :: rest) a w := by
  refine wpList_plain hgd fun K' hK' => ?_
  unfold Oper.wp
  rw [hrun]
  exact hK' _ _ h

/-- an operation whose run in this world is known -/
theorem wpList_of_run2 {P : Program} (w : World) {ops : Array Oper} {rest : List Oper} {o : Oper} {a : Act} {Q : Exit → Act → World → Prop} (hgd : o.guard = none) (v : Value) (w' : World) (hrun : (execOp a.eval o).run P w = .ok (.value v) w')
    (h : wpList P ops Q rest (a.put o.dst v) w') : wpList P ops Q (o :: rest) a w := by
  refine wpList_plain hgd fun K' hK' => ?_
  unfold Oper.wp
  rw [hrun]
  exact hK' _ _ h

/-- a whole array is stored into its variable -/
theorem wpList_store_blk {P : Program} (w : World) {ops : Array Oper} {rest : List Oper} {o : Oper} {a : Act} {Q : Exit → Act → World → Prop} (hgd : o.guard = none) (ty : TypeId) (x y : Operand) (ho : o.op = .store ty x y)
    (g : Nat) (e : TypeId) (xs cells : List Value) (hb : Blk w g e xs) (hx : a.eval x = .pointer (some ⟨g, 0, none⟩)) (hy : a.eval y = .agg cells.toArray) (hl : cells.length = xs.length) (hi : (P.info? ty).map (·.size) = some cells.length) (h1 : ∀ v ∈ cells, v.oneCell' = true)
    (h : ∀ w', Blk w' g e cells → Ch (· = g) w w' → w'.heap.size = w.heap.size → wpList P ops Q rest (a.put o.dst undef) w') : wpList P ops Q (o :: rest) a w := by
  refine wpList_store_mid hgd ty x y ho g 0 cells.toArray hx hy (fun j hj => ?_) (by simpa using hi) (all_oneCell_toArray h1) ?_
  · have hj' : j < xs.length := by simp at hj; omega
    rw [hb.cell, hb.free]
    simp [hj']
  · have := hb.setCells cells 0
    rw [setFrom_all cells xs hl] at this
    exact h _ this (ch_setCells g cells 0 w) (size_setCells g cells 0 w)

/-- a whole array is loaded -/
theorem wpList_load_blk {P : Program} (w : World) {ops : Array Oper} {rest : List Oper} {o : Oper} {a : Act} {Q : Exit → Act → World → Prop} (hgd : o.guard = none) (ty : TypeId) (x : Operand) (ho : o.op = .load ty x)
    (g : Nat) (e : TypeId) (xs : List Value) (hb : Blk w g e xs) (hx : a.eval x = .pointer (some ⟨g, 0, none⟩)) (d : TypeDesc) (hu : P.underlying ty = some d) (hd : (match d with | .struct _ | .array _ _ => true | _ => false) = true) (hi : (P.info? ty).map (·.size) = some xs.length)
    (h : wpList P ops Q rest (a.put o.dst (.agg xs.toArray)) w) : wpList P ops Q (o :: rest) a w := by
  have hd' : d.isRow = true := by cases d <;> simp_all
  refine wpList_load_mid hgd ty x ho g 0 hx xs d (fun j v hj => ?_) hu hd' hi h
  rw [hb.cell]; simpa using hj

/-- a number of an array that lies whole in a slot -/
theorem run_index_arr {P : Program} {w : World} {t e : TypeId} {n : Nat} {cs : Array Value} {k : IntKind} {i : Int} (h : P.underlying t = some (.array n e)) (h0 : 0 ≤ i) (hi : i < n) (hs : ∀ w, (sizeOf e).run P w = .ok 1 w) (ha : ∀ w, (isAgg e).run P w = .ok false w) (v : Value) (hv : cs[i.toNat]? = some v) :
    (Instr.index t (.agg cs) (.int k i)).run P w = .ok v w := by
  have hn : (0 ≤ i ∧ i < (n : Int)) := ⟨h0, hi⟩
  simp [Instr.index, run_underlying h, asIntOf, hn, hv, hs, ha, go_sem]

theorem run_make_rep {P : Program} (t e : TypeId) (i : TypeInfo) (z : Value) (ht : P.underlying t = some (.slice e)) (hi : P.info? e = some i) (hz : i.zero = some z) (hsize : i.size = 1) (hzc : z.cells = #[z])
    (kl kc : IntKind) (L C : Int) (n c : Nat) (hL : L = n) (hC : C = c) (hnc : n ≤ c) (hbytes : i.bytes * c ≤ 281474976710656) (h63 : c ≤ 9223372036854775807) (w : World) :
    (Instr.makeSlice t (.int kl L) (.int kc C)).run P w = .ok (.slice (some ⟨w.heap.size, 0, none⟩) n c) (w.alloc (.cells (List.replicate c z).toArray e)) := by
  subst hL hC
  have hb : (i.bytes : Int) * (c : Int) ≤ 281474976710656 := by
    have h : ((i.bytes * c : Nat) : Int) ≤ 281474976710656 := by omega
    rwa [Int.natCast_mul] at h
  have hr := run_make (P := P) w t e i z ht hi hz kl kc n c (by omega) (by omega) hb (by omega)
  simp only [Int.toNat_natCast] at hr
  rw [hr]
  have e3 : (madeCells z.cells (c * i.size)) = (List.replicate c z).toArray := by
    rw [hzc, hsize]; apply Array.ext
    · simp [madeCells]
    · intro j h1 h2; simp [madeCells, Nat.mod_one]
  rw [e3]

theorem Blk.owns_take {w : World} {g base : Nat} {e : TypeId} {xs : List Value} (h : Blk w g e xs) (hb : base ≤ g) (hm : xs.length ≤ maxLen) (n c : Nat) (hn : n ≤ c) (hc : c = xs.length) : w.ownsRow base e 1 (.slice (some ⟨g, 0, none⟩) n c) n (xs.take n) := by
  subst hc
  exact ⟨by simp; omega, .inr ⟨g, xs.length, xs.toArray, rfl, hb, h, hn, hm, by simp, by simp⟩⟩

theorem results_blk {P : Program} {fn : Func} {p : Tmp} {ty : TypeId} (h : fn.results = #[.cell p ty]) (tmps : Array Value) (w : World) (g : Nat) (e : TypeId) (xs : List Value) (hp : tmps.getD p undef = .pointer (some ⟨g, 0, none⟩)) (hb : Blk w g e xs) (d : TypeDesc)
    (hu : P.underlying ty = some d) (hd : (match d with | .struct _ | .array _ _ => true | _ => false) = true) (hi : (P.info? ty).map (·.size) = some xs.length) : (results fn tmps).run P w = .ok (.agg xs.toArray) w :=
  results_cell_row h tmps w g e xs.toArray (0, 0) d hp hb hu hd (by simpa using hi)

end Go.Proofs.Ytkbhehnpgnilmaa
