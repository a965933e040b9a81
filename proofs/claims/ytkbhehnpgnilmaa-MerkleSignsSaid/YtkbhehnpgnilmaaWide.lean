/-
  Values of many cells: build, buildSlice, loads and stores of a part of a block. No program in sight. Conditions: none.
-/
import Derived.Test.YtkbhehnpgnilmaaArr
import Derived.Test.YtkbhehnpgnilmaaQt
import Derived.Laws.ResultCell
namespace Go.Proofs.Ytkbhehnpgnilmaa
open Go Go.RowKit

theorem foldl_set (off : Nat) : ∀ (vs : List Value) (j0 : Nat) (cells : Array Value), off + j0 + vs.length ≤ cells.size →
    ((vs.toArray.zipIdx j0).foldl (fun cs (c, j) => cs.setIfInBounds (off + j) c) cells).toList = cells.toList.take (off + j0) ++ vs ++ cells.toList.drop (off + j0 + vs.length) := by
  intro vs
  induction vs with
  | nil =>
    intro j0 cells h
    rw [← Array.foldl_toList]
    simp
  | cons v vs ih =>
    intro j0 cells h
    have h' : off + j0 + 1 + vs.length ≤ cells.size := by simp at h; omega
    have := ih (j0 + 1) (cells.setIfInBounds (off + j0) v) (by simp; omega)
    have e : (((v :: vs).toArray.zipIdx j0).foldl (fun cs (c, j) => cs.setIfInBounds (off + j) c) cells) = ((vs.toArray.zipIdx (j0 + 1)).foldl (fun cs (c, j) => cs.setIfInBounds (off + j) c) (cells.setIfInBounds (off + j0) v)) := by
      rw [← Array.foldl_toList, ← Array.foldl_toList]
      simp [List.zipIdx_cons]
    rw [e, this]
    have hlt : off + j0 < cells.toList.length := by simp; omega
    rw [Array.toList_setIfInBounds, List.length_cons, List.drop_set_of_lt (by omega), show off + (j0 + 1) = (off + j0) + 1 by omega, List.take_succ_eq_append_getElem (by simpa using hlt), List.take_set_of_le (by omega)]
    simp [Nat.add_assoc, Nat.add_comm 1]

theorem fill_one (place : Nat → Option (Nat × Nat)) (cells : Array Value) (i off : Nat) (v : Value) (rest : List (Nat × Value)) (hp : place i = some (off, v.cells.size)) (hs : off + v.cells.size ≤ cells.size) :
    Instr.fill place cells ((i, v) :: rest) = Instr.fill place (cells.toList.take off ++ v.cells.toList ++ cells.toList.drop (off + v.cells.size)).toArray rest := by
  have h1 : ¬ (v.cells.size ≠ v.cells.size || decide (off + v.cells.size > cells.size)) = true := by simp; omega
  rw [Instr.fill, hp]
  dsimp only
  rw [if_neg h1]
  congr 1
  rw [← Array.toList_inj, List.toList_toArray]
  have := foldl_set off v.cells.toList 0 cells (by simpa using hs)
  simpa using this

/-- a struct of a cell and an array, built -/
theorem run_build_head {P : Program} {t : TypeId} {f0 f1 : Field} {n : Nat} {zs : Array Value} (ht : P.underlying t = some (.struct #[f0, f1])) (o0 : f0.offset = 0) (o1 : f1.offset = 1)
    (s0 : ∀ w, (sizeOf f0.type).run P w = .ok 1 w) (s1 : ∀ w, (sizeOf f1.type).run P w = .ok n w) (hz : ∀ w, (zeroValue t).run P w = .ok (.agg zs) w) (hzs : zs.size = n + 1)
    (u : Value) (hu : u.cells = #[u]) (cs : List Value) (hcs : cs.length = n) (w : World) : (Instr.build t #[(0, u), (1, .agg cs.toArray)]).run P w = .ok (.agg (u :: cs).toArray) w := by
  have ca : (Value.agg cs.toArray).cells = cs.toArray := rfl
  have cz : (Value.agg zs).cells = zs := rfl
  have e1 : (Instr.fill (#[(0, 1), (1, n)][·]?) zs [(0, u), (1, .agg cs.toArray)]) = some (u :: cs).toArray := by
    rw [fill_one _ _ 0 0 u _ (by rw [hu]; rfl) (by rw [hu]; simp; omega), fill_one _ _ 1 1 (.agg cs.toArray) _ (by rw [ca]; simp [hcs]) (by rw [ca, hu]; simp; omega), ca, hu]
    have hd : List.drop (1 + n) (u :: List.drop 1 zs.toList) = [] := by simp; omega
    simp only [Instr.fill, List.take_zero, List.nil_append, List.singleton_append, List.size_toArray, List.length_cons, List.length_nil, Nat.zero_add, hcs, hd, List.append_nil, List.take_succ_cons]
  have e2 : (Instr.fill (fun x => [(0, 1), (1, n)][x]?) zs [(0, u), (1, .agg cs.toArray)]) = some (u :: cs).toArray := by
    rw [← e1]; congr 1; funext x; simp
  simp [Instr.build, run_underlying ht, hz, cz, s0, s1, o0, o1, Result.andThen, e2]

theorem run_newRow' {P : Program} (w : World) (t : TypeId) (cs : Array Value) : (newRow t cs).run P w = .ok ⟨w.heap.size, 0, none⟩ (w.alloc (.cells cs t)) := by
  simp [newRow, Result.andThen]
theorem run_newVar' {P : Program} (w : World) (t : TypeId) (v : Value) : (newVar t v).run P w = .ok ⟨w.heap.size, 0, none⟩ (w.alloc (.cells v.cells t)) := run_newRow' w t v.cells

/-- a slice of one element of many cells, built -/
theorem run_buildSlice_one {P : Program} {t e : TypeId} {n : Nat} {zs : Array Value} (ht : P.underlying t = some (.slice e)) (hs : ∀ w, (sizeOf e).run P w = .ok n w) (hz : ∀ w, (zeroValue e).run P w = .ok (.agg zs) w) (hn0 : 0 < n) (hn : n ≤ 16777216)
    (cs : List Value) (hcs : cs.length = n) (w : World) : (Instr.buildSlice t 1 #[(0, .agg cs.toArray)]).run P w = .ok (.slice (some ⟨w.heap.size, 0, none⟩) 1 1) (w.alloc (.cells cs.toArray e)) := by
  have e1 : ∀ c : Array Value, c.size = n → (Instr.fill (fun i => some (i * n, n)) c [(0, .agg cs.toArray)]) = some cs.toArray := by
    intro c hc
    have ca : (Value.agg cs.toArray).cells = cs.toArray := rfl
    rw [fill_one _ _ 0 0 (.agg cs.toArray) _ (by rw [ca]; simp [hcs]) (by rw [ca]; simp [hcs, hc]), ca]
    simp [Instr.fill, hcs, hc]
  have h1 : ¬ n > 2 ^ 24 := by omega
  have h2 : ¬ n = 0 := by omega
  simp [Instr.buildSlice, run_underlying ht, hs, hz, Value.cells, Result.andThen, h1, h2, e1, run_newRow']

/-- a variable of many cells, made -/
theorem wpList_alloc_blk {P : Program} (w : World) {ops : Array Oper} {rest : List Oper} {o : Oper} {a : Act} {Q : Exit → Act → World → Prop} (hgd : o.guard = none) (t : TypeId) (ho : o.op = .alloc t) (zs : List Value) (hz : ∀ w, (zeroValue t).run P w = .ok (.agg zs.toArray) w)
    (h : ∀ w', Blk w' w.heap.size t zs → Below w.heap.size w w' → w'.heap.size = w.heap.size + 1 → wpList P ops Q rest (a.put o.dst (.pointer (some ⟨w.heap.size, 0, none⟩))) w') : wpList P ops Q (o :: rest) a w := by
  refine wpList_plain hgd fun K' hK' => ?_
  have hrun : (execOp a.eval o).run P w = .ok (.value (.pointer (some ⟨w.heap.size, 0, none⟩))) (w.alloc (.cells zs.toArray t)) := by
    simp [execOp, ho, Instr.alloc, hz, Result.andThen, run_newVar', Value.cells]
  unfold Oper.wp
  rw [hrun]
  exact hK' _ _ (h _ (Blk.new w zs t) ((Below.refl _ _).alloc (Nat.le_refl _) _) (by simp))

/-- a value of many cells, boxed -/
theorem wpList_box_blk {P : Program} (w : World) {ops : Array Oper} {rest : List Oper} {o : Oper} {a : Act} {Q : Exit → Act → World → Prop} (hgd : o.guard = none) (t : TypeId) (x : Operand) (ho : o.op = .box t x) (cs : List Value) (hx : a.eval x = .agg cs.toArray)
    (h : ∀ w', Blk w' w.heap.size t cs → Below w.heap.size w w' → w'.heap.size = w.heap.size + 1 → wpList P ops Q rest (a.put o.dst (.pointer (some ⟨w.heap.size, 0, none⟩))) w') : wpList P ops Q (o :: rest) a w := by
  refine wpList_plain hgd fun K' hK' => ?_
  have hrun : (execOp a.eval o).run P w = .ok (.value (.pointer (some ⟨w.heap.size, 0, none⟩))) (w.alloc (.cells cs.toArray t)) := by
    simp [execOp, ho, Instr.box, hx, Result.andThen, run_newVar', Value.cells]
  unfold Oper.wp
  rw [hrun]
  exact hK' _ _ (h _ (Blk.new w cs t) ((Below.refl _ _).alloc (Nat.le_refl _) _) (by simp))

/-- a slice of one element of many cells, made -/
theorem wpList_slice_one {P : Program} (w : World) {ops : Array Oper} {rest : List Oper} {o : Oper} {a : Act} {Q : Exit → Act → World → Prop} (hgd : o.guard = none) (t : TypeId) (x : Operand) (ho : o.op = .buildSlice t 1 #[(0, x)]) {e : TypeId} {n : Nat} {zs : Array Value} (ht : P.underlying t = some (.slice e)) (hs : ∀ w, (sizeOf e).run P w = .ok n w) (hz : ∀ w, (zeroValue e).run P w = .ok (.agg zs) w) (hn0 : 0 < n) (hn : n ≤ 16777216)
    (cs : List Value) (hcs : cs.length = n) (hx : a.eval x = .agg cs.toArray) (h : ∀ w', Blk w' w.heap.size e cs → Below w.heap.size w w' → w'.heap.size = w.heap.size + 1 → wpList P ops Q rest (a.put o.dst (.slice (some ⟨w.heap.size, 0, none⟩) 1 1)) w') : wpList P ops Q (o :: rest) a w := by
  refine wpList_plain hgd fun K' hK' => ?_
  have hrun : (execOp a.eval o).run P w = .ok (.value (.slice (some ⟨w.heap.size, 0, none⟩) 1 1)) (w.alloc (.cells cs.toArray e)) := by
    simp [execOp, ho, hx, run_buildSlice_one ht hs hz hn0 hn cs hcs, Result.andThen]
  unfold Oper.wp
  rw [hrun]
  exact hK' _ _ (h _ (Blk.new w cs e) ((Below.refl _ _).alloc (Nat.le_refl _) _) (by simp))

/-- a part of a block is stored -/
theorem wpList_store_part {P : Program} (w : World) {ops : Array Oper} {rest : List Oper} {o : Oper} {a : Act} {Q : Exit → Act → World → Prop} (hgd : o.guard = none) (ty : TypeId) (x y : Operand) (ho : o.op = .store ty x y)
    (g i : Nat) (e : TypeId) (xs cells : List Value) (hb : Blk w g e xs) (hx : a.eval x = .pointer (some ⟨g, i, none⟩)) (hy : a.eval y = .agg cells.toArray) (hl : i + cells.length ≤ xs.length) (hi : (P.info? ty).map (·.size) = some cells.length) (h1 : ∀ v ∈ cells, v.oneCell' = true)
    (h : ∀ w', Blk w' g e (setFrom xs i cells) → Ch (· = g) w w' → w'.heap.size = w.heap.size → wpList P ops Q rest (a.put o.dst undef) w') : wpList P ops Q (o :: rest) a w := by
  refine wpList_store_mid hgd ty x y ho g i cells.toArray hx hy (fun j hj => ?_) (by simpa using hi) (all_oneCell_toArray h1) ?_
  · have hj' : i + j < xs.length := by simp at hj; omega
    rw [hb.cell, hb.free]
    simp [hj']
  · exact h _ (hb.setCells cells i) (ch_setCells g cells i w) (size_setCells g cells i w)

/-- cells of a block, as a range -/
theorem rangeW_blk {w : World} {g : Nat} {e : TypeId} {xs : List Value} (h : Blk w g e xs) : w.rangeAt g 0 xs := fun j v hv => by rw [Nat.zero_add, h.cell]; exact hv
theorem rangeW_part {w : World} {g o : Nat} {xs : List Value} (h : ∀ j v, xs[j]? = some v → w.cell? ⟨g, o + j, none⟩ = some v) : w.rangeAt g o xs := h
theorem rangeW_ch {S : Nat → Prop} {w w' : World} {b o : Nat} {cs : List Value} (h : w.rangeAt b o cs) (hc : Ch S w w') (hS : ¬ S b) : w'.rangeAt b o cs := fun j v hv => by
  have := h j v hv
  exact (hc.cell (block_of_cell this) hS).trans this
theorem rangeW_below {w w' : World} {b o : Nat} {cs : List Value} (h : w.rangeAt b o cs) (hb : Below w.heap.size w w') : w'.rangeAt b o cs := fun j v hv => by
  have := h j v hv
  exact (hb.cell (block_of_cell this)).trans this

theorem wpList_load_any {P : Program} {ops : Array Oper} {rest : List Oper} {op : Oper} {a : Act} {w : World} {Q : Exit → Act → World → Prop} (hgd : Region.wanted op (yielded ops a.tmps) = true) (ty : TypeId) (x : Operand) (ho : op.op = .load ty x)
    (b o : Nat) (hx : a.eval x = .pointer (some ⟨b, o, none⟩)) (cs : List Value) (d : TypeDesc) (hc : w.rangeAt b o cs)
    (hu : P.underlying ty = some d) (hd : d.isRow = true) (hi : (P.info? ty).map (·.size) = some cs.length)
    (h : wpList P ops Q rest (a.put op.dst (.agg cs.toArray)) w) : wpList P ops Q (op :: rest) a w :=
  wpList_step fun _ hK => by rw [if_pos hgd]; exact wp_load_mid ty x ho b o hx cs d hc hu hd hi (hK _ _ h)

theorem ch_fresh {w w' : World} {o : Obj} (h : Ch (· = w.heap.size) (w.alloc o) w') : Below w.heap.size w w' :=
  below_ch ((Below.refl _ w).alloc (Nat.le_refl _) o) h (Nat.le_refl _) (fun k h => by have h2 : k = w.heap.size := h; omega)

theorem results_cellTmp {P : Program} {fn : Func} {p u : Tmp} {ty : TypeId} (h : fn.results = #[.cell p ty, .tmp u]) (tmps : Array Value) (w : World) (g : Nat) (e : TypeId) (xs : List Value) (hp : tmps.getD p undef = .pointer (some ⟨g, 0, none⟩)) (hb : Blk w g e xs) (d : TypeDesc)
    (hu : P.underlying ty = some d) (hd : d.isRow = true) (hi : (P.info? ty).map (·.size) = some xs.length) (v : Value) (hv : tmps.getD u undef = v) : (results fn tmps).run P w = .ok (.tuple #[.agg xs.toArray, v]) w := by
  rw [results_cell_tmp h, hp, hv]
  have hl := run_loadVar_mid (P := P) w g 0 ty xs d (fun j v hv => by rw [Nat.zero_add, hb.cell]; exact hv) hu hd hi
  simp only [asAddr, Sem.run_pure, Result.andThen_ok, hl]

end Go.Proofs.Ytkbhehnpgnilmaa
