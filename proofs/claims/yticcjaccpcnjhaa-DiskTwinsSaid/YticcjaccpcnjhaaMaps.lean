/-
  Maps with integer keys and elements of whatever kind, laid by the call itself: laws for the walk. No program in sight. Conditions: none.
-/
import Derived.Test.YticcjaccpcnjhaaLib
import Derived.Maps.RangeRun
import Derived.Maps.RangeWalk
namespace Go.Proofs.Yticcjaccpcnjhaa
open Go Go.RowKit
open Go.ChangeMaps (setBlock)

/-- block m is a map with the entries es -/
def MapAt (w : World) (m : Nat) (es : Array MapEntry) (clock : Nat) : Prop := w.heap[m]? = some (.map es clock)
/-- block r is an iterator over map m, begun at clock c, which has handed out the entries of the stamps seen -/
def IterAt (w : World) (r m c : Nat) (seen : Array Nat) : Prop := w.heap[r]? = some (.mapIter (some m) c seen c)

theorem MapAt.lt {w : World} {m : Nat} {es : Array MapEntry} {c : Nat} (h : MapAt w m es c) : m < w.heap.size := lt_of_block h
theorem MapAt.keep {S : Nat → Prop} {w w' : World} {m : Nat} {es : Array MapEntry} {c : Nat} (h : MapAt w m es c) (hc : Ch S w w') (hm : ¬ S m) : MapAt w' m es c := by
  unfold MapAt at *; rw [hc.block m (lt_of_block h) hm]; exact h
theorem IterAt.keep {S : Nat → Prop} {w w' : World} {r m c : Nat} {seen : Array Nat} (h : IterAt w r m c seen) (hc : Ch S w w') (hr : ¬ S r) : IterAt w' r m c seen := by
  unfold IterAt at *; rw [hc.block r (lt_of_block h) hr]; exact h

theorem ch_setBlock (w : World) (r : Nat) (o : Obj) : Ch (· = r) w (setBlock w r o) :=
  ⟨rfl, rfl, rfl, by simp [setBlock], fun k _ hk => by
    simp only [setBlock, Array.getElem?_setIfInBounds]
    rw [if_neg (fun e => hk e.symm)]⟩
theorem heap_setBlock {w : World} {r : Nat} {o o' : Obj} (h : w.heap[r]? = some o) : (setBlock w r o').heap[r]? = some o' := by
  have hlt := lt_of_block h
  simp [setBlock, hlt]

theorem findNow_new {k : IntKind} (x : Int) : ∀ (es : List MapEntry) (i : Nat), (∀ e ∈ es, ∃ j, e.key = .int k j ∧ j ≠ x) → Instr.findNow (.int k) (.int k x) es i = some none := by
  intro es
  induction es with
  | nil => intro i _; rfl
  | cons e es ih =>
    intro i h
    obtain ⟨j, hj, hne⟩ := h e (by simp)
    have h0 : (x == j) = false := by simpa using fun e => hne e.symm
    simp only [Instr.findNow, hj, Instr.sameNow, if_true, h0]
    exact ih (i + 1) (fun e he => h e (by simp [he]))

theorem run_checkKey_int {P : Program} (w : World) {kt : TypeId} {k : IntKind} (hk : P.underlying kt = some (.int k)) (x : Int) (n : Nat) : (Instr.checkKey false (n + 1) kt (.int k x)).run P w = .ok () w := by
  rw [Instr.checkKey]
  simp [run_underlying hk, Result.andThen]

theorem run_insert_new {P : Program} (w : World) {t kt et : TypeId} {k : IntKind} (ht : P.underlying t = some (.map kt et)) (hk : P.underlying kt = some (.int k)) {m : Nat} {es : Array MapEntry} {c : Nat} (h : MapAt w m es c) (x : Int) (v : Value)
    (hnew : ∀ e ∈ es.toList, ∃ j, e.key = .int k j ∧ j ≠ x) : (Instr.mapUpdate t (.map (some m)) (.int k x) v).run P w = .ok () (setBlock w m (.map (es.push ⟨.int k x, v, c⟩) (c + 1))) := by
  unfold MapAt at h
  have hf := MapKept.run_findKey (P := P) (w := w) hk (findNow_new (k := k) x es.toList 0 hnew)
  have hck : (Instr.checkKey false 10000 kt (.int k x)).run P w = .ok () w := run_checkKey_int w hk x 9999
  simp [Instr.mapUpdate, run_underlying ht, MapKept.run_getObj_map h, hck, hf, MapKept.run_setObj_map _ h, Result.andThen, setBlock]

theorem wpList_insert_new {P : Program} (w : World) {ops : Array Oper} {rest : List Oper} {o : Oper} {a : Act} {Q : Exit → Act → World → Prop} (hgd : o.guard = none) (om ox ov : Operand) (t : TypeId) (hop : o.op = Op.insert t om ox ov)
    {kt et : TypeId} {k : IntKind} (ht : P.underlying t = some (.map kt et)) (hk : P.underlying kt = some (.int k)) (m : Nat) (es : Array MapEntry) (c : Nat) (h : MapAt w m es c) (hm : a.eval om = .map (some m))
    (x : Int) (hx : a.eval ox = .int k x) (v : Value) (hv : a.eval ov = v) (hnew : ∀ e ∈ es.toList, ∃ j, e.key = .int k j ∧ j ≠ x)
    (hK : ∀ w', MapAt w' m (es.push ⟨.int k x, v, c⟩) (c + 1) → Ch (· = m) w w' → wpList P ops Q rest (a.put o.dst undef) w') : wpList P ops Q (o :: rest) a w := by
  refine wpList_plain hgd fun K' hK' => ?_
  have hrun := run_insert_new (P := P) w ht hk h x v hnew
  unfold Oper.wp
  simp [execOp, hop, hm, hx, hv, hrun, Result.andThen]
  exact hK' _ _ (hK _ (heap_setBlock h) (ch_setBlock _ _ _))

theorem wpList_range_map {P : Program} (w : World) {ops : Array Oper} {rest : List Oper} {o : Oper} {a : Act} {Q : Exit → Act → World → Prop} (hgd : o.guard = none) (om : Operand) (t : TypeId) (hop : o.op = Op.range t om)
    {kt et : TypeId} (ht : P.underlying t = some (.map kt et)) (m : Nat) (es : Array MapEntry) (c : Nat) (h : MapAt w m es c) (hm : a.eval om = .map (some m))
    (hK : ∀ w', IterAt w' w.heap.size m c #[] → Below w.heap.size w w' → w'.heap.size = w.heap.size + 1 → wpList P ops Q rest (a.put o.dst (.pointer (some ⟨w.heap.size, 0, none⟩))) w') : wpList P ops Q (o :: rest) a w := by
  refine wpList_plain hgd fun K' hK' => ?_
  have hrun : (Instr.range t (.map (some m))).run P w = .ok (.pointer (some ⟨w.heap.size, 0, none⟩)) (w.alloc (.mapIter (some m) c #[] c)) := run_range_map w t kt et m es c ht h
  unfold Oper.wp
  simp [execOp, hop, hm, hrun, Result.andThen]
  exact hK' _ _ (hK _ (heap_alloc_new _ _) ((Below.refl _ _).alloc (Nat.le_refl _) _) (by simp))

theorem wpList_next_map {P : Program} (w : World) {ops : Array Oper} {rest : List Oper} {o : Oper} {a : Act} {Q : Exit → Act → World → Prop} (hgd : o.guard = none) (it : Operand) (hop : o.op = Op.next it false)
    (r m c : Nat) (seen : Array Nat) (es : Array MapEntry) (hr : IterAt w r m c seen) (hb : MapAt w m es c) (hit : a.eval it = .pointer (some ⟨r, 0, none⟩)) (hold : ∀ x ∈ es.toList, x.born < c) (hnd : (es.toList.map (·.born)).Nodup) (hne : r ≠ m)
    (hDone : (∀ e ∈ es.toList, e.born ∈ seen) → wpList P ops Q rest (a.put o.dst (.tuple #[.bool false])) w)
    (hMore : ∀ e ∈ es.toList, e.born ∉ seen → ∀ w', MapAt w' m es c → IterAt w' r m c (seen.push e.born) → Ch (· = r) w w' → w'.heap.size = w.heap.size → (Instr.entry (.pointer (some ⟨r, 0, none⟩))).run P w' = .ok (.tuple #[e.key, e.val]) w' → wpList P ops Q rest (a.put o.dst (.tuple #[.bool true, e.key, e.val])) w') :
    wpList P ops Q (o :: rest) a w := by
  refine wpList_plain hgd fun K' hK' => ?_
  rcases run_next_at (P := P) w o.type r m c c seen es c hr hb hold (Nat.le_refl _) with ⟨h0, hrun⟩ | ⟨e, he, w1, hw1, hrun⟩
  · unfold Oper.wp
    simp [execOp, hop, hit, hrun, Result.andThen]
    refine hK' _ _ (hDone fun e he => ?_)
    have hem : leftOf es seen = #[] := Array.eq_empty_of_size_eq_zero h0
    unfold leftOf at hem
    rw [Array.filter_eq_empty_iff] at hem
    have := hem e (by simpa using he)
    simpa using this
  · have he' : e ∈ es.toList ∧ e.born ∉ seen := by
      unfold leftOf at he
      simpa using he
    have hr1 : w1.heap[r]? = some (.mapIter (some m) c seen c) := by rcases hw1 with rfl | rfl <;> exact hr
    have hb1 : w1.heap[m]? = some (.map es c) := by rcases hw1 with rfl | rfl <;> exact hb
    have hc1 : Ch (· = r) w w1 := by
      rcases hw1 with rfl | rfl
      · exact Ch.refl _ _
      · exact (Ch.refl _ _).drew
    have hch := hc1.trans (ch_setBlock w1 r (.mapIter (some m) c (seen.push e.born) c))
    have hm2 : MapAt (setBlock w1 r (.mapIter (some m) c (seen.push e.born) c)) m es c := MapAt.keep hb hch (fun e => hne e.symm)
    have hi2 : IterAt (setBlock w1 r (.mapIter (some m) c (seen.push e.born) c)) r m c (seen.push e.born) := heap_setBlock hr1
    unfold Oper.wp
    simp [execOp, hop, hit, hrun, Result.andThen]
    refine hK' _ _ (hMore e he'.1 he'.2 _ hm2 hi2 hch ?_ (run_entry_at _ r m c seen es c e hi2 hm2 he'.1 hnd))
    rcases hw1 with rfl | rfl <;> simp [setBlock]

end Go.Proofs.Yticcjaccpcnjhaa
