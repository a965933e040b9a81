/-
  Maps with integer keys, read as functions: lookup, store, range. No program in sight. Conditions: none.
-/
import Derived.Test.YticcjaccpcnjhaaMaps
namespace Go.Proofs.Yticcjaccpcnjhaa
open Go Go.RowKit Go.MapKept
open Go.ChangeMaps (setBlock)

/-- the entries es read as f; z where there is none -/
structure Reads (k : IntKind) (es : Array MapEntry) (c : Nat) (z : Value) (f : Int → Value) : Prop where
  st : Stamped es c
  keys : ∀ e ∈ es.toList, ∃ j, e.key = .int k j
  at_ : ∀ e ∈ es.toList, ∀ j, e.key = .int k j → f j = e.val
  off : ∀ j, (∀ e ∈ es.toList, e.key ≠ .int k j) → f j = z

/-- block m is a map with integer keys that reads as f -/
def MapF (w : World) (m : Nat) (k : IntKind) (z : Value) (f : Int → Value) : Prop := ∃ es c, MapAt w m es c ∧ Reads k es c z f

theorem MapF.lt {w : World} {m : Nat} {k : IntKind} {z : Value} {f : Int → Value} (h : MapF w m k z f) : m < w.heap.size := by
  obtain ⟨es, c, h, _⟩ := h; exact h.lt
theorem MapF.keep {S : Nat → Prop} {w w' : World} {m : Nat} {k : IntKind} {z : Value} {f : Int → Value} (h : MapF w m k z f) (hc : Ch S w w') (hm : ¬ S m) : MapF w' m k z f := by
  obtain ⟨es, c, h, hr⟩ := h; exact ⟨es, c, h.keep hc hm, hr⟩

theorem reads_empty (k : IntKind) (z : Value) : Reads k #[] 0 z (fun _ => z) := ⟨stamped_empty 0, by simp, by simp, fun _ _ => rfl⟩

theorem isKey_int (k : IntKind) (x : Int) : IsKey (.int k) (.int k x) := rfl

theorem Reads.isKeys {k : IntKind} {es : Array MapEntry} {c : Nat} {z : Value} {f : Int → Value} (h : Reads k es c z f) : ∀ x ∈ es.toList, IsKey (.int k) x.key := fun x hx => by
  obtain ⟨j, hj⟩ := h.keys x hx
  rw [hj]; rfl

theorem Reads.find {k : IntKind} {es : Array MapEntry} {c : Nat} {z : Value} {f : Int → Value} (h : Reads k es c z f) (x : Int) :
    (Instr.findNow (.int k) (.int k x) es.toList 0 = some none ∧ (∀ e ∈ es.toList, e.key ≠ .int k x) ∧ f x = z) ∨
    ∃ j e, Instr.findNow (.int k) (.int k x) es.toList 0 = some (some (j, e.val)) ∧ es[j]? = some e ∧ e.key = .int k x ∧ f x = e.val := by
  rcases findNow_spec (isKey_int k x) es.toList 0 h.isKeys with ⟨h1, h2⟩ | ⟨j, e, h1, h2, h3⟩
  · exact .inl ⟨h1, h2, h.off x h2⟩
  · exact .inr ⟨j, e, by simpa using h1, by simpa using h2, h3, h.at_ e (List.mem_of_getElem? h2) x h3⟩

theorem run_lookup_f {P : Program} (w : World) {t kt et : TypeId} {k : IntKind} (ht : P.underlying t = some (.map kt et)) (hk : P.underlying kt = some (.int k)) {m : Nat} {z : Value} {f : Int → Value} (h : MapF w m k z f) (hz : (zeroValue et).run P w = .ok z w) (x : Int) :
    (Instr.lookup t (.map (some m)) (.int k x) false).run P w = .ok (f x) w := by
  obtain ⟨es, c, hm, hr⟩ := h
  have hck : ∀ b, (Instr.checkKey b 10000 kt (.int k x)).run P w = .ok () w := fun b => run_checkKey hk (isKey_int k x) b 9999
  rcases hr.find x with ⟨h1, _, h3⟩ | ⟨j, e, h1, _, _, h3⟩
  · simp [Instr.lookup, run_underlying ht, MapKept.run_getObj_map hm, hck, run_findKey hk h1, hz, h3, Result.andThen]
  · simp [Instr.lookup, run_underlying ht, MapKept.run_getObj_map hm, hck, run_findKey hk h1, h3, Result.andThen]

/-- f, with v at x -/
def setF (f : Int → Value) (x : Int) (v : Value) : Int → Value := fun j => if j = x then v else f j

theorem reads_push {k : IntKind} {es : Array MapEntry} {c : Nat} {z : Value} {f : Int → Value} (h : Reads k es c z f) (x : Int) (v : Value) (hn : ∀ e ∈ es.toList, e.key ≠ .int k x) :
    Reads k (es.push ⟨.int k x, v, c⟩) (c + 1) z (setF f x v) := by
  refine ⟨stamped_push h.st hn, ?_, ?_, ?_⟩
  · intro e he
    simp only [Array.toList_push, List.mem_append, List.mem_singleton] at he
    rcases he with he | rfl
    · exact h.keys e he
    · exact ⟨x, rfl⟩
  · intro e he j hj
    simp only [Array.toList_push, List.mem_append, List.mem_singleton] at he
    unfold setF
    rcases he with he | rfl
    · rw [if_neg (by rintro rfl; exact hn e he hj)]; exact h.at_ e he j hj
    · rw [if_pos (by simpa using hj.symm)]
  · intro j hj
    unfold setF
    rw [if_neg (by rintro rfl; exact hj ⟨.int k j, v, c⟩ (by simp) rfl)]
    exact h.off j (fun e he => hj e (by simp [he]))

theorem reads_modify {k : IntKind} {es : Array MapEntry} {c : Nat} {z : Value} {f : Int → Value} (h : Reads k es c z f) (x : Int) (v : Value) (i : Nat) (e0 : MapEntry) (hi : es[i]? = some e0) (hk : e0.key = .int k x) :
    Reads k (es.modify i fun e => { e with key := .int k x, val := v }) c z (setF f x v) := by
  have hkey : ∀ e', es[i]? = some e' → ({ e' with key := .int k x, val := v } : MapEntry).key = e'.key := fun e' he' => by rw [hi] at he'; cases he'; exact hk.symm
  have hs := stamped_modify h.st i (fun e => { e with key := .int k x, val := v }) (fun _ _ => rfl) (fun e' _ he' => hkey e' he')
  have hmem : ∀ e ∈ (es.modify i fun e => { e with key := .int k x, val := v }).toList, (e.key = .int k x ∧ e.val = v) ∨ (e ∈ es.toList ∧ e.key ≠ .int k x) := by
    intro e he
    obtain ⟨j, hj⟩ := List.mem_iff_getElem?.1 he
    simp only [Array.getElem?_toList, Array.getElem?_modify] at hj
    by_cases hij : i = j
    · subst hij
      rw [if_pos rfl, hi] at hj
      simp at hj
      subst hj
      exact .inl ⟨rfl, rfl⟩
    · rw [if_neg hij] at hj
      have hm : e ∈ es.toList := Array.mem_toList_iff.2 (Array.mem_of_getElem? hj)
      by_cases hkx : e.key = .int k x
      · exfalso
        have hnd := h.st.2.2
        have e1 : (es.toList.map (·.key))[i]? = some (.int k x) := by simp [hi, hk]
        have e2 : (es.toList.map (·.key))[j]? = some (.int k x) := by simp [hj, hkx]
        have l1 := (List.getElem?_eq_some_iff.1 e1).1
        have l2 := (List.getElem?_eq_some_iff.1 e2).1
        exact hij ((List.getElem?_inj l1 hnd).1 (e1.trans e2.symm))
      · exact .inr ⟨hm, hkx⟩
  refine ⟨hs, ?_, ?_, ?_⟩
  · intro e he
    rcases hmem e he with ⟨h1, _⟩ | ⟨h1, _⟩
    · exact ⟨x, h1⟩
    · exact h.keys e h1
  · intro e he j hj
    unfold setF
    rcases hmem e he with ⟨h1, h2⟩ | ⟨h1, h2⟩
    · rw [if_pos (by rw [h1] at hj; simpa using hj.symm), h2]
    · rw [if_neg (by rintro rfl; exact h2 hj)]; exact h.at_ e h1 j hj
  · intro j hj
    have hjx : j ≠ x := by
      rintro rfl
      have hl : i < es.size := (Array.getElem?_eq_some_iff.1 hi).1
      refine hj { e0 with key := .int k j, val := v } ?_ rfl
      refine Array.mem_toList_iff.2 (Array.mem_of_getElem? (i := i) ?_)
      simp [Array.getElem?_modify, hi]
    unfold setF
    rw [if_neg hjx]
    refine h.off j (fun e he hek => ?_)
    obtain ⟨n, hn⟩ := List.mem_iff_getElem?.1 he
    rw [Array.getElem?_toList] at hn
    by_cases hin : i = n
    · subst hin
      rw [hi] at hn; cases hn
      rw [hk] at hek
      exact hjx (by simpa using hek.symm)
    · refine hj e ?_ hek
      refine Array.mem_toList_iff.2 (Array.mem_of_getElem? (i := n) ?_)
      rw [Array.getElem?_modify, if_neg hin]; exact hn

theorem run_update_f {P : Program} (w : World) {t kt et : TypeId} {k : IntKind} (ht : P.underlying t = some (.map kt et)) (hk : P.underlying kt = some (.int k)) {m : Nat} {z : Value} {f : Int → Value} (h : MapF w m k z f) (x : Int) (v : Value) :
    ∃ w', (Instr.mapUpdate t (.map (some m)) (.int k x) v).run P w = .ok () w' ∧ MapF w' m k z (setF f x v) ∧ Ch (· = m) w w' ∧ w'.heap.size = w.heap.size := by
  obtain ⟨es, c, hm, hr⟩ := h
  have hck : (Instr.checkKey false 10000 kt (.int k x)).run P w = .ok () w := run_checkKey hk (isKey_int k x) false 9999
  rcases hr.find x with ⟨h1, h2, _⟩ | ⟨j, e, h1, h2, h3, _⟩
  · refine ⟨setBlock w m (.map (es.push ⟨.int k x, v, c⟩) (c + 1)), ?_, ⟨_, _, heap_setBlock hm, reads_push hr x v h2⟩, ch_setBlock _ _ _, by simp [setBlock]⟩
    simp [Instr.mapUpdate, run_underlying ht, MapKept.run_getObj_map hm, hck, run_findKey hk h1, MapKept.run_setObj_map _ hm, Result.andThen, setBlock]
  · refine ⟨setBlock w m (.map (es.modify j fun e => { e with key := .int k x, val := v }) c), ?_, ⟨_, _, heap_setBlock hm, reads_modify hr x v j e h2 h3⟩, ch_setBlock _ _ _, by simp [setBlock]⟩
    simp [Instr.mapUpdate, run_underlying ht, MapKept.run_getObj_map hm, hck, run_findKey hk h1, h2, h3, run_keyThatStays (isKey_int k x), MapKept.run_setObj_map _ hm, Result.andThen, setBlock]

theorem wpList_lookup_f {P : Program} (w : World) {ops : Array Oper} {rest : List Oper} {o : Oper} {a : Act} {Q : Exit → Act → World → Prop} (hgd : o.guard = none) (om ox : Operand) (t : TypeId) (hop : o.op = Op.lookup t om ox false)
    {kt et : TypeId} {k : IntKind} (ht : P.underlying t = some (.map kt et)) (hk : P.underlying kt = some (.int k)) (m : Nat) (z : Value) (f : Int → Value) (h : MapF w m k z f) (hz : (zeroValue et).run P w = .ok z w) (hm : a.eval om = .map (some m))
    (x : Int) (hx : a.eval ox = .int k x) (hK : wpList P ops Q rest (a.put o.dst (f x)) w) : wpList P ops Q (o :: rest) a w := by
  refine wpList_plain hgd fun K' hK' => ?_
  have hrun := run_lookup_f (P := P) w ht hk h hz x
  unfold Oper.wp
  simp [execOp, hop, hm, hx, hrun, Result.andThen]
  exact hK' _ _ hK

theorem wpList_update_f {P : Program} (w : World) {ops : Array Oper} {rest : List Oper} {o : Oper} {a : Act} {Q : Exit → Act → World → Prop} (hgd : o.guard = none) (om ox ov : Operand) (t : TypeId) (hop : o.op = Op.mapUpdate t om ox ov)
    {kt et : TypeId} {k : IntKind} (ht : P.underlying t = some (.map kt et)) (hk : P.underlying kt = some (.int k)) (m : Nat) (z : Value) (f : Int → Value) (h : MapF w m k z f) (hm : a.eval om = .map (some m))
    (x : Int) (hx : a.eval ox = .int k x) (v : Value) (hv : a.eval ov = v) (hK : ∀ w', MapF w' m k z (setF f x v) → Ch (· = m) w w' → w'.heap.size = w.heap.size → wpList P ops Q rest (a.put o.dst undef) w') : wpList P ops Q (o :: rest) a w := by
  refine wpList_plain hgd fun K' hK' => ?_
  obtain ⟨w', hrun, h1, h2, h3⟩ := run_update_f (P := P) w ht hk h x v
  unfold Oper.wp
  simp [execOp, hop, hm, hx, hv, hrun, Result.andThen]
  exact hK' _ _ (hK w' h1 h2 h3)

end Go.Proofs.Yticcjaccpcnjhaa
