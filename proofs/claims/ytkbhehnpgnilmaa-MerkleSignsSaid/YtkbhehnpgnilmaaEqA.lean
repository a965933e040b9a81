/-
  Arrays of numbers by value: compared, and opened as arguments. No walk. Conditions: none.
-/
import Derived.Test.YtkbhehnpgnilmaaFrame
import Derived.Laws.StructEq
namespace Go.Proofs.Ytkbhehnpgnilmaa
open Go Go.RowKit Go.ChangeShapes Go.WideShapes Go.ChangeAt

theorem all_range_eqI : ∀ (xs ys : List Int), xs.length = ys.length → ((List.range xs.length).all fun i => xs.getD i 0 == ys.getD i 0) = decide (xs = ys)
  | [], [], _ => rfl
  | x :: xs, y :: ys, h => by
    have ih := all_range_eqI xs ys (by simpa using h)
    rw [List.length_cons, List.range_succ_eq_map, List.all_cons, List.all_map]
    simp only [List.getD_cons_zero, Function.comp_def, List.getD_cons_succ, ih]
    by_cases h1 : x = y
    · subst h1; simp
    · have h2 : (x == y) = false := by simpa using h1
      simp [h2, h1]
  | [], _ :: _, h => by simp at h
  | _ :: _, [], h => by simp at h

theorem run_equalIn_arrK {P : Program} (w : World) (k : IntKind) (d : Nat) (t e : TypeId) (n : Nat) (ht : P.underlying t = some (.array n e)) (he : P.underlying e = some (.int k)) (hsz : ∀ w, (sizeOf e).run P w = .ok 1 w)
    (xs ys : List Int) (hx : xs.length = n) (hy : ys.length = n) :
    (Op.equalIn (d + 2) t (.agg (ofK k xs).toArray) (.agg (ofK k ys).toArray)).run P w = .ok (decide (xs = ys)) w := by
  rw [← all_range_eqI xs ys (hx.trans hy.symm), hx, List.range_eq_range', Op.equalIn]
  simp only [Sem.run_bind, run_underlying ht, Result.andThen_ok, hsz, Std.Legacy.Range.forIn_eq_forIn_range', Std.Legacy.Range.size, Nat.sub_zero, Nat.add_sub_cancel, Nat.div_one]
  have hl : ∀ i ∈ List.range' 0 n 1, i < n := fun i hi => by simpa using (List.mem_range'_1.1 hi).2
  generalize List.range' 0 n 1 = l at hl ⊢
  induction l with
  | nil => simp
  | cons i l ih =>
    have hi : i < n := hl i (by simp)
    have px : (part e (ofK k xs).toArray (i * 1)).run P w = .ok (.int k (xs.getD i 0)) w := by
      simp [part, isAgg, run_underlying he, List.getD, ofK, List.getElem?_eq_getElem (show i < xs.length by omega)]
    have py : (part e (ofK k ys).toArray (i * 1)).run P w = .ok (.int k (ys.getD i 0)) w := by
      simp [part, isAgg, run_underlying he, List.getD, ofK, List.getElem?_eq_getElem (show i < ys.length by omega)]
    have pe : (Op.equalIn (d + 1) e (.int k (xs.getD i 0)) (.int k (ys.getD i 0))).run P w = .ok (xs.getD i 0 == ys.getD i 0) w := run_equalIn_int w d e k k _ _ he
    simp only [List.forIn_cons, Sem.run_bind, px, py, pe, Result.andThen_ok, List.all_cons]
    cases hb : (xs.getD i 0 == ys.getD i 0)
    · simp
    · simp only [Bool.not_true, Bool.false_eq_true, if_false, Sem.run_pure, Result.andThen_ok, Bool.true_and]
      exact ih fun j hj => hl j (by simp [hj])

set_option maxRecDepth 100000 in
/-- an array of numbers that came in -/
theorem open_arrK {H : Type} {enc : TypeId × Value → H} {W : World} {t e : TypeId} {k : IntKind} {n : Nat} {v : Value} {d : DataW H} {p : List MemPlace} {r : Reach} {b0 : Nat} (ht : Try.prog.underlying t = some (.array n e)) (he : Try.prog.underlying e = some (.int k)) (hc : Try.prog.cellsOf e = 1) (hct : Try.prog.cellsOf t = n)
    (hv : Value.okWide Try.prog W r b0 t v) (h : DataW.Trod enc Try.prog W 0 (fun _ => true) true t v d p) :
    ∃ bs : List Int, v = .agg (ofK k bs).toArray ∧ bs.length = n ∧ ∀ c ∈ bs, (Lit.int k c).wf = true := by
  simp only [Value.okWide, ht] at hv
  obtain ⟨cs, h1, h2, _⟩ := hv
  subst h1
  obtain ⟨fuel, hf⟩ := h
  obtain ⟨xs, m, _, hx, hl, hxl, hall⟩ := DataW.trod_array ht hf
  simp only [Value.cells] at hl hall
  have hcs : cs.toList.length = n := by rw [hl, hct]
  have each : ∀ i, i < n → ∃ z : Int, cs.toList[i]? = some (.int k z) ∧ (Lit.int k z).wf = true := by
    intro i hi
    have h3 := hall i hi
    rw [hc, Nat.mul_one, List.getElem?_eq_getElem (by omega)] at h3
    have hd1 : (cs.toList.drop i).take 1 = [cs.toList[i]'(by omega)] := by
      rw [List.drop_eq_getElem_cons (by omega)]; rfl
    rw [hd1] at h3
    obtain ⟨z, e1, _, hw⟩ := DataW.trod_int he h3
    simp only [List.cons.injEq, and_true] at e1
    exact ⟨z, by rw [List.getElem?_eq_getElem (by omega), e1], hw⟩
  obtain ⟨q, hq⟩ := Deep.choose_lt each
  refine ⟨(List.range n).map q, ?_, by simp, fun c hc' => ?_⟩
  · have hL : cs.toList = ofK k ((List.range n).map q) := by
      apply List.ext_getElem?
      intro i
      by_cases hi : i < n
      · rw [(hq i hi).1]; simp [ofK, hi]
      · rw [List.getElem?_eq_none (Nat.le_trans (Nat.le_of_eq hcs) (Nat.le_of_not_lt hi)), List.getElem?_eq_none (by rw [length_ofK, List.length_map, List.length_range]; exact Nat.le_of_not_lt hi)]
    rw [← hL]
  · obtain ⟨i, hi, rfl⟩ := List.mem_map.1 hc'
    exact (hq i (List.mem_range.1 hi)).2

end Go.Proofs.Ytkbhehnpgnilmaa
