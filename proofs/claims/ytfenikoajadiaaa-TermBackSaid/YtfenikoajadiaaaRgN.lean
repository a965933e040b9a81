/-
  A drawn region with a mark: what asks nothing of the world is taken as soon as it is ready. No program in sight. Conditions: none.
-/
import Derived.Test.YtfenikoajadiaaaRgM
namespace Go.Proofs.Ytfenikoajadiaaa
open Go Go.RowKit Go.Sort

section
variable {P : Program} {ops : Array Oper} {md : Region.Mode} {Q : Exit → Act → World → Prop} {S : World → Prop} {m : Nat}

/-- what yields the same in every world may be taken as soon as it is ready, S or no S -/
theorem wpAnyM_pure {i : Nat} {oi : Oper} {v : Value} (hi : ops[i]? = some oi) (hsel : ∀ (j : Nat) (o : Oper) cs b, ops[j]? = some o → o.op ≠ .select cs b)
    (hQ : ∀ c a w, Q (.panic c) (a.put oi.dst v) w → Q (.panic c) a w) (him : i ≠ m) :
    ∀ (f : Nat) (l : Array Bool) (a : Act) (w : World), (l.getD m true = false → S w) →
      (∀ j oj, ops[j]? = some oj → j ≠ i → l.getD j true = false → (∀ e ∈ oj.after, Region.binds md e = true → e.on ≠ i) → oi.apart ops oj = true) →
      i ∈ Region.ready md ops l → YieldsIf P ops (fun _ => True) oi v a →
      wpAnyM P md ops Q S m f (l.setIfInBounds i true) (a.put oi.dst v) w → wpAnyM P md ops Q S m (f + 1) l a w
  | 0, l, a, w, hl, _, hr, hy, H => by
    refine ⟨fun h => (by rw [h] at hr; cases hr), fun j hj => ?_⟩
    rcases Nat.decEq j i with hji | hji
    · have := ready_mono hj hji
      rw [H.1] at this; cases this
    · subst hji
      exact hy.wpOp hi trivial ⟨fun h => hl (by rw [getD_set_ne true him] at h; exact h), H⟩
  | f + 1, l, a, w, hl, hfree, hr, hy, H => by
    refine ⟨fun h => (by rw [h] at hr; cases hr), fun j hj => ?_⟩
    rcases Nat.decEq j i with hji | hji
    rotate_left
    · subst hji
      exact hy.wpOp hi trivial ⟨fun h => hl (by rw [getD_set_ne true him] at h; exact h), H⟩
    · have hnext := H.2 j (ready_mono hj hji)
      obtain ⟨hju, oj, hoj, hall⟩ := mem_ready.1 hj
      have hno : ∀ e ∈ oj.after, Region.binds md e = true → e.on ≠ i := fun e he hb heq => by
        have h1 := hall e he hb
        have h0 := (mem_ready.1 hr).1
        rw [heq] at h1
        rcases Nat.lt_or_ge i l.size with h | h
        · simp [h] at h0 h1
          rw [h0] at h1; cases h1
        · simp [Array.getElem?_eq_none h] at h1
      have hput := wpOp_putIf hoj (hfree j oj hoj hji hju hno) (fun cs b => hsel i oi cs b hi) (fun cs b => hsel j oj cs b hoj) hQ hy hnext
      refine wpOp_mono (fun a' w' k => ?_) hput
      have hS' : (l.setIfInBounds j true).getD m true = false → S w' := fun h => k.2.1 (by rw [Array.setIfInBounds_comm _ _ (Ne.symm hji), getD_set_ne true him]; exact h)
      refine ⟨hS', wpAnyM_pure hi hsel hQ him f (l.setIfInBounds j true) a' w' hS' (fun k' ok hk hki hun hn => ?_) (ready_mono hr (Ne.symm hji)) k.1 ?_⟩
      · refine hfree k' ok hk hki ?_ hn
        by_cases hjk : j = k'
        · subst hjk; exact hju
        · rw [getD_set_ne true hjk] at hun; exact hun
      · rw [Array.setIfInBounds_comm _ _ hji]
        exact k.2.2
theorem wpAnyM_take0 (hsel : Region.noSelect ops = true) (hQ : ∀ c a a' w, Q (.panic c) a' w → Q (.panic c) a w) {fuel : Nat} {w : World} {l : Array Bool} {a : Act} (hS : l.getD m true = false → S w) (i : Nat)
    (hB : (Region.free md ops l i && ((Region.ready md ops l).contains i && (i != m))) = true)
    (h : HeldL P ops (fun _ => True) [i] (fun a' => wpAnyM P md ops Q S m fuel (l.setIfInBounds i true) a' w) a) : wpAnyM P md ops Q S m (fuel + 1) l a w := by
  simp only [Bool.and_eq_true, bne_iff_ne] at hB
  obtain ⟨o, v, hi, hy, h⟩ := h
  exact wpAnyM_pure hi (Region.noSelect_spec hsel) (fun c a' w' hh => hQ c _ _ w' hh) hB.2.2 _ _ _ _ hS (Region.free_spec hi hB.1) (by simpa using hB.2.1) hy h

end

end Go.Proofs.Ytfenikoajadiaaa
