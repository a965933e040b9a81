/-
  Rows of digests: laid behind one another, cut, made empty. Conditions: at most a hundred thousand digests.
-/
import Derived.Test.YtkbhehnpgnilmaaWtD
import Derived.Laws.AppendOwnNone
namespace Go.Proofs.Ytkbhehnpgnilmaa
open Go Go.RowKit
set_option linter.unusedSimpArgs false

theorem add_none' (b o i : Nat) : Addr.add ⟨b, o, none⟩ i = ⟨b, o + i, none⟩ := by unfold Addr.add; split <;> simp_all

/-- no row, and no room -/
def NilC (v : Value) : Prop := ∀ c, v = .slice none 0 c → c = 0

theorem SlD.take {w : World} {ao : Option Addr} {n c : Nat} {l : List (List Int)} (h : SlD w (.slice ao n c) l) (k : Nat) (hk : k ≤ n) : SlD w (.slice ao k c) (l.take k) := by
  obtain ⟨ao', c', e, h2, h3, h4⟩ := h
  obtain ⟨rfl, rfl, rfl⟩ : ao = ao' ∧ n = l.length ∧ c = c' := by simpa using e
  have hl : (l.take k).length = k := by rw [List.length_take]; omega
  refine ⟨ao, c, by rw [hl], by omega, h3, fun h0 => ?_⟩
  obtain ⟨g, o, h5, h6⟩ := h4 (by omega)
  refine ⟨g, o, h5, fun j hj => ?_⟩
  rw [List.getElem_take]
  exact h6 j (by omega)

theorem wpList_append_ids (w : World) {ops : Array Oper} {rest : List Oper} {o : Oper} {a : Act} {Q : Exit → Act → World → Prop} (hgd : o.guard = none) (s x' : Operand)
    (ho : o.op = .call { callee := .builtin .append, args := #[s, x'], argTypes := #[54, 54] }) (base : Nat)
    (v : Value) (n : Nat) (l : List (List Int)) (hs : a.eval s = v) (hown : w.ownsRow base 23 32 v n (ofK .u8 l.flatten))
    (vx : Value) (r : List (List Int)) (hx : a.eval x' = vx) (hr : SlD w vx r) (hnil : NilC vx) (hD : ∀ x ∈ r, IsD x) (hn : n + r.length ≤ 100000) (hbase : base ≤ w.heap.size)
    (h : ∀ ao c w', w'.ownsRow base 23 32 (.slice ao (n + r.length) c) (n + r.length) (ofK .u8 (l ++ r).flatten) → w.grownBy w' v.ownBlock → wpList Try.prog ops Q rest (a.put o.dst (.slice ao (n + r.length) c)) w') :
    wpList Try.prog ops Q (o :: rest) a w := by
  obtain ⟨i0, hi0, hz0, hz1, hz2⟩ := info_parts (show (Try.prog.info? 23).map (fun i => (i.zero, i.size, i.bytes)) = some (some (.agg (ofK .u8 zer32).toArray), 32, 32) by kernel_rfl)
  obtain ⟨ao, c, rfl, hc1, hc2, hcell⟩ := hr
  have e1 : ofK .u8 (l ++ r).flatten = ofK .u8 l.flatten ++ ofK .u8 r.flatten := by simp [ofK]
  rw [e1] at h
  cases ao with
  | none =>
    have h0 : r = [] := by
      refine Classical.byContradiction fun hne => ?_
      obtain ⟨g, o, h1, _⟩ := hcell (List.length_pos_iff.2 hne)
      cases h1
    subst h0
    obtain rfl : c = 0 := hnil c rfl
    obtain ⟨ao', c', rfl⟩ := own_shape hown
    refine wpList_append_own_none hgd s x' _ ho base _ i0 32 Try.underlying54 hi0 _ n _ hs hown hx ?_
    exact h ao' c' w (by simpa [ofK] using hown) ⟨rfl, rfl, rfl, Nat.le_refl _, fun _ _ _ => rfl⟩
  | some ad =>
    refine wpList_append_own_at w hgd s x' _ ho base _ i0 _ 32 32 Try.underlying54 hi0 hz0 hz1 hz2 (by rfl) (by omega) v n _ hs hown ad r.length c (ofK .u8 r.flatten) hx (by rw [length_ofK, flat32 hD, Nat.mul_comm]) (fun j u hu => ?_) (one_ofK _ _) (by unfold maxLen; omega) (by omega) hbase (fun v' w' a1 a2 _ _ => ?_)
    · have hj : j < r.flatten.length := by have := (List.getElem?_eq_some_iff.1 hu).1; rwa [length_ofK] at this
      rw [flat32 hD] at hj
      have hk : j / 32 < r.length := by omega
      obtain ⟨g, o, h1, h6⟩ := hcell (by omega)
      obtain rfl : ad = ⟨g, o, none⟩ := by simpa using h1
      have := h6 (j / 32) hk (j % 32) u (by
        unfold ofK at hu ⊢
        rw [List.getElem?_map] at hu ⊢
        rw [← flat_at hD (j / 32) hk (j % 32) (by omega), show j / 32 * 32 + j % 32 = j by omega]
        exact hu)
      rw [show o + j / 32 * 32 + j % 32 = o + j by omega] at this
      rw [add_none']
      exact this
    · obtain ⟨ao', c', rfl⟩ := own_shape a1
      exact h ao' c' w' a1 a2

theorem wpList_slice_ids0 (w : World) {ops : Array Oper} {rest : List Oper} {o : Oper} {a : Act} {Q : Exit → Act → World → Prop} (hgd : o.guard = none) (ho : o.op = .buildSlice 54 0 #[])
    (h : ∀ w', w'.ownsRow w.heap.size 23 32 (.slice (some ⟨w.heap.size, 0, none⟩) 0 0) 0 (ofK .u8 ([] : List (List Int)).flatten) → Below w.heap.size w w' → w'.heap.size = w.heap.size + 1 → wpList Try.prog ops Q rest (a.put o.dst (.slice (some ⟨w.heap.size, 0, none⟩) 0 0)) w') :
    wpList Try.prog ops Q (o :: rest) a w := by
  refine wpList_plain hgd fun K hK => ?_
  have hrun : (execOp a.eval o).run Try.prog w = .ok (.value (.slice (some ⟨w.heap.size, 0, none⟩) 0 0)) (w.alloc (.cells #[] 23)) := by
    have hb : (Instr.buildSlice 54 0 #[]).run Try.prog w = .ok (.slice (some ⟨w.heap.size, 0, none⟩) 0 0) (w.alloc (.cells #[] 23)) := by
      simp [Instr.buildSlice, run_underlying Try.underlying54, Result.andThen, Instr.fill, run_newRow']
      have e : ∀ f : Nat → Value, Array.map f (Array.range 0) = #[] := fun f => Array.eq_empty_of_size_eq_zero (by simp)
      rw [e]
    unfold execOp
    simp [ho, hb, Result.andThen]
  unfold Oper.wp
  rw [hrun]
  refine hK _ _ (h _ ⟨rfl, .inr ⟨w.heap.size, 0, #[], rfl, Nat.le_refl _, ?_, Nat.le_refl _, Nat.zero_le _, rfl, rfl⟩⟩ ((Below.refl _ _).alloc (Nat.le_refl _) _) (World.size_alloc _ _))
  have := Blk.new w [] 23
  unfold Blk at this
  exact this

end Go.Proofs.Ytkbhehnpgnilmaa
