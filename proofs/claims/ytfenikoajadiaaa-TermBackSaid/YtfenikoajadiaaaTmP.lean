/-
  Layer 5, plain: a term's bytes tell where it ends, and which it is. No walk. Conditions: none.
-/
import Derived.Test.YtfenikoajadiaaaTmU
import Derived.Test.YtfenikoajadiaaaTmL
namespace Go.Proofs.Ytfenikoajadiaaa
open Go Go.RowKit
set_option linter.unusedSimpArgs false
set_option linter.unusedVariables false

theorem beF2_inj {x y : Int} (hx : 0 ≤ x ∧ x ≤ 65535) (hy : 0 ≤ y ∧ y ≤ 65535) (h : beF x 2 = beF y 2) : x = y := by
  have h1 : numF (beF x 2) = x := by rw [numF_val _ (beF_allB _ _), beF_2 x hx]; omega
  have h2 : numF (beF y 2) = y := by rw [numF_val _ (beF_allB _ _), beF_2 y hy]; omega
  rw [← h1, ← h2, h]
theorem head_inj {k u n k' u' n' : Int} {s s' : ByteArray} {l l' : Nat} {X Y : List Int} (hp : PlainP k u n s l) (hp' : PlainP k' u' n' s' l')
    (h : headX k u n s (hasB k 1) (hasB k 2) (hasB k 4) ++ X = headX k' u' n' s' (hasB k' 1) (hasB k' 2) (hasB k' 4) ++ Y) : (k = k' ∧ u = u' ∧ n = n' ∧ s = s') ∧ X = Y := by
  unfold headX at h
  simp only [List.append_assoc, List.cons_append, List.nil_append, List.cons.injEq] at h
  obtain ⟨rfl, h⟩ := h
  have pt := hp.pt; have pt' := hp'.pt; have pu := hp.pu; have pu' := hp'.pu; have pn := hp.pn; have pn' := hp'.pn
  generalize hasB k 1 = bT at *
  generalize hasB k 2 = bU at *
  generalize hasB k 4 = bN at *
  have h1 : s = s' ∧ (if bU = true then [u] else []) ++ ((if bN = true then beF n 2 else []) ++ X) = (if bU = true then [u'] else []) ++ ((if bN = true then beF n' 2 else []) ++ Y) := by
    cases bT
    · have e1 : s = ⟨#[]⟩ := size_nil (by simpa using pt)
      have e2 : s' = ⟨#[]⟩ := size_nil (by simpa using pt')
      exact ⟨by rw [e1, e2], by simpa using h⟩
    · simp only [if_true, List.cons_append, List.cons.injEq] at h
      have hl : (ints s).length = (ints s').length := by rw [ints_length, ints_length]; omega
      have h3 := List.append_inj h.2 hl
      exact ⟨ints_inj h3.1, h3.2⟩
  obtain ⟨hs, h⟩ := h1
  have h2 : u = u' ∧ (if bN = true then beF n 2 else []) ++ X = (if bN = true then beF n' 2 else []) ++ Y := by
    cases bU
    · simp at pu pu' h; exact ⟨by rw [pu, pu'], h⟩
    · simpa using h
  obtain ⟨hu, h⟩ := h2
  cases bN
  · simp at pn pn' h; exact ⟨⟨rfl, hu, by rw [pn, pn'], hs⟩, h⟩
  · simp only [if_true] at pn pn' h
    have h3 := List.append_inj h (by rw [beF_length, beF_length])
    exact ⟨⟨rfl, hu, beF2_inj pn pn' h3.1, hs⟩, h3.2⟩
theorem bytesTL_inj : ∀ (ts us : List Tm), ts.length = us.length → (∀ t ∈ ts, ∀ u r s, okT t = true → okT u = true → bytesT t ++ r = bytesT u ++ s → t = u ∧ r = s) → okTL ts = true → okTL us = true → ∀ r s, bytesTL ts ++ r = bytesTL us ++ s → ts = us ∧ r = s
  | [], [], _, _, _, _, r, s, h => by rw [bytesTL] at h; exact ⟨rfl, h⟩
  | t :: ts, u :: us, hl, ih, h1, h2, r, s, h => by
    rw [okTL, Bool.and_eq_true] at h1 h2
    rw [bytesTL, bytesTL, List.append_assoc, List.append_assoc] at h
    obtain ⟨e1, h3⟩ := ih t List.mem_cons_self u _ _ h1.1 h2.1 h
    obtain ⟨e2, h4⟩ := bytesTL_inj ts us (by simpa using hl) (fun t ht => ih t (List.mem_cons_of_mem _ ht)) h1.2 h2.2 r s h3
    exact ⟨by rw [e1, e2], h4⟩
  | [], _ :: _, hl, _, _, _, _, _, _ => by simp at hl
  | _ :: _, [], hl, _, _, _, _, _, _ => by simp at hl
/-- bytes that begin with a term's begin with one alone -/
theorem bytesT_inj : ∀ (t u : Tm) (r s : List Int), okT t = true → okT u = true → bytesT t ++ r = bytesT u ++ s → t = u ∧ r = s := by
  refine Tm.ind fun k u n s ks ih v r q h1 h2 h => ?_
  obtain ⟨k', u', n', s', ks'⟩ := v
  rw [okT, Bool.and_eq_true] at h1 h2
  rw [bytesT, bytesT, List.append_assoc, List.append_assoc] at h
  have p1 := plainB_iff.1 h1.1
  have p2 := plainB_iff.1 h2.1
  obtain ⟨⟨e1, e2, e3, e4⟩, h3⟩ := head_inj p1 p2 h
  obtain ⟨e5, h4⟩ := bytesTL_inj ks ks' (by rw [p1.pl, p2.pl, e1]) (fun t ht u r s a b c => ih t ht u r s a b c) h1.2 h2.2 r q h3
  exact ⟨by rw [e1, e2, e3, e4, e5], h4⟩
theorem bytesT_eq {t u : Tm} (h1 : okT t = true) (h2 : okT u = true) : bytesT t = bytesT u ↔ t = u :=
  ⟨fun h => (bytesT_inj t u [] [] h1 h2 (by rw [h])).1, fun h => by rw [h]⟩
/-- no term's bytes begin with another's -/
theorem bytesT_pre {t u : Tm} (h1 : okT t = true) (h2 : okT u = true) (h : bytesT t = (bytesT u).take (bytesT t).length) : t = u := by
  refine (bytesT_inj t u ((bytesT u).drop (bytesT t).length) [] h1 h2 ?_).1
  rw [List.append_nil]
  conv => lhs; rw [h]
  rw [List.length_take]
  have : min (bytesT t).length (bytesT u).length = (bytesT t).length := by
    have h3 := congrArg List.length h
    rw [List.length_take] at h3
    exact h3.symm
  rw [this, List.take_append_drop]
/-- what stands ahead, said by rows -/
theorem lessT_eq {a b : Tm} (ha : sizeT a ≠ 0) (hb : sizeT b ≠ 0) : lessT a b = decide (cmpL (bytesT a) (bytesT b) < 0) := by
  unfold lessT cmpB
  have h1 := sizeT_bd a; have h2 := sizeT_bd b
  rw [show decide (0 < sizeT a) = true from by simp; omega, show decide (0 < sizeT b) = true from by simp; omega, Bool.true_and, Bool.true_and, cmp_gen _ _ (bytesT_B a (sizeT_good ha).1) (bytesT_B b (sizeT_good hb).1)]
structure OrdP (a b c : Tm) (sm ab ba bc ac : Bool) : Prop where
  self : sm = true → ab = false ∧ ba = false
  one : sm = false → ba = !ab
  tr : ab = true → bc = true → ac = true
theorem ord_ok {a b c : Tm} (ha : sizeT a ≠ 0) (hb : sizeT b ≠ 0) (hc : sizeT c ≠ 0) : OrdP a b c (sameT a b) (lessT a b) (lessT b a) (lessT b c) (lessT a c) := by
  rw [lessT_eq ha hb, lessT_eq hb ha, lessT_eq hb hc, lessT_eq ha hc]
  refine ⟨fun h => ?_, fun h => ?_, fun h1 h2 => ?_⟩
  · have e := (sameT_iff a b).1 h
    subst e
    rw [cmpL_self]; exact ⟨rfl, rfl⟩
  · have hne : bytesT a ≠ bytesT b := fun e => by
      have := (bytesT_eq (sizeT_good ha).1 (sizeT_good hb).1).1 e
      rw [(sameT_iff a b).2 this] at h; cases h
    have h0 : cmpL (bytesT a) (bytesT b) ≠ 0 := fun e => hne (cmpL_zero e)
    rw [cmpL_flip (bytesT a) (bytesT b)]
    by_cases hlt : cmpL (bytesT a) (bytesT b) < 0
    · rw [decide_eq_true hlt, decide_eq_false (by omega)]; rfl
    · rw [decide_eq_false hlt, decide_eq_true (by omega)]; rfl
  · simp only [decide_eq_true_eq] at h1 h2 ⊢
    exact cmpL_trans h1 h2

end Go.Proofs.Ytfenikoajadiaaa
