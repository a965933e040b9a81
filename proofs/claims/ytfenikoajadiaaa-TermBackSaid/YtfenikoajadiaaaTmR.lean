/-
  Layer 5: rows of terms that grow; the state of a reader of terms; need, walked. Conditions: none.
-/
import Derived.Test.YtfenikoajadiaaaTmK
import Derived.Test.YtfenikoajadiaaaBe
namespace Go.Proofs.Ytfenikoajadiaaa
open Go Go.RowKit
set_option linter.unusedSimpArgs false
set_option linter.unusedVariables false


/-- an own row of terms -/
def KidI (B : Nat) (v : Value) (ts : List Tm) (W : World) : Prop := ∃ css : List (List Value), W.ownsRow B 24 5 v ts.length css.flatten ∧ css.length = ts.length ∧ ∀ j (h1 : j < css.length) (h2 : j < ts.length), TmC (fun k => B ≤ k ∧ v.ownBlock ≠ some k) W css[j] ts[j]
theorem flat_get : ∀ {css : List (List Value)} {j i : Nat} (hl : ∀ c ∈ css, c.length = 5) (hj : j < css.length) (hi : i < 5), css.flatten[j * 5 + i]? = css[j][i]?
  | c :: css, 0, i, hl, _, hi => by
    rw [List.flatten_cons, List.getElem?_append_left (by have := hl c List.mem_cons_self; omega)]
    simp
  | c :: css, j + 1, i, hl, hj, hi => by
    have h5 := hl c List.mem_cons_self
    rw [List.flatten_cons, List.getElem?_append_right (by omega), h5, show (j + 1) * 5 + i - 5 = j * 5 + i by omega, flat_get (fun c hc => hl c (List.mem_cons_of_mem _ hc)) (by simpa using hj) hi]
    simp
theorem KidI.nil (B : Nat) (W : World) : KidI B (.slice none 0 0) [] W := ⟨[], World.ownsRow_nil _ _ _ _, rfl, fun j h => absurd h (by simp)⟩
theorem KidI.len5 {B : Nat} {v : Value} {W : World} {css : List (List Value)} {ts : List Tm} (h : css.length = ts.length) (ht : ∀ j (h1 : j < css.length) (h2 : j < ts.length), TmC (fun k => B ≤ k ∧ v.ownBlock ≠ some k) W css[j] ts[j]) : ∀ c ∈ css, c.length = 5 := fun c hc => by
  obtain ⟨j, hj, rfl⟩ := List.mem_iff_getElem.1 hc
  exact (ht j hj (by omega)).len
theorem KidI.keep {B : Nat} {S : Nat → Prop} {v : Value} {ts : List Tm} {W W' : World} (h : KidI B v ts W) (hc : Ch S W W') (hS : ∀ k, B ≤ k → ¬ S k) : KidI B v ts W' := by
  obtain ⟨css, h1, h2, h3⟩ := h
  exact ⟨css, own_ch h1 hc (fun k hk => hS k (h1.lt k hk).1), h2, fun j a b => (h3 j a b).keep hc (fun k hk => hS k hk.1)⟩
theorem KidI.below {B : Nat} {v : Value} {ts : List Tm} {W W' : World} (h : KidI B v ts W) (hb : Below W.heap.size W W') : KidI B v ts W' := h.keep (Ch.of_below (S := fun _ => False) hb (Nat.le_refl _)) (fun _ _ h => h)
theorem KidI.slt {B : Nat} {v : Value} {ts : List Tm} {W : World} (h : KidI B v ts W) : SlT (B ≤ ·) W v ts := by
  obtain ⟨css, h1, h2, h3⟩ := h
  have h5 := KidI.len5 h2 h3
  obtain ⟨hl, ⟨rfl, hn⟩ | ⟨g, cap, cur, rfl, hbg, hg, hnc, hcm, hcs, htake⟩⟩ := id h1
  · have : ts = [] := List.eq_nil_of_length_eq_zero hn
    subst this
    exact SlT.nil _ _
  · refine ⟨some ⟨g, 0, none⟩, cap, rfl, hnc, hcm, fun h0 => ⟨g, 0, rfl, hbg, lt_of_block hg, AtC.mk' fun j hj => ?_⟩⟩
    have hj' : j < css.length := by omega
    refine ⟨css[j], fun i u hu => ?_, (h3 j hj' hj).mono fun k hk => hk.1⟩
    have hi : i < 5 := by have := (List.getElem?_eq_some_iff.1 hu).1; rw [h5 _ (List.getElem_mem hj')] at this; exact this
    have hc := h1.cells (g := g) rfl (j * 5 + i) u (by rw [flat_get h5 hj' hi]; exact hu)
    rw [Addr.add_lit, Nat.zero_add] at hc
    rw [Nat.zero_add]; exact hc
theorem KidI.lt {B : Nat} {v : Value} {ts : List Tm} {W : World} (h : KidI B v ts W) : ∀ k, v.ownBlock = some k → B ≤ k ∧ k < W.heap.size := by
  obtain ⟨css, h1, _⟩ := h; exact fun k hk => h1.lt k hk
theorem Try.infoTm5 : (Try.prog.info? 24).map (fun i => (i.zero, i.size, i.bytes)) = some (some (.agg (tmC 0 0 0 ⟨#[]⟩ (.slice none 0 0)).toArray), 5, 64) := by kernel_rfl
/-- one term behind the row -/
theorem wpList_append_T {w : World} {B : Nat} {ops : Array Oper} {rest : List Oper} {o : Oper} {a : Act} {Q : Exit → Act → World → Prop} (s x' : Operand) (hgd : o.guard = none)
    (ho : o.op = .call { callee := .builtin .append, args := #[s, x'], argTypes := #[22, 22] }) {v : Value} {ts : List Tm} (hI : KidI B v ts w) (hs : a.eval s = v)
    {b : Nat} {cs : List Value} {t : Tm} (hx : a.eval x' = .slice (some ⟨b, 0, none⟩) 1 1) (hb : Blk w b 24 cs) (ht : TmC (fun k => B ≤ k ∧ v.ownBlock ≠ some k) w cs t) (hn : ts.length ≤ 1000000) (hB : B ≤ w.heap.size)
    (h : ∀ ao c w', KidI B (.slice ao (ts ++ [t]).length c) (ts ++ [t]) w' → Ch (fun k => v.ownBlock = some k) w w' → (∀ k, (Value.slice ao (ts ++ [t]).length c).ownBlock = some k → v.ownBlock = some k ∨ w.heap.size ≤ k) → wpList Try.prog ops Q rest (a.put o.dst (.slice ao (ts ++ [t]).length c)) w') :
    wpList Try.prog ops Q (o :: rest) a w := by
  obtain ⟨css, h1, h2, h3⟩ := hI
  obtain ⟨i0, hi, hz0, hz1, hz2⟩ := info_parts Try.infoTm5
  obtain ⟨ao1, c1, e1, -⟩ := ht.shape
  have hone : ∀ u ∈ cs, u.oneCell' = true := by rw [e1]; exact tmC_one _ _ _ _ _ _ _
  refine wpList_append_own_at w hgd s x' _ ho B 24 i0 (.agg (tmC 0 0 0 ⟨#[]⟩ (.slice none 0 0)).toArray) 5 64 Try.underlying22 hi hz0 hz1 hz2 rfl (by omega) v ts.length css.flatten hs h1 ⟨b, 0, none⟩ 1 1 cs hx (by rw [ht.len]) (fun j u hu => by have h := rangeW_blk hb j u hu; rw [Addr.add_lit]; exact h) hone (by unfold maxLen; omega) (by omega) hB ?_
  intro v' w' hown hgr _ hob
  obtain ⟨ao, c, rfl⟩ := own_shape hown
  have hl : ts.length + 1 = (ts ++ [t]).length := by simp
  rw [hl] at hown hob ⊢
  have hch := ch_row hgr
  have hold : ∀ (cs : List Value) (u : Tm), TmC (fun k => B ≤ k ∧ v.ownBlock ≠ some k) w cs u → TmC (fun k => B ≤ k ∧ (Value.slice ao (ts ++ [t]).length c).ownBlock ≠ some k) w' cs u := fun cs u hu =>
    (((TmC.old' _ _ hu).keep hch (fun k hk e => hk.1.2 e)).mono fun k hk => ⟨hk.1.1, fun e => by
      rcases hob with hob | hob
      · exact hk.1.2 (hob.symm.trans e)
      · rw [hob] at e; injection e with e; omega⟩)
  refine h ao c w' ⟨css ++ [cs], ?_, by simp [h2], fun j a b => ?_⟩ hch (fun k hk => ?_)
  · rw [List.flatten_append]; simpa using hown
  · by_cases hj : j < css.length
    · have e1 : (css ++ [cs])[j] = css[j] := List.getElem_append_left hj
      have e2 : (ts ++ [t])[j] = ts[j] := List.getElem_append_left (by omega)
      rw [e1, e2]
      exact hold _ _ (h3 j hj (by omega))
    · obtain rfl : j = css.length := by simp at a; omega
      have e1 : (css ++ [cs])[css.length] = cs := by simp
      have e2 : (ts ++ [t])[css.length] = t := by simp [h2]
      rw [e1, e2]
      exact hold _ _ ht
  · rcases hob with hob | hob
    · exact .inl (hob.symm.trans hk)
    · rw [hob] at hk; injection hk with hk; exact .inr (by omega)


end Go.Proofs.Ytfenikoajadiaaa
