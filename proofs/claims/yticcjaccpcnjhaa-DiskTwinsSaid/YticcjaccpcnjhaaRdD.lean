/-
  Rows of lines that grow; the story behind a crash, plain. Conditions: none.
-/
import Derived.Test.YticcjaccpcnjhaaRdC
namespace Go.Proofs.Yticcjaccpcnjhaa
open Go Go.RowKit

theorem one_wrsC (l : List Wr) : ∀ u ∈ wrsC l, u.oneCell' = true := by
  intro u hu
  obtain ⟨e, _, he⟩ := List.mem_flatMap.1 hu
  exact one_wrC e u he

/-- append(v, x...) on rows of lines -/
theorem wpList_append_st (w : World) {ops : Array Oper} {rest : List Oper} {o : Oper} {a : Act} {Q : Exit → Act → World → Prop} (hgd : o.guard = none) (s x : Operand)
    (ho : o.op = .call { callee := .builtin .append, args := #[s, x], argTypes := #[28, 28] }) (base : Nat)
    (v : Value) (n : Nat) (l : List Wr) (hs : a.eval s = v) (hown : w.ownsRow base 81 65 v n (wrsC l))
    (xao : Option Addr) (m xc : Nat) (news : List Wr) (hx : a.eval x = .slice xao m xc) (hm : news.length = m) (hB : ∀ e ∈ news, IsB e.2) (hnil : xao = none → m = 0 ∧ xc = 0)
    (hcells : ∀ ad, xao = some ad → ∀ j u, (wrsC news)[j]? = some u → w.cell? (ad.add j) = some u) (h63 : n + m ≤ 1099511627776) (hbase : base ≤ w.heap.size) (N : Nat) (hN : n + m = N)
    (h : ∀ ao c w', w'.ownsRow base 81 65 (.slice ao N c) N (wrsC (l ++ news)) → w.grownBy w' v.ownBlock → ((Value.slice ao N c).ownBlock = v.ownBlock ∨ (Value.slice ao N c).ownBlock = some w.heap.size) → wpList Try.prog ops Q rest (a.put o.dst (.slice ao N c)) w') :
    wpList Try.prog ops Q (o :: rest) a w := by
  subst hN
  obtain ⟨i0, hi0, hz0, hz1, hz2⟩ := info_parts Try.infoLn
  have e1 : wrsC (l ++ news) = wrsC l ++ wrsC news := by unfold wrsC; rw [List.flatMap_append]
  rw [e1] at h
  match hxa : xao with
  | none =>
    obtain ⟨rfl, rfl⟩ := hnil rfl
    have hn0 : news = [] := List.length_eq_zero_iff.1 hm
    subst hn0
    refine wpList_append_own_none hgd s x _ ho base _ i0 65 Try.underlying28 hi0 v n _ hs hown hx ?_
    obtain ⟨ao, c, rfl⟩ := own_shape hown
    exact h ao c w (by simpa [wrsC] using hown) ⟨rfl, rfl, rfl, Nat.le_refl _, fun _ _ _ => rfl⟩ (.inl rfl)
  | some ad =>
    refine wpList_append_own_at w hgd s x _ ho base _ i0 _ 65 72 Try.underlying28 hi0 hz0 hz1 hz2 (by rfl) (by omega) v n _ hs hown ad m xc (wrsC news) hx (by rw [wrsC_len hB, hm]) (hcells ad rfl) (one_wrsC _) (by unfold maxLen; omega) (by omega) hbase (fun v' w' a1 a2 _ a4 => ?_)
    obtain ⟨ao, c, rfl⟩ := own_shape a1
    exact h ao c w' a1 a2 a4

/-- lines of the call's own, as a row -/
theorem StAt.of_owns {w : World} {base : Nat} {lv : Value} {l : List Wr} (ho : w.ownsRow base 81 65 lv l.length (wrsC l)) (hB : ∀ e ∈ l, IsB e.2) : StAt w lv l := by
  obtain ⟨h1, ⟨rfl, h2⟩ | ⟨g, cap, C, rfl, h4, h5, h6⟩⟩ := ho
  · have : l = [] := List.length_eq_zero_iff.1 h2
    subst this
    exact ⟨none, 0, rfl, Nat.le_refl _, by omega, fun h => by simp at h, fun _ => rfl⟩
  · refine ⟨some ⟨g, 0, none⟩, cap, rfl, h6.1, by have := h6.2.1; unfold maxLen at this; omega, fun _ => ⟨g, 0, rfl, fun k hk j v hv => ?_⟩, fun h => by cases h⟩
    have hj : j < 65 := by
      have := (List.getElem?_eq_some_iff.1 hv).1
      rwa [wrC_len (hB _ (List.getElem_mem hk))] at this
    have hc := World.ownsRow.cells (w := w) (base := base) (e := 81) (size := 65) (v := .slice (some ⟨g, 0, none⟩) l.length cap) (n := l.length) (xs := wrsC l) ⟨h1, .inr ⟨g, cap, C, rfl, h4, h5, h6⟩⟩ (g := g) rfl (k * 65 + j) v (by rw [wrsC_at hB k hk j hj]; exact hv)
    have : (Addr.add ⟨g, 0, none⟩ (k * 65 + j)) = ⟨g, k * 65 + j, none⟩ := by unfold Addr.add; split <;> simp_all
    rw [this] at hc; rw [Nat.zero_add]; exact hc

/-- the lines that are kept of the first n -/
def keptTo (keep : Nat → Bool) (l : List Wr) : Nat → List Wr
  | 0 => []
  | k + 1 => if keep k = true then keptTo keep l k ++ [l.getD k (0, zer)] else keptTo keep l k

theorem keptTo_lay (keep : Nat → Bool) (l : List Wr) (f : Int → List Int) : ∀ k i, (keptTo keep l k).foldl lay f i = sF keep f l k i
  | 0, _ => rfl
  | k + 1, i => by
    unfold keptTo sF
    split
    · rw [List.foldl_append]; exact lay_congr (keptTo_lay keep l f k) _ i
    · exact keptTo_lay keep l f k i

theorem keptTo_B {keep : Nat → Bool} {l : List Wr} (hB : ∀ e ∈ l, IsB e.2) : ∀ k, k ≤ l.length → ∀ e ∈ keptTo keep l k, IsB e.2
  | 0, _, e, he => by simp [keptTo] at he
  | k + 1, hk, e, he => by
    unfold keptTo at he
    split at he
    · rcases List.mem_append.1 he with he | he
      · exact keptTo_B hB k (by omega) e he
      · have e1 : e = l.getD k (0, zer) := by simpa using he
        rw [e1, List.getD_eq_getElem?_getD, List.getElem?_eq_getElem (by omega)]
        exact hB _ (List.getElem_mem (by omega))
    · exact keptTo_B hB k (by omega) e he

theorem keptTo_le {keep : Nat → Bool} {l : List Wr} : ∀ k, (keptTo keep l k).length ≤ k
  | 0 => Nat.le_refl _
  | k + 1 => by
    unfold keptTo
    have := keptTo_le (keep := keep) (l := l) k
    split
    · rw [List.length_append]; simp; omega
    · omega

/-- the story behind a crash -/
def crashS (bs : List Bool) (st : List Wr) (fm : Nat) : List Wr := st.take fm ++ keptTo (fun k => bs.getD k false) (st.drop fm) (st.drop fm).length

theorem RefOf.crash {x : Dk} {st : List Wr} {fm : Nat} (h : RefOf x st fm) (bs : List Bool) : RefOf (crashD bs x) (crashS bs st fm) (crashS bs st fm).length where
  le := Nat.le_refl _
  loose := by rw [List.drop_length]; rfl
  firm := fun i => by
    rw [List.take_length]
    unfold crashS
    rw [List.foldl_append, foldl_lay_at _ (fun j => (h.firm j).symm), keptTo_lay, ← h.loose]
    rfl
  blk := fun e he => by
    rcases List.mem_append.1 he with he | he
    · exact h.blk e (List.mem_of_mem_take he)
    · exact keptTo_B (fun e he => h.blk e (List.mem_of_mem_drop he)) _ (Nat.le_refl _) e he

end Go.Proofs.Yticcjaccpcnjhaa
