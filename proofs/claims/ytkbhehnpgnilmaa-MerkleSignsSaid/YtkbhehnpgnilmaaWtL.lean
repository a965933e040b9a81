/-
  Package wots: what Key's and Sign's loops share; starts walked. Conditions: a seed of 32 bytes.
-/
import Derived.Test.YtkbhehnpgnilmaaWtK
namespace Go.Proofs.Ytkbhehnpgnilmaa
open Go Go.RowKit Go.Shelf
set_option linter.unusedSimpArgs false
attribute [local go_sem] Oper.semAt_some

theorem wpList_store1 {P : Program} (w : World) {ops : Array Oper} {rest : List Oper} {o : Oper} {a : Act} {Q : Exit → Act → World → Prop} (hgd : o.guard = none) (ty : TypeId) (x y : Operand) (ho : o.op = .store ty x y)
    (g i : Nat) (e : TypeId) (xs : List Value) (hb : Blk w g e xs) (hx : a.eval x = .pointer (some ⟨g, i, none⟩)) (v : Value) (hy : a.eval y = v) (hl : i < xs.length) (hi : (P.info? ty).map (·.size) = some 1) (h1 : v.oneCell' = true) (hc : v.cells = #[v])
    (h : ∀ w', Blk w' g e (xs.set i v) → Ch (· = g) w w' → w'.heap.size = w.heap.size → wpList P ops Q rest (a.put o.dst undef) w') : wpList P ops Q (o :: rest) a w := by
  refine wpList_plain hgd fun K' hK' => ?_
  have hrun : (execOp a.eval o).run P w = .ok .skip (w.setCell ⟨g, i, none⟩ v) := by
    have hce := hb.cell i
    rw [List.getElem?_eq_getElem hl] at hce
    have hst := run_store P w ⟨g, i, none⟩ v .plain h1
    rw [hce] at hst
    simp only [hb.free] at hst
    unfold execOp
    have hsv : (storeVar ty ⟨g, i, none⟩ v).run P w = .ok () (w.setCell ⟨g, i, none⟩ v) := by
      cases hq : P.info? ty with
      | none => simp [hq] at hi
      | some ii =>
        have hs : 1 = ii.size := by simp [hq] at hi; omega
        have e1 := run_storeCells_cells (P := P) g i [v] 0 w (fun j hj => by obtain rfl : j = 0 := by simpa using hj
                                                                             simp [hce]) (fun j hj => hb.free _) (fun u hu => by obtain rfl : u = v := by simpa using hu
                                                                                                                                 exact h1)
        simp only [Nat.add_zero] at e1
        simp [storeVar, sizeOf, typeInfo, hq, hc, hs.symm, e1, World.setCells]
    simp only [ho, hx, hy, Instr.storeAt, Instr.sureAddr, Sem.run_bind, Sem.run_pure, Result.andThen_ok, hsv]
  unfold Oper.wp
  rw [hrun]
  exact hK' _ _ (h _ (hb.set i v) (Ch.set w ⟨g, i, none⟩ v) (by simp))

section
variable {F : Fence} {n : Nat} {P : Program} {ops : Array Oper} {Q : Exit → Act → World → Prop} {rest : List Oper} {o : Oper} {a : Act}
theorem inL_store1 (hF : WideF F) (w : World) (hgd : o.guard = none) (ty : TypeId) (x y : Operand) (ho : o.op = .store ty x y)
    (g i : Nat) (e : TypeId) (xs : List Value) (hb : Blk w g e xs) (hx : a.eval x = .pointer (some ⟨g, i, none⟩)) (v : Value) (hy : a.eval y = v) (hl : i < xs.length) (hi : (P.info? ty).map (·.size) = some 1) (h1 : v.oneCell' = true) (hc : v.cells = #[v])
    (h : ∀ w', Blk w' g e (xs.set i v) → Ch (· = g) w w' → w'.heap.size = w.heap.size → wpListIn F n P ops Q rest (a.put o.dst undef) w') : wpListIn F n P ops Q (o :: rest) a w :=
  wpListIn_by hF (by rw [ho]; intro c h; cases h) (wpList_store1 w hgd ty x y ho g i e xs hb hx v hy hl hi h1 hc fun w' h1 h2 h3 => wpList_qn (h w' h1 h2 h3))
theorem inL_append_id (hF : WideF F) (w : World) (hgd : o.guard = none) (s x' : Operand)
    (ho : o.op = .call { callee := .builtin .append, args := #[s, x'], argTypes := #[54, 54] }) (base : Nat)
    (v : Value) (k : Nat) (l : List (List Int)) (hs : a.eval s = v) (hown : w.ownsRow base 23 32 v k (ofK .u8 l.flatten))
    (g : Nat) (x : List Int) (hx : a.eval x' = .slice (some ⟨g, 0, none⟩) 1 1) (hg : Blk w g 23 (ofK .u8 x)) (hD : IsD x) (hn : k ≤ 100000) (hbase : base ≤ w.heap.size)
    (h : ∀ ao c w', w'.ownsRow base 23 32 (.slice ao (k + 1) c) (k + 1) (ofK .u8 (l ++ [x]).flatten) → w.grownBy w' v.ownBlock → wpListIn F n Try.prog ops Q rest (a.put o.dst (.slice ao (k + 1) c)) w') :
    wpListIn F n Try.prog ops Q (o :: rest) a w :=
  wpListIn_by hF (by rw [ho]; intro c h; cases h) (wpList_append_id w hgd s x' ho base v k l hs hown g x hx hg hD hn hbase fun ao c w' h1 h2 _ => wpList_qn (h ao c w' h1 h2))
end

theorem zip2 (p q : Tmp) (u v : Value) : (#[p, q] : Array Tmp).zip #[u, v] = #[(p, u), (q, v)] := by simp
theorem foldl2 {α β : Type} (f : β → α → β) (b : β) (x y : α) : (#[x, y] : Array α).foldl f b = f (f b x) y := by simp
theorem fin_row (g : Nat → List Int) : (List.finRange 67).map (fun i => g i.1) = rowL g 67 := by
  unfold rowL
  apply List.ext_getElem <;> simp

/-- whatever is cells is none of the loop's own objects -/
theorem kf_of {B b : Nat} {W W' : World} {row : Option Nat} (hs : W.heap.size ≤ W'.heap.size) (h : ∀ k, k < W.heap.size → k ≠ b → some k ≠ row → W'.heap[k]? = W.heap[k]?) (hb : ∀ o, W.heap[b]? = some o → o.isCells = true) (hr : ∀ r, row = some r → ∀ o, W.heap[r]? = some o → o.isCells = true) : KeepsFrom B W W' :=
  ⟨hs, fun k o _ hk ho => by
    refine (h k (Array.getElem?_eq_some_iff.1 hk).1 (fun e => ?_) (fun e => ?_)).trans hk
    · subst e; rw [hb o hk] at ho; cases ho
    · rw [hr k e.symm o hk] at ho; cases ho⟩
theorem blk_cells {W : World} {g : Nat} {e : TypeId} {xs : List Value} (h : Blk W g e xs) : ∀ o, W.heap[g]? = some o → o.isCells = true := fun o ho => by
  unfold Blk at h; rw [h] at ho; cases ho; rfl
theorem row_cells {W : World} {base e size n : Nat} {v : Value} {xs : List Value} (h : W.ownsRow base e size v n xs) : ∀ r, v.ownBlock = some r → ∀ o, W.heap[r]? = some o → o.isCells = true := fun r hr o ho => by
  obtain ⟨_, ⟨rfl, _⟩ | ⟨g, cap, C, rfl, _, h5, _⟩⟩ := h
  · cases hr
  · cases hr; rw [h5] at ho; cases ho; rfl
theorem blk_own {X Y : World} {row : Option Nat} {g : Nat} {e : TypeId} {xs : List Value} (h : Blk X g e xs) (hg : X.grownBy Y row) (hr : ∀ r, row = some r → ∃ o : Obj, X.heap[r]? = some o ∧ o.isCells = false) : Blk Y g e xs := by
  have h' := h
  unfold Blk at *
  rw [hg.block g (lt_of_block h') (fun e' => by
    obtain ⟨o, ho, hc⟩ := hr g e'.symm
    rw [blk_cells h' o ho] at hc; cases hc)]
  exact h
theorem own_own {X Y : World} {row : Option Nat} {base e size n : Nat} {v : Value} {xs : List Value} (h : X.ownsRow base e size v n xs) (hg : X.grownBy Y row) (hr : ∀ r, row = some r → ∃ o : Obj, X.heap[r]? = some o ∧ o.isCells = false) : Y.ownsRow base e size v n xs := by
  have h' := h
  obtain ⟨h1, ⟨h2, h3⟩ | ⟨g, cap, C, rfl, h4, h5, h6⟩⟩ := h
  · exact ⟨h1, .inl ⟨h2, h3⟩⟩
  · refine ⟨h1, .inr ⟨g, cap, C, rfl, h4, ?_, h6⟩⟩
    rw [hg.block g (lt_of_block h5) (fun e' => by
      obtain ⟨o, ho, hc⟩ := hr g e'.symm
      rw [row_cells h' g rfl o ho] at hc; cases hc)]
    exact h5

/-- between two rounds: the row in its box, and what has turned since -/
structure LoopI (W0 : World) (lb : Nat) (f : Fin 67 → List Int) (pre : List (Fin 67)) (W : World) : Prop where
  box : ∃ ao cp, Blk W lb 54 [.slice ao pre.length cp] ∧ W.ownsRow W0.heap.size 23 32 (.slice ao pre.length cp) pre.length (ofK .u8 (pre.map f).flatten)
  keep : Ch (· = lb) W0 W
theorem LoopI.own (W0 : World) (lb : Nat) (f : Fin 67 → List Int) : OwnFrom W0.heap.size (LoopI W0 lb f) := fun s W W' row hs hg hr => by
  obtain ⟨⟨ao, cp, h1, h2⟩, h3⟩ := hs
  exact ⟨⟨ao, cp, blk_own h1 hg (fun r e => (hr r e).2), own_own h2 hg (fun r e => (hr r e).2)⟩, ⟨hg.os.trans h3.os, hg.tape.trans h3.tape, hg.output.trans h3.output, Nat.le_trans h3.size hg.size, fun k hk hs => (hg.block k (Nat.lt_of_lt_of_le hk h3.size) (fun e => by have := (hr k e.symm).1; omega)).trans (h3.block k hk hs)⟩⟩
/-- what a round leaves -/
theorem LoopI.next {W0 W W8 W9 W10 : World} {lb : Nat} {f : Fin 67 → List Int} {pre : List (Fin 67)} {x : Fin 67} {ao ao2 : Option Addr} {cp cp2 : Nat} (hI : LoopI W0 lb f pre W) (hB : Blk W lb 54 [.slice ao pre.length cp]) (hO : W.ownsRow W0.heap.size 23 32 (.slice ao pre.length cp) pre.length (ofK .u8 (pre.map f).flatten)) (hl : lb < W0.heap.size)
    (h8 : Below W.heap.size W W8) (ho : W9.ownsRow W0.heap.size 23 32 (.slice ao2 (pre.length + 1) cp2) (pre.length + 1) (ofK .u8 (pre.map f ++ [f x]).flatten)) (hg : W8.grownBy W9 (Value.slice ao pre.length cp).ownBlock)
    (hb10 : Blk W10 lb 54 [.slice ao2 (pre.length + 1) cp2]) (hc : Ch (· = lb) W9 W10) : KeepsFrom W0.heap.size W W10 ∧ Kq W0.heap.size lb W W10 ∧ LoopI W0 lb f (pre ++ [x]) W10 := by
  have hz : W.heap.size ≤ W8.heap.size := h8.size
  have hblk : ∀ k, k < W.heap.size → k ≠ lb → some k ≠ (Value.slice ao pre.length cp).ownBlock → W10.heap[k]? = W.heap[k]? := fun k hk h1 h2 =>
    ((hc.block k (by have := hg.size; omega) h1).trans (hg.block k (by omega) h2)).trans (h8.block k hk)
  have hr : ∀ k, k < W0.heap.size → some k ≠ (Value.slice ao pre.length cp).ownBlock := fun k hk e => by
    have := (hO.lt k e.symm).1; omega
  have hsz := hI.keep.size
  have hout : W10.os = W.os ∧ W10.tape = W.tape ∧ W10.output = W.output := ⟨hc.os.trans (hg.os.trans h8.os), hc.tape.trans (hg.tape.trans h8.tape), hc.output.trans (hg.output.trans h8.output)⟩
  have hsz2 : W.heap.size ≤ W10.heap.size := by have := hg.size; have := hc.size; omega
  refine ⟨kf_of hsz2 hblk (blk_cells hB) (row_cells hO), fun k hk h1 => hblk k (by omega) h1 (hr k hk), ⟨⟨ao2, cp2, by simpa using hb10, ?_⟩, ⟨hout.1.trans hI.keep.os, hout.2.1.trans hI.keep.tape, hout.2.2.trans hI.keep.output, by omega, fun k hk h1 => (hblk k (by omega) h1 (hr k hk)).trans (hI.keep.block k hk h1)⟩⟩⟩
  have := own_ch ho hc (fun k hk e => by have := (ho.lt k hk).1; have e : k = lb := e; omega)
  simpa using this
theorem LoopI.start (W0 : World) (lb : Nat) (f : Fin 67 → List Int) (h : Blk W0 lb 54 [.slice none 0 0]) : LoopI W0 lb f [] W0 := ⟨⟨none, 0, by simpa using h, World.ownsRow_nil _ _ _ _⟩, Ch.refl _ _⟩

theorem starts_any (seed : List Int) (w : World) : Calls Try.prog 106 #[.agg (ofK .u8 seed).toArray] w (fun e w' => e = .returned (.func (.func 117) #[] #[.pointer (some ⟨w.heap.size, 0, none⟩)]) ∧ Blk w' w.heap.size 23 (ofK .u8 seed) ∧ Below w.heap.size w w') := by
  go_enter Try.func106, Try.ntmps106
  go_wp2_with (with_reducible refine wpList_box_blk w rfl 23 (.tmp 0) rfl (ofK .u8 seed) rfl ?_; intro w1 hb1 hbel1 hsz1; have HB1 := Lib.hid (And.intro hb1 hbel1); clear hb1 hbel1 hsz1)
  go_ret
  exact ⟨rfl, HB1.out⟩

theorem Try.infoIds : (Try.prog.info? 54).map (·.size) = some 1 := by kernel_rfl

end Go.Proofs.Ytkbhehnpgnilmaa
