/-
  Package wots: Recover and Verify, walked. Conditions: bytes; a row of at most a thousand digests.
-/
import Derived.Test.YtkbhehnpgnilmaaWtC
import Derived.Test.YtkbhehnpgnilmaaRg
namespace Go.Proofs.Ytkbhehnpgnilmaa
open Go Go.RowKit
set_option linter.unusedSimpArgs false

/-- an own row of digests, one more -/
theorem wpList_append_id (w : World) {ops : Array Oper} {rest : List Oper} {o : Oper} {a : Act} {Q : Exit → Act → World → Prop} (hgd : o.guard = none) (s x' : Operand)
    (ho : o.op = .call { callee := .builtin .append, args := #[s, x'], argTypes := #[54, 54] }) (base : Nat)
    (v : Value) (n : Nat) (l : List (List Int)) (hs : a.eval s = v) (hown : w.ownsRow base 23 32 v n (ofK .u8 l.flatten))
    (g : Nat) (x : List Int) (hx : a.eval x' = .slice (some ⟨g, 0, none⟩) 1 1) (hg : Blk w g 23 (ofK .u8 x)) (hD : IsD x) (hn : n ≤ 100000) (hbase : base ≤ w.heap.size)
    (h : ∀ ao c w', w'.ownsRow base 23 32 (.slice ao (n + 1) c) (n + 1) (ofK .u8 (l ++ [x]).flatten) → w.grownBy w' v.ownBlock → ((Value.slice ao (n + 1) c).ownBlock = v.ownBlock ∨ (Value.slice ao (n + 1) c).ownBlock = some w.heap.size) → wpList Try.prog ops Q rest (a.put o.dst (.slice ao (n + 1) c)) w') :
    wpList Try.prog ops Q (o :: rest) a w := by
  obtain ⟨i0, hi0, hz0, hz1, hz2⟩ := info_parts (show (Try.prog.info? 23).map (fun i => (i.zero, i.size, i.bytes)) = some (some (.agg (ofK .u8 zer32).toArray), 32, 32) by kernel_rfl)
  have e1 : ofK .u8 (l ++ [x]).flatten = ofK .u8 l.flatten ++ ofK .u8 x := by simp [ofK]
  rw [e1] at h
  refine wpList_append_own_at w hgd s x' _ ho base _ i0 _ 32 32 Try.underlying54 hi0 hz0 hz1 hz2 (by rfl) (by omega) v n _ hs hown ⟨g, 0, none⟩ 1 1 (ofK .u8 x) hx (by rw [length_ofK, hD.1]) (fun j u hu => ?_) (one_ofK _ _) (by unfold maxLen; omega) (by omega) hbase (fun v' w' a1 a2 _ a4 => ?_)
  · have e2 : (Addr.add ⟨g, 0, none⟩ j) = ⟨g, j, none⟩ := by unfold Addr.add; split <;> simp_all
    rw [e2, hg.cell]; exact hu
  · obtain ⟨ao, c, rfl⟩ := own_shape a1
    exact h ao c w' a1 a2 a4

theorem flat_at : ∀ {l : List (List Int)}, (∀ x ∈ l, IsD x) → ∀ (k : Nat) (hk : k < l.length) (j : Nat), j < 32 → l.flatten[k * 32 + j]? = l[k][j]?
  | x :: l, h, 0, _, j, hj => by
    rw [List.flatten_cons, List.getElem?_append_left (by rw [(h x (by simp)).1]; omega), Nat.zero_mul, Nat.zero_add]; rfl
  | x :: l, h, k + 1, hk, j, hj => by
    rw [List.flatten_cons, List.getElem?_append_right (by rw [(h x (by simp)).1]; omega), (h x (by simp)).1, show (k + 1) * 32 + j - 32 = k * 32 + j by omega]
    exact flat_at (fun y hy => h y (by simp [hy])) k (by simpa using hk) j hj

theorem SlD.of_owns {w : World} {base n : Nat} {v : Value} {l : List (List Int)} (ho : w.ownsRow base 23 32 v n (ofK .u8 l.flatten)) (hn : n = l.length) (hD : ∀ x ∈ l, IsD x) : SlD w v l := by
  subst hn
  obtain ⟨h1, ⟨rfl, h2⟩ | ⟨g, cap, C, rfl, h4, h5, h6⟩⟩ := ho
  · have : l = [] := List.length_eq_zero_iff.1 h2
    subst this
    exact SlD.nil w
  · refine ⟨some ⟨g, 0, none⟩, cap, rfl, h6.1, by have := h6.2.1; unfold maxLen at this; omega, fun _ => ⟨g, 0, rfl, fun k hk j v hv => ?_⟩⟩
    have hj : j < 32 := by
      have := (List.getElem?_eq_some_iff.1 hv).1
      rwa [length_ofK, (hD _ (List.getElem_mem hk)).1] at this
    have hc := World.ownsRow.cells (w := w) (base := base) (e := 23) (size := 32) (v := .slice (some ⟨g, 0, none⟩) l.length cap) (n := l.length) (xs := ofK .u8 l.flatten) ⟨h1, .inr ⟨g, cap, C, rfl, h4, h5, h6⟩⟩ (g := g) rfl (k * 32 + j) v (by
      unfold ofK at hv ⊢
      rw [List.getElem?_map, flat_at hD k hk j hj, ← List.getElem?_map]; exact hv)
    have : (Addr.add ⟨g, 0, none⟩ (k * 32 + j)) = ⟨g, k * 32 + j, none⟩ := by unfold Addr.add; split <;> simp_all
    rw [this] at hc; rw [Nat.zero_add]; exact hc

theorem digsL_bd {m : List Int} (h : AllB m) : ∀ d ∈ digsL m, 0 ≤ d ∧ d ≤ 15 := by
  intro d hd
  obtain ⟨c, hc, hd⟩ := List.mem_flatMap.1 hd
  have := h c hc
  simp only [List.mem_cons, List.not_mem_nil, or_false] at hd
  omega
theorem missF_bd : ∀ (l : List Int) (a : Int), (∀ d ∈ l, 0 ≤ d ∧ d ≤ 15) → a ≤ l.foldl (fun a d => a + (15 - d)) a ∧ l.foldl (fun a d => a + (15 - d)) a ≤ a + 15 * l.length
  | [], a, _ => by simp
  | d :: l, a, h => by
    have h1 := missF_bd l (a + (15 - d)) (fun e he => h e (by simp [he]))
    have h2 := h d (by simp)
    rw [List.foldl_cons, List.length_cons]
    omega
theorem missL_bd (l : List Int) (h : ∀ d ∈ l, 0 ≤ d ∧ d ≤ 15) : 0 ≤ missL l ∧ missL l ≤ 15 * l.length := by
  have := missF_bd l 0 h
  unfold missL
  omega
theorem digitsL_length {m : List Int} (h : IsD m) : (digitsL m).length = 67 := by unfold digitsL; rw [List.length_append, digsL_length, h.1]; rfl
theorem digitsL_bd {m : List Int} (h : IsD m) : ∀ d ∈ digitsL m, 0 ≤ d ∧ d ≤ 15 := by
  intro d hd
  unfold digitsL at hd
  rcases List.mem_append.1 hd with hd | hd
  · exact digsL_bd h.2 d hd
  · have hb := missL_bd _ (digsL_bd h.2)
    rw [digsL_length, h.1] at hb
    simp only [List.mem_cons, List.not_mem_nil, or_false] at hd
    omega

/-- what the lanes of a signature lead to -/
def recL (m : List Int) (s : List (List Int)) (n : Nat) : List (List Int) := (List.range n).map (fun i => walkB (s.getD i []) i ((digitsL m).getD i 0) (15 - (digitsL m).getD i 0).toNat)
def recB (m : List Int) (s : List (List Int)) : List Int := sumL (digB 75 [] (recL m s 67))
theorem recL_succ (m : List Int) (s : List (List Int)) (n : Nat) : recL m s (n + 1) = recL m s n ++ [walkB (s.getD n []) n ((digitsL m).getD n 0) (15 - (digitsL m).getD n 0).toNat] := by unfold recL; rw [List.range_succ, List.map_append]; rfl
theorem recL_length (m : List Int) (s : List (List Int)) (n : Nat) : (recL m s n).length = n := by simp [recL]
theorem recL_D {m : List Int} {s : List (List Int)} (hs : ∀ x ∈ s, IsD x) (n : Nat) (hn : n ≤ s.length) : ∀ x ∈ recL m s n, IsD x := by
  intro x hx
  obtain ⟨i, hi, rfl⟩ := List.mem_map.1 hx
  have hi := List.mem_range.1 hi
  refine isD_walk ?_ _ _ _
  rw [List.getD_eq_getElem?_getD, List.getElem?_eq_getElem (by omega)]
  exact hs _ (List.getElem_mem _)

/-- how a round's region stands -/
structure RecI (w wr w4 : World) (B4 dg dgo k : Nat) (x : List Int) (d : Int) (rv : Value) (n : Nat) (L : List (List Int)) (wz : World) : Prop where
  rb : Blk wz B4 23 (ofK .u8 zer32)
  xb : Blk wz wr.heap.size 23 (ofK .u8 x)
  dc : wz.cell? ⟨dg, dgo + k, none⟩ = some (.int .i64 d)
  row : wz.ownsRow w4.heap.size 23 32 rv n (ofK .u8 L.flatten)
  bel : Below w.heap.size w wz
  belb : Below w4.heap.size w4 wz
  sz : wr.heap.size ≤ wz.heap.size
  b4 : B4 < wr.heap.size
  dlt : dg < wr.heap.size
  rlt : ∀ k, rv.ownBlock = some k → k < wr.heap.size
  wl : w.heap.size ≤ wr.heap.size
  w4l : w4.heap.size ≤ wr.heap.size
theorem RecI.below {w wr w4 wz w' : World} {B4 dg dgo k n : Nat} {x : List Int} {d : Int} {rv : Value} {L : List (List Int)} (h : RecI w wr w4 B4 dg dgo k x d rv n L wz) (hb : Below wz.heap.size wz w') : RecI w wr w4 B4 dg dgo k x d rv n L w' :=
  ⟨h.rb.below hb h.rb.lt, h.xb.below hb h.xb.lt, (hb.cell (p := ⟨dg, dgo + k, none⟩) (block_of_cell h.dc)).trans h.dc, own_ch h.row (Ch.of_below (S := fun _ => False) hb (Nat.le_refl _)) (fun _ _ h => h), below_thn h.bel hb (Nat.le_refl _), below_thn h.belb hb (Nat.le_refl _), Nat.le_trans h.sz hb.size, h.b4, h.dlt, h.rlt, h.wl, h.w4l⟩
theorem RecI.S {w wr w4 wz : World} {B4 dg dgo k n : Nat} {x : List Int} {d : Int} {rv : Value} {L : List (List Int)} (h : RecI w wr w4 B4 dg dgo k x d rv n L wz) : wz.rangeAt wr.heap.size 0 (ofK .u8 x) ∧ wz.cell? ⟨dg, dgo + k, none⟩ = some (.int .i64 d) := ⟨rangeW_blk h.xb, h.dc⟩
theorem RecI.store {w wr w4 wz w' : World} {B4 dg dgo k n : Nat} {x : List Int} {d : Int} {rv : Value} {L : List (List Int)} {g : Nat} (h : RecI w wr w4 B4 dg dgo k x d rv n L wz) (hc : Ch (· = g) wz w') (hg : wr.heap.size < g) : RecI w wr w4 B4 dg dgo k x d rv n L w' where
  rb := h.rb.keep hc (fun e => by have := h.b4; have e : B4 = g := e; omega)
  xb := h.xb.keep hc (fun e => by have e : wr.heap.size = g := e; omega)
  dc := (hc.cell (p := ⟨dg, dgo + k, none⟩) (block_of_cell h.dc) (fun e => by have := h.dlt; have e : dg = g := e; omega)).trans h.dc
  row := own_ch h.row hc (fun k hk e => by have := h.rlt k hk; have e : k = g := e; omega)
  bel := below_ch h.bel hc (Nat.le_refl _) (fun k e => by have := h.wl; have e : k = g := e; omega)
  belb := below_ch h.belb hc (Nat.le_refl _) (fun k e => by have := h.w4l; have e : k = g := e; omega)
  sz := Nat.le_trans h.sz hc.size
  b4 := h.b4
  dlt := h.dlt
  rlt := h.rlt
  wl := h.wl
  w4l := h.w4l
theorem RecI.appended {w wr w4 wz w' : World} {B4 dg dgo k n : Nat} {x : List Int} {d : Int} {rv : Value} {L : List (List Int)} {rv2 : Value} {n2 : Nat} {L2 : List (List Int)} (h : RecI w wr w4 B4 dg dgo k x d rv n L wz) (ho : w'.ownsRow w4.heap.size 23 32 rv2 n2 (ofK .u8 L2.flatten)) (hg : wz.grownBy w' rv.ownBlock) (hb : B4 < w4.heap.size) : Blk w' B4 23 (ofK .u8 zer32) ∧ w'.ownsRow w4.heap.size 23 32 rv2 n2 (ofK .u8 L2.flatten) ∧ Below w4.heap.size w4 w' :=
  ⟨h.rb.keep (ch_grown hg) (fun e => by have := (h.row.lt B4 e).1; omega), ho, h.belb.grown hg h.belb.size (fun k hk => (h.row.lt k hk).1)⟩

end Go.Proofs.Ytkbhehnpgnilmaa
