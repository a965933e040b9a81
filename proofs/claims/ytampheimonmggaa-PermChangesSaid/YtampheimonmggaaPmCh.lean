/-
  Layer 11's reference: next, Change, walked. Conditions: the epoch and the numbers are int's.
-/
import Derived.Test.YtampheimonmggaaPmX
import Derived.Test.YtampheimonmggaaPmSt
import Derived.Test.YtampheimonmggaaRgN
namespace Go.Proofs.Ytampheimonmggaa
open Go Go.RowKit Go.Sort
set_option linter.unusedSimpArgs false
set_option linter.unusedVariables false

theorem wpList_store1 {P : Program} (w : World) {ops : Array Oper} {rest : List Oper} {o : Oper} {a : Act} {Q : Exit → Act → World → Prop} (hgd : o.guard = none) (ty : TypeId) (x y : Operand) (ho : o.op = .store ty x y)
    (g i : Nat) (e : TypeId) (xs : List Value) (hb : Blk w g e xs) (hx : a.eval x = .pointer (some ⟨g, i, none⟩)) (v : Value) (hy : a.eval y = v) (hl : i < xs.length) (hi : (P.info? ty).map (·.size) = some 1) (h1 : v.oneCell' = true) (hc : v.cells = #[v])
    (h : ∀ w', Blk w' g e (xs.set i v) → Ch (· = g) w w' → w'.heap.size = w.heap.size → wpList P ops Q rest (a.put o.dst undef) w') : wpList P ops Q (o :: rest) a w := by
  refine wpList_plain hgd fun K' hK' => ?_
  have hrun : (execOp a.eval o).run P w = .ok .skip (w.setCell ⟨g, i, none⟩ v) := by
    have hce := hb.cell i
    rw [List.getElem?_eq_getElem hl] at hce
    have hst := run_store P w ⟨g, i, none⟩ v .plain h1
    rw [hce] at hst
    simp only [hb.free] at hst
    unfold execOp
    have hsv : (storeVar ty ⟨g, i, none⟩ v).run P w = .ok () (w.setCell ⟨g, i, none⟩ v) := by
      cases hq : P.info? ty with
      | none => simp [hq] at hi
      | some ii =>
        have hs : 1 = ii.size := by simp [hq] at hi; omega
        have e1 := run_storeCells_cells (P := P) g i [v] 0 w (fun j hj => by obtain rfl : j = 0 := by simpa using hj
                                                                             simp [hce]) (fun j hj => hb.free _) (fun u hu => by obtain rfl : u = v := by simpa using hu
                                                                                                                                 exact h1)
        simp only [Nat.add_zero] at e1
        simp [storeVar, sizeOf, typeInfo, hq, hc, hs.symm, e1, World.setCells]
    simp only [ho, hx, hy, Instr.storeAt, Instr.sureAddr, Sem.run_bind, Sem.run_pure, Result.andThen_ok, hsv]
  unfold Oper.wp
  rw [hrun]
  exact hK' _ _ (h _ (hb.set i v) (Ch.set w ⟨g, i, none⟩ v) (by simp))

/-- the next epoch -/
def nextC (p : PmD) : PmD × Int := if p.e = 8 then (noP, 212) else ({ p with e := p.e + 1 }, 0)
/-- permissions and an error, answered (the slices may be the argument's) -/
def RefP (w : World) (p : PmD) (ur uq ug : Value) (r : PmD × Int) (e : Ending) (w' : World) : Prop := ∃ vr vq vg, e = .returned (.tuple #[.agg (pmC r.1.o r.1.e vr vq vg).toArray, .int .i64 r.2]) ∧ PmS w' r.1 vr vq vg ∧ Below w.heap.size w w' ∧
    ∀ g w2, g < w.heap.size → Ch (· = g) w' w2 → PmS w2 p ur uq ug → PmS w2 r.1 vr vq vg
theorem calls_ref {f : FuncId} {args : Array Value} {w : World} {p0 : PmD} {ur uq ug : Value} {p : PmD} {e : Int} (h : Calls Try.prog f args w (RefP w p0 ur uq ug (p, e))) :
    Calls Try.prog f args w (fun en w' => ∃ vr vq vg, en = .returned (.tuple #[.agg (pmC p.o p.e vr vq vg).toArray, .int .i64 e]) ∧ PmS w' p vr vq vg ∧ Below w.heap.size w w' ∧ ∀ g w2, g < w.heap.size → Ch (· = g) w' w2 → PmS w2 p0 ur uq ug → PmS w2 p vr vq vg) := h

set_option maxRecDepth 100000 in
set_option maxHeartbeats 4000000 in
theorem rnext_any (o pe : Int) (pr pq pg : List Int) (ra : Option Addr) (rl rc : Nat) (qa : Option Addr) (ql qc : Nat) (ga : Option Addr) (gl gc : Nat) (w : World) (h1 : 1 ≤ pe) (h8 : pe ≤ 8) (hp : PmS w ⟨o, pe, pr, pq, pg⟩ (.slice ra rl rc) (.slice qa ql qc) (.slice ga gl gc)) :
    Calls Try.prog 41 #[.agg (pmC o pe (.slice ra rl rc) (.slice qa ql qc) (.slice ga gl gc)).toArray] w (fun e w' => (e = .returned (.tuple (if pe = 8 then #[.agg (pmC 0 0 (.slice none 0 0) (.slice none 0 0) (.slice none 0 0)).toArray, .int .i64 212] else #[.agg (pmC o (pe + 1) (.slice ra rl rc) (.slice qa ql qc) (.slice ga gl gc)).toArray, .int .i64 0]))) ∧ Below w.heap.size w w') := by
  have H0 := Lib.hid (show PmS w ⟨o, pe, pr, pq, pg⟩ (Value.slice ra rl rc) (Value.slice qa ql qc) (Value.slice ga gl gc) ∧ Below w.heap.size w w from ⟨hp, Below.refl _ _⟩)
  have HPS := Lib.hid hp
  clear hp
  by_cases he : pe = 8
  · rw [if_pos he]
    have e1 : (pe == 8) = true := by simpa using he
    clear he
    go_enter Try.func41, Try.ntmps41
    go_wp2_with (first
    | ((with_reducible refine wpList_box_blk w rfl 24 (.tmp 0) rfl (pmC o pe (Value.slice ra rl rc) (Value.slice qa ql qc) (Value.slice ga gl gc)) rfl ?_); intro a1 hb hbel hsz; have HA1 := Lib.hid (show PmS a1 ⟨o, pe, pr, pq, pg⟩ (Value.slice ra rl rc) (Value.slice qa ql qc) (Value.slice ga gl gc) ∧ Below w.heap.size w a1 ∧ Blk a1 w.heap.size 24 (pmC o pe (Value.slice ra rl rc) (Value.slice qa ql qc) (Value.slice ga gl gc)) from ⟨H0.out.1.below hbel, below_thn H0.out.2 hbel (Nat.le_refl _), hb⟩); clear hb hbel hsz)
    | ((with_reducible refine wpList_alloc_blk a1 rfl 24 rfl (pmC 0 0 (.slice none 0 0) (.slice none 0 0) (.slice none 0 0)) Try.zeroPm ?_); intro a2 hb hbel hsz; have HA2 := Lib.hid (show PmS a2 ⟨o, pe, pr, pq, pg⟩ (Value.slice ra rl rc) (Value.slice qa ql qc) (Value.slice ga gl gc) ∧ Below w.heap.size w a2 ∧ Blk a2 w.heap.size 24 (pmC o pe (Value.slice ra rl rc) (Value.slice qa ql qc) (Value.slice ga gl gc)) ∧ Blk a2 a1.heap.size 24 (pmC 0 0 (.slice none 0 0) (.slice none 0 0) (.slice none 0 0)) from ⟨HA1.out.1.below hbel, below_thn HA1.out.2.1 hbel (Nat.le_refl _), HA1.out.2.2.below hbel HA1.out.2.2.lt, hb⟩); have HG := Lib.hid (show w.heap.size < a1.heap.size ∧ a1.heap.size < a2.heap.size from ⟨HA1.out.2.2.lt, hb.lt⟩); have c0 := HA2.out.2.2.1.cell 0; have c1 := HA2.out.2.2.1.cell 1; have c2 := HA2.out.2.2.1.cell 2; have c3 := HA2.out.2.2.1.cell 3; have c4 := HA2.out.2.2.1.cell 4; simp only [pmC, List.getElem?_cons_zero, List.getElem?_cons_succ] at c0 c1 c2 c3 c4; clear hb hbel hsz)
    | ((with_reducible refine wpList_build_zeroPm rfl rfl ?_))
    | ((with_reducible refine wpList_store_blk a2 rfl 24 (.tmp 2) (.tmp 7) rfl a1.heap.size 24 (pmC 0 0 (.slice none 0 0) (.slice none 0 0) (.slice none 0 0)) (pmC 0 0 (.slice none 0 0) (.slice none 0 0) (.slice none 0 0)) HA2.out.2.2.2 rfl rfl rfl (pmC_info _ _ _ _ _) (pmC_one _ _ _ _ _ _ _ _ _ _ _) ?_); intro a3 hb hc hs; have hbw := below_ch HA2.out.2.1 hc (Nat.le_refl _) (fun k hk => by have e : k = a1.heap.size := hk; have h1 := HG.out; omega); have HA3 := Lib.hid (show PmS a3 ⟨o, pe, pr, pq, pg⟩ (Value.slice ra rl rc) (Value.slice qa ql qc) (Value.slice ga gl gc) ∧ Below w.heap.size w a3 ∧ Blk a3 w.heap.size 24 (pmC o pe (Value.slice ra rl rc) (Value.slice qa ql qc) (Value.slice ga gl gc)) ∧ Blk a3 a1.heap.size 24 (pmC 0 0 (.slice none 0 0) (.slice none 0 0) (.slice none 0 0)) from ⟨HPS.out.below hbw, hbw, HA2.out.2.2.1.keep hc (fun e => by have e : w.heap.size = a1.heap.size := e; have h1 := HG.out; omega), hb⟩); clear hb hc hs hbw))
    refine bodyPost_ret (results_cellTmp Try.results41 _ _ a1.heap.size _ _ rfl HA3.out.2.2.2 _ Try.underlying24 rfl (pmC_info _ _ _ _ _) _ rfl) rfl ?_
    exact ⟨rfl, HA3.out.2.1⟩
  · rw [if_neg he]
    have e1 : (pe == 8) = false := by simpa using he
    have h9 : pe + 1 ≤ 9223372036854775807 := by omega
    clear he
    go_enter Try.func41, Try.ntmps41
    go_wp2_with (first
    | ((with_reducible refine wpList_box_blk w rfl 24 (.tmp 0) rfl (pmC o pe (Value.slice ra rl rc) (Value.slice qa ql qc) (Value.slice ga gl gc)) rfl ?_); intro a1 hb hbel hsz; have HA1 := Lib.hid (show PmS a1 ⟨o, pe, pr, pq, pg⟩ (Value.slice ra rl rc) (Value.slice qa ql qc) (Value.slice ga gl gc) ∧ Below w.heap.size w a1 ∧ Blk a1 w.heap.size 24 (pmC o pe (Value.slice ra rl rc) (Value.slice qa ql qc) (Value.slice ga gl gc)) from ⟨H0.out.1.below hbel, below_thn H0.out.2 hbel (Nat.le_refl _), hb⟩); clear hb hbel hsz)
    | ((with_reducible refine wpList_alloc_blk a1 rfl 24 rfl (pmC 0 0 (.slice none 0 0) (.slice none 0 0) (.slice none 0 0)) Try.zeroPm ?_); intro a2 hb hbel hsz; have HA2 := Lib.hid (show PmS a2 ⟨o, pe, pr, pq, pg⟩ (Value.slice ra rl rc) (Value.slice qa ql qc) (Value.slice ga gl gc) ∧ Below w.heap.size w a2 ∧ Blk a2 w.heap.size 24 (pmC o pe (Value.slice ra rl rc) (Value.slice qa ql qc) (Value.slice ga gl gc)) ∧ Blk a2 a1.heap.size 24 (pmC 0 0 (.slice none 0 0) (.slice none 0 0) (.slice none 0 0)) from ⟨HA1.out.1.below hbel, below_thn HA1.out.2.1 hbel (Nat.le_refl _), HA1.out.2.2.below hbel HA1.out.2.2.lt, hb⟩); have HG := Lib.hid (show w.heap.size < a1.heap.size ∧ a1.heap.size < a2.heap.size from ⟨HA1.out.2.2.lt, hb.lt⟩); have c0 := HA2.out.2.2.1.cell 0; have c1 := HA2.out.2.2.1.cell 1; have c2 := HA2.out.2.2.1.cell 2; have c3 := HA2.out.2.2.1.cell 3; have c4 := HA2.out.2.2.1.cell 4; simp only [pmC, List.getElem?_cons_zero, List.getElem?_cons_succ] at c0 c1 c2 c3 c4; clear hb hbel hsz)
    | ((with_reducible refine wpList_store1 a2 rfl 3 (.tmp 11) (.tmp 10) rfl w.heap.size 1 24 (pmC o pe (Value.slice ra rl rc) (Value.slice qa ql qc) (Value.slice ga gl gc)) HA2.out.2.2.1 rfl (Value.int .i64 (pe + 1)) rfl (by simp [pmC]) Try.sizeInt1 rfl rfl ?_); intro a3 hb hc hs; have hbw := below_ch HA2.out.2.1 hc (Nat.le_refl _) (fun k hk => by have e : k = w.heap.size := hk; have h1 := HG.out; omega); have HA3 := Lib.hid (show PmS a3 ⟨o, pe, pr, pq, pg⟩ (Value.slice ra rl rc) (Value.slice qa ql qc) (Value.slice ga gl gc) ∧ Below w.heap.size w a3 ∧ Blk a3 w.heap.size 24 (pmC o (pe + 1) (Value.slice ra rl rc) (Value.slice qa ql qc) (Value.slice ga gl gc)) ∧ Blk a3 a1.heap.size 24 (pmC 0 0 (.slice none 0 0) (.slice none 0 0) (.slice none 0 0)) from ⟨HPS.out.below hbw, hbw, hb, HA2.out.2.2.2.keep hc (fun e => by have e : a1.heap.size = w.heap.size := e; have h1 := HG.out; omega)⟩); clear hb hc hs hbw)
    | (with_reducible refine wpList_load_any rfl 24 (.tmp 1) rfl w.heap.size 0 rfl (pmC o (pe + 1) (Value.slice ra rl rc) (Value.slice qa ql qc) (Value.slice ga gl gc)) _ (rangeW_blk HA3.out.2.2.1) Try.underlying24 rfl (pmC_info _ _ _ _ _) ?_)
    | ((with_reducible refine wpList_store_blk a3 rfl 24 (.tmp 2) (.tmp 12) rfl a1.heap.size 24 (pmC 0 0 (.slice none 0 0) (.slice none 0 0) (.slice none 0 0)) (pmC o (pe + 1) (Value.slice ra rl rc) (Value.slice qa ql qc) (Value.slice ga gl gc)) HA3.out.2.2.2 rfl rfl rfl (pmC_info _ _ _ _ _) (pmC_one _ _ _ _ _ _ _ _ _ _ _) ?_); intro a4 hb hc hs; have hbw := below_ch HA3.out.2.1 hc (Nat.le_refl _) (fun k hk => by have e : k = a1.heap.size := hk; have h1 := HG.out; omega); have HA4 := Lib.hid (show PmS a4 ⟨o, pe, pr, pq, pg⟩ (Value.slice ra rl rc) (Value.slice qa ql qc) (Value.slice ga gl gc) ∧ Below w.heap.size w a4 ∧ Blk a4 w.heap.size 24 (pmC o (pe + 1) (Value.slice ra rl rc) (Value.slice qa ql qc) (Value.slice ga gl gc)) ∧ Blk a4 a1.heap.size 24 (pmC o (pe + 1) (Value.slice ra rl rc) (Value.slice qa ql qc) (Value.slice ga gl gc)) from ⟨HPS.out.below hbw, hbw, HA3.out.2.2.1.keep hc (fun e => by have e : w.heap.size = a1.heap.size := e; have h1 := HG.out; omega), hb⟩); clear hb hc hs hbw))
    refine bodyPost_ret (results_cellTmp Try.results41 _ _ a1.heap.size _ _ rfl HA4.out.2.2.2 _ Try.underlying24 rfl (pmC_info _ _ _ _ _) _ rfl) rfl ?_
    exact ⟨rfl, HA4.out.2.1⟩


theorem Try.sizeIs1 : (Try.prog.info? 22).map (·.size) = some 1 := by kernel_rfl
def argU (p : PmD) (n : Int) : Prop := n < 1 ∨ 6 < n ∨ n = p.o
def argG (n : Int) : Prop := n < 1 ∨ 3 < n
instance (p : PmD) (n : Int) : Decidable (argU p n) := by unfold argU; infer_instance
instance (n : Int) : Decidable (argG n) := by unfold argG; infer_instance
/-- the first checks, and then this -/
def chA (p : PmD) (b : Int) (bad : Prop) [Decidable bad] (r : PmD × Int) : PmD × Int := if okB p = false then (noP, 210) else if b ≠ p.o then (noP, 211) else if bad then (noP, 2) else r
def ch0 (p : PmD) (b n : Int) : PmD × Int := chA p b (argU p n) (if inB p.r n = true then (noP, 5) else (⟨p.o, p.e, setU p.r n true 6, p.q, p.g⟩, 0))
def ch1 (p : PmD) (b n : Int) : PmD × Int := chA p b (argU p n) (if inB p.q n = true then (noP, 5) else (⟨p.o, p.e, setU p.r n true 6, setU p.q n true 6, p.g⟩, 0))
def ch2 (p : PmD) (b n : Int) : PmD × Int := chA p b (argU p n) (if inB p.r n = false then (noP, 4) else nextC ⟨p.o, p.e, setU p.r n false 6, setU p.q n false 6, p.g⟩)
def ch3 (p : PmD) (b n : Int) : PmD × Int := chA p b (argG n) (if inB p.g n = true then (noP, 5) else (⟨p.o, p.e, p.r, p.q, setU p.g n true 6⟩, 0))
def ch4 (p : PmD) (b n : Int) : PmD × Int := chA p b (argG n) (if inB p.g n = false then (noP, 4) else nextC ⟨p.o, p.e, p.r, p.q, setU p.g n false 6⟩)
def ch5 (p : PmD) : PmD × Int := if okB p = false then (noP, 210) else nextC p
theorem chA_perm {p : PmD} {b : Int} {bad : Prop} [Decidable bad] {r : PmD × Int} (h : okB p = false) : chA p b bad r = (noP, 210) := if_pos h
theorem chA_owner {p : PmD} {b : Int} {bad : Prop} [Decidable bad] {r : PmD × Int} (h : okB p = true) (hb : b ≠ p.o) : chA p b bad r = (noP, 211) := by unfold chA; rw [if_neg (by rw [h]; simp), if_pos hb]
theorem chA_arg {p : PmD} {b : Int} {bad : Prop} [Decidable bad] {r : PmD × Int} (h : okB p = true) (hb : b = p.o) (hx : bad) : chA p b bad r = (noP, 2) := by unfold chA; rw [if_neg (by rw [h]; simp), if_neg (by simpa using hb), if_pos hx]
theorem chA_go {p : PmD} {b : Int} {bad : Prop} [Decidable bad] {r : PmD × Int} (h : okB p = true) (hb : b = p.o) (hx : ¬ bad) : chA p b bad r = r := by unfold chA; rw [if_neg (by rw [h]; simp), if_neg (by simpa using hb), if_neg hx]


set_option maxRecDepth 100000 in
set_option maxHeartbeats 8000000 in
theorem rchange0_any (p : PmD) (vr vq vg : Value) (b n : Int) (w : World) (hp : PmS w p vr vq vg) :
    Calls Try.prog 15 #[.agg (pmC p.o p.e vr vq vg).toArray, .int .i64 0, .int .i64 b, .int .i64 n] w (RefP w p vr vq vg (ch0 p b n)) := by
  obtain ⟨ra, rc, rfl, -⟩ := hp.1.shape
  obtain ⟨qa, qc, rfl, -⟩ := hp.2.1.shape
  obtain ⟨ga, gc, rfl, -⟩ := hp.2.2.shape
  obtain ⟨o, pe, pr, pq, pg⟩ := p
  simp only at hp ⊢
  simp only [length_ofK] at hp ⊢
  generalize pr.length = rl at hp ⊢
  generalize pq.length = ql at hp ⊢
  generalize pg.length = gl at hp ⊢
  have HPS := Lib.hid hp
  obtain ⟨ok, hok⟩ : ∃ x, okB ⟨o, pe, pr, pq, pg⟩ = x := ⟨_, rfl⟩
  have HOK := Lib.hid hok
  obtain ⟨RR, hRR⟩ : ∃ x, ch0 ⟨o, pe, pr, pq, pg⟩ b n = x := ⟨_, rfl⟩
  rw [hRR]
  have HRR := Lib.hid hRR
  have H0 := Lib.hid (show PmS w ⟨o, pe, pr, pq, pg⟩ (Value.slice ra rl rc) (Value.slice qa ql qc) (Value.slice ga gl gc) ∧ Below w.heap.size w w from ⟨hp, Below.refl _ _⟩)
  clear hp hok hRR
  go_enter Try.func15, Try.ntmps15
  go_wp2_with (first
    | ((with_reducible refine wpList_box_blk w rfl 24 (.tmp 0) rfl (pmC o pe (Value.slice ra rl rc) (Value.slice qa ql qc) (Value.slice ga gl gc)) rfl ?_); intro a1 hb hbel hsz; have HA1 := Lib.hid (show PmS a1 ⟨o, pe, pr, pq, pg⟩ (Value.slice ra rl rc) (Value.slice qa ql qc) (Value.slice ga gl gc) ∧ Below w.heap.size w a1 ∧ Blk a1 w.heap.size 24 (pmC o pe (Value.slice ra rl rc) (Value.slice qa ql qc) (Value.slice ga gl gc)) from ⟨H0.out.1.below hbel, below_thn H0.out.2 hbel (Nat.le_refl _), hb⟩); clear hb hbel hsz)
    | ((with_reducible refine wpList_alloc_blk a1 rfl 24 rfl (pmC 0 0 (.slice none 0 0) (.slice none 0 0) (.slice none 0 0)) Try.zeroPm ?_); intro a2 hb hbel hsz; have HA2 := Lib.hid (show PmS a2 ⟨o, pe, pr, pq, pg⟩ (Value.slice ra rl rc) (Value.slice qa ql qc) (Value.slice ga gl gc) ∧ Below w.heap.size w a2 ∧ Blk a2 w.heap.size 24 (pmC o pe (Value.slice ra rl rc) (Value.slice qa ql qc) (Value.slice ga gl gc)) ∧ Blk a2 a1.heap.size 24 (pmC 0 0 (.slice none 0 0) (.slice none 0 0) (.slice none 0 0)) from ⟨HA1.out.1.below hbel, below_thn HA1.out.2.1 hbel (Nat.le_refl _), HA1.out.2.2.below hbel HA1.out.2.2.lt, hb⟩); clear hb hbel hsz)
    | ((with_reducible refine wpList_build_zeroPm rfl rfl ?_))
    | ((with_reducible refine wpList_alloc_blk a2 rfl 24 rfl (pmC 0 0 (.slice none 0 0) (.slice none 0 0) (.slice none 0 0)) Try.zeroPm ?_); intro a3 hb hbel hsz; have HA3 := Lib.hid (show PmS a3 ⟨o, pe, pr, pq, pg⟩ (Value.slice ra rl rc) (Value.slice qa ql qc) (Value.slice ga gl gc) ∧ Below w.heap.size w a3 ∧ Blk a3 w.heap.size 24 (pmC o pe (Value.slice ra rl rc) (Value.slice qa ql qc) (Value.slice ga gl gc)) ∧ Blk a3 a1.heap.size 24 (pmC 0 0 (.slice none 0 0) (.slice none 0 0) (.slice none 0 0)) ∧ Blk a3 a2.heap.size 24 (pmC 0 0 (.slice none 0 0) (.slice none 0 0) (.slice none 0 0)) from ⟨HA2.out.1.below hbel, below_thn HA2.out.2.1 hbel (Nat.le_refl _), HA2.out.2.2.1.below hbel HA2.out.2.2.1.lt, HA2.out.2.2.2.below hbel HA2.out.2.2.2.lt, hb⟩); have HG := Lib.hid (show w.heap.size < a1.heap.size ∧ a1.heap.size < a2.heap.size from ⟨HA1.out.2.2.lt, HA2.out.2.2.2.lt⟩); clear hb hbel hsz)
    | ((with_reducible refine wpList_store_blk a3 rfl 24 (.tmp 10) (.tmp 11) rfl a2.heap.size 24 (pmC 0 0 (.slice none 0 0) (.slice none 0 0) (.slice none 0 0)) (pmC 0 0 (.slice none 0 0) (.slice none 0 0) (.slice none 0 0)) HA3.out.2.2.2.2 rfl rfl rfl (pmC_info _ _ _ _ _) (pmC_one _ _ _ _ _ _ _ _ _ _ _) ?_); intro s1 hb hc hs; have hbw := below_ch HA3.out.2.1 hc (Nat.le_refl _) (fun k hk => by have e : k = a2.heap.size := hk; have h1 := HG.out; omega); have HS2 := Lib.hid (show PmS s1 ⟨o, pe, pr, pq, pg⟩ (Value.slice ra rl rc) (Value.slice qa ql qc) (Value.slice ga gl gc) ∧ Below w.heap.size w s1 ∧ Blk s1 w.heap.size 24 (pmC o pe (Value.slice ra rl rc) (Value.slice qa ql qc) (Value.slice ga gl gc)) ∧ Blk s1 a1.heap.size 24 (pmC 0 0 (.slice none 0 0) (.slice none 0 0) (.slice none 0 0)) ∧ Blk s1 a2.heap.size 24 (pmC 0 0 (.slice none 0 0) (.slice none 0 0) (.slice none 0 0)) from ⟨HPS.out.below hbw, hbw, HA3.out.2.2.1.keep hc (fun e => by have e : w.heap.size = a2.heap.size := e; have h1 := HG.out; omega), HA3.out.2.2.2.1.keep hc (fun e => by have e : a1.heap.size = a2.heap.size := e; have h1 := HG.out; omega), hb⟩); clear hb hc hs hbw)
    | (with_reducible refine wpList_load_any rfl 24 (.tmp 4) rfl w.heap.size 0 rfl (pmC o pe (Value.slice ra rl rc) (Value.slice qa ql qc) (Value.slice ga gl gc)) _ (rangeW_blk HS2.out.2.2.1) Try.underlying24 rfl (pmC_info _ _ _ _ _) ?_))
  have hx := rright_any ⟨o, pe, pr, pq, pg⟩ _ _ _ s1 HS2.out.1
  rw [HOK.out] at hx
  refine Calls.mono hx ?_
  clear hx
  rintro e' y1 ⟨rfl, hb⟩
  have HY1 := Lib.hid (show PmS y1 ⟨o, pe, pr, pq, pg⟩ (Value.slice ra rl rc) (Value.slice qa ql qc) (Value.slice ga gl gc) ∧ Below w.heap.size w y1 ∧ Blk y1 w.heap.size 24 (pmC o pe (Value.slice ra rl rc) (Value.slice qa ql qc) (Value.slice ga gl gc)) ∧ Blk y1 a1.heap.size 24 (pmC 0 0 (.slice none 0 0) (.slice none 0 0) (.slice none 0 0)) ∧ Blk y1 a2.heap.size 24 (pmC 0 0 (.slice none 0 0) (.slice none 0 0) (.slice none 0 0)) from ⟨HS2.out.1.below hb, below_thn HS2.out.2.1 hb (Nat.le_refl _), HS2.out.2.2.1.below hb HS2.out.2.2.1.lt, HS2.out.2.2.2.1.below hb HS2.out.2.2.2.1.lt, HS2.out.2.2.2.2.below hb HS2.out.2.2.2.2.lt⟩)
  clear hb HA1 HA2 HA3 HS2
  cases ok
  · skip
    have HRE := Lib.hid (show RR = (noP, 210) from by rw [← HRR.out]; exact chA_perm HOK.out)
    go_wp2_with (first
    | (with_reducible refine wpList_load_any rfl 24 (.tmp 10) rfl a2.heap.size 0 rfl (pmC 0 0 (.slice none 0 0) (.slice none 0 0) (.slice none 0 0)) _ (rangeW_blk HY1.out.2.2.2.2) Try.underlying24 rfl (pmC_info _ _ _ _ _) ?_)
    | ((with_reducible refine wpList_store_blk y1 rfl 24 (.tmp 8) (.tmp 15) rfl a1.heap.size 24 (pmC 0 0 (.slice none 0 0) (.slice none 0 0) (.slice none 0 0)) (pmC 0 0 (.slice none 0 0) (.slice none 0 0) (.slice none 0 0)) HY1.out.2.2.2.1 rfl rfl rfl (pmC_info _ _ _ _ _) (pmC_one _ _ _ _ _ _ _ _ _ _ _) ?_); intro s3 hb hc hs; have hbw := below_ch HY1.out.2.1 hc (Nat.le_refl _) (fun k hk => by have e : k = a1.heap.size := hk; have h1 := HG.out; omega); have HS4 := Lib.hid (show PmS s3 ⟨o, pe, pr, pq, pg⟩ (Value.slice ra rl rc) (Value.slice qa ql qc) (Value.slice ga gl gc) ∧ Below w.heap.size w s3 ∧ Blk s3 w.heap.size 24 (pmC o pe (Value.slice ra rl rc) (Value.slice qa ql qc) (Value.slice ga gl gc)) ∧ Blk s3 a1.heap.size 24 (pmC 0 0 (.slice none 0 0) (.slice none 0 0) (.slice none 0 0)) ∧ Blk s3 a2.heap.size 24 (pmC 0 0 (.slice none 0 0) (.slice none 0 0) (.slice none 0 0)) from ⟨HPS.out.below hbw, hbw, HY1.out.2.2.1.keep hc (fun e => by have e : w.heap.size = a1.heap.size := e; have h1 := HG.out; omega), hb, HY1.out.2.2.2.2.keep hc (fun e => by have e : a2.heap.size = a1.heap.size := e; have h1 := HG.out; omega)⟩); clear hb hc hs hbw))
    refine bodyPost_ret (results_cellTmp Try.results15 _ _ a1.heap.size _ _ rfl HS4.out.2.2.2.1 _ Try.underlying24 rfl (pmC_info _ _ _ _ _) _ rfl) rfl ?_
    rw [HRE.out]
    exact ⟨_, _, _, rfl, PmS.nil _, HS4.out.2.1, fun g w2 hg hc h => PmS.nil _⟩
  have HE := Lib.hid (okB_iff.1 HOK.out).e
  have c0 := HY1.out.2.2.1.cell 0
  simp only [pmC, List.getElem?_cons_zero, List.getElem?_cons_succ] at c0
  by_cases hbo : b = o
  rotate_left
  · have e1 : (b != o) = true := by simpa using hbo
    have HBO := Lib.hid hbo
    clear hbo
    have HRE := Lib.hid (show RR = (noP, 211) from by rw [← HRR.out]; exact chA_owner HOK.out HBO.out)
    go_wp2_with (first
    | (with_reducible refine wpList_load_any rfl 24 (.tmp 10) rfl a2.heap.size 0 rfl (pmC 0 0 (.slice none 0 0) (.slice none 0 0) (.slice none 0 0)) _ (rangeW_blk HY1.out.2.2.2.2) Try.underlying24 rfl (pmC_info _ _ _ _ _) ?_)
    | ((with_reducible refine wpList_store_blk y1 rfl 24 (.tmp 8) (.tmp 26) rfl a1.heap.size 24 (pmC 0 0 (.slice none 0 0) (.slice none 0 0) (.slice none 0 0)) (pmC 0 0 (.slice none 0 0) (.slice none 0 0) (.slice none 0 0)) HY1.out.2.2.2.1 rfl rfl rfl (pmC_info _ _ _ _ _) (pmC_one _ _ _ _ _ _ _ _ _ _ _) ?_); intro s5 hb hc hs; have hbw := below_ch HY1.out.2.1 hc (Nat.le_refl _) (fun k hk => by have e : k = a1.heap.size := hk; have h1 := HG.out; omega); have HS6 := Lib.hid (show PmS s5 ⟨o, pe, pr, pq, pg⟩ (Value.slice ra rl rc) (Value.slice qa ql qc) (Value.slice ga gl gc) ∧ Below w.heap.size w s5 ∧ Blk s5 w.heap.size 24 (pmC o pe (Value.slice ra rl rc) (Value.slice qa ql qc) (Value.slice ga gl gc)) ∧ Blk s5 a1.heap.size 24 (pmC 0 0 (.slice none 0 0) (.slice none 0 0) (.slice none 0 0)) ∧ Blk s5 a2.heap.size 24 (pmC 0 0 (.slice none 0 0) (.slice none 0 0) (.slice none 0 0)) from ⟨HPS.out.below hbw, hbw, HY1.out.2.2.1.keep hc (fun e => by have e : w.heap.size = a1.heap.size := e; have h1 := HG.out; omega), hb, HY1.out.2.2.2.2.keep hc (fun e => by have e : a2.heap.size = a1.heap.size := e; have h1 := HG.out; omega)⟩); clear hb hc hs hbw))
    refine bodyPost_ret (results_cellTmp Try.results15 _ _ a1.heap.size _ _ rfl HS6.out.2.2.2.1 _ Try.underlying24 rfl (pmC_info _ _ _ _ _) _ rfl) rfl ?_
    rw [HRE.out]
    exact ⟨_, _, _, rfl, PmS.nil _, HS6.out.2.1, fun g w2 hg hc h => PmS.nil _⟩
  have e1 : (b != o) = false := by simpa using hbo
  have HBO := Lib.hid hbo
  clear hbo
  by_cases hx : n < 1
  · have HX := Lib.hid hx
    have d0 : decide (n < 1) = true := by simpa using hx
    clear hx
    have HRE := Lib.hid (show RR = (noP, 2) from by rw [← HRR.out]; exact chA_arg HOK.out HBO.out (show argU ⟨o, pe, pr, pq, pg⟩ n from .inl HX.out))
    go_wp2_with (first
    | (with_reducible refine wpList_load_any rfl 24 (.tmp 10) rfl a2.heap.size 0 rfl (pmC 0 0 (.slice none 0 0) (.slice none 0 0) (.slice none 0 0)) _ (rangeW_blk HY1.out.2.2.2.2) Try.underlying24 rfl (pmC_info _ _ _ _ _) ?_)
    | ((with_reducible refine wpList_store_blk y1 rfl 24 (.tmp 8) (.tmp 55) rfl a1.heap.size 24 (pmC 0 0 (.slice none 0 0) (.slice none 0 0) (.slice none 0 0)) (pmC 0 0 (.slice none 0 0) (.slice none 0 0) (.slice none 0 0)) HY1.out.2.2.2.1 rfl rfl rfl (pmC_info _ _ _ _ _) (pmC_one _ _ _ _ _ _ _ _ _ _ _) ?_); intro s7 hb hc hs; have hbw := below_ch HY1.out.2.1 hc (Nat.le_refl _) (fun k hk => by have e : k = a1.heap.size := hk; have h1 := HG.out; omega); have HS8 := Lib.hid (show PmS s7 ⟨o, pe, pr, pq, pg⟩ (Value.slice ra rl rc) (Value.slice qa ql qc) (Value.slice ga gl gc) ∧ Below w.heap.size w s7 ∧ Blk s7 w.heap.size 24 (pmC o pe (Value.slice ra rl rc) (Value.slice qa ql qc) (Value.slice ga gl gc)) ∧ Blk s7 a1.heap.size 24 (pmC 0 0 (.slice none 0 0) (.slice none 0 0) (.slice none 0 0)) ∧ Blk s7 a2.heap.size 24 (pmC 0 0 (.slice none 0 0) (.slice none 0 0) (.slice none 0 0)) from ⟨HPS.out.below hbw, hbw, HY1.out.2.2.1.keep hc (fun e => by have e : w.heap.size = a1.heap.size := e; have h1 := HG.out; omega), hb, HY1.out.2.2.2.2.keep hc (fun e => by have e : a2.heap.size = a1.heap.size := e; have h1 := HG.out; omega)⟩); clear hb hc hs hbw))
    refine bodyPost_ret (results_cellTmp Try.results15 _ _ a1.heap.size _ _ rfl HS8.out.2.2.2.1 _ Try.underlying24 rfl (pmC_info _ _ _ _ _) _ rfl) rfl ?_
    rw [HRE.out]
    exact ⟨_, _, _, rfl, PmS.nil _, HS8.out.2.1, fun g w2 hg hc h => PmS.nil _⟩
  have HX0 := Lib.hid hx
  have d0 : decide (n < 1) = false := by simpa using hx
  clear hx
  by_cases hx : 6 < n
  · have HX := Lib.hid hx
    have d1 : decide (6 < n) = true := by simpa using hx
    clear hx
    have HRE := Lib.hid (show RR = (noP, 2) from by rw [← HRR.out]; exact chA_arg HOK.out HBO.out (show argU ⟨o, pe, pr, pq, pg⟩ n from .inr (.inl HX.out)))
    go_wp2_with (first
    | (with_reducible refine wpList_load_any rfl 24 (.tmp 10) rfl a2.heap.size 0 rfl (pmC 0 0 (.slice none 0 0) (.slice none 0 0) (.slice none 0 0)) _ (rangeW_blk HY1.out.2.2.2.2) Try.underlying24 rfl (pmC_info _ _ _ _ _) ?_)
    | ((with_reducible refine wpList_store_blk y1 rfl 24 (.tmp 8) (.tmp 55) rfl a1.heap.size 24 (pmC 0 0 (.slice none 0 0) (.slice none 0 0) (.slice none 0 0)) (pmC 0 0 (.slice none 0 0) (.slice none 0 0) (.slice none 0 0)) HY1.out.2.2.2.1 rfl rfl rfl (pmC_info _ _ _ _ _) (pmC_one _ _ _ _ _ _ _ _ _ _ _) ?_); intro s9 hb hc hs; have hbw := below_ch HY1.out.2.1 hc (Nat.le_refl _) (fun k hk => by have e : k = a1.heap.size := hk; have h1 := HG.out; omega); have HS10 := Lib.hid (show PmS s9 ⟨o, pe, pr, pq, pg⟩ (Value.slice ra rl rc) (Value.slice qa ql qc) (Value.slice ga gl gc) ∧ Below w.heap.size w s9 ∧ Blk s9 w.heap.size 24 (pmC o pe (Value.slice ra rl rc) (Value.slice qa ql qc) (Value.slice ga gl gc)) ∧ Blk s9 a1.heap.size 24 (pmC 0 0 (.slice none 0 0) (.slice none 0 0) (.slice none 0 0)) ∧ Blk s9 a2.heap.size 24 (pmC 0 0 (.slice none 0 0) (.slice none 0 0) (.slice none 0 0)) from ⟨HPS.out.below hbw, hbw, HY1.out.2.2.1.keep hc (fun e => by have e : w.heap.size = a1.heap.size := e; have h1 := HG.out; omega), hb, HY1.out.2.2.2.2.keep hc (fun e => by have e : a2.heap.size = a1.heap.size := e; have h1 := HG.out; omega)⟩); clear hb hc hs hbw))
    refine bodyPost_ret (results_cellTmp Try.results15 _ _ a1.heap.size _ _ rfl HS10.out.2.2.2.1 _ Try.underlying24 rfl (pmC_info _ _ _ _ _) _ rfl) rfl ?_
    rw [HRE.out]
    exact ⟨_, _, _, rfl, PmS.nil _, HS10.out.2.1, fun g w2 hg hc h => PmS.nil _⟩
  have HX1 := Lib.hid hx
  have d1 : decide (6 < n) = false := by simpa using hx
  clear hx
  by_cases hx : n = o
  · have HX := Lib.hid hx
    have d2 : (n == o) = true := by simpa using hx
    clear hx
    have HRE := Lib.hid (show RR = (noP, 2) from by rw [← HRR.out]; exact chA_arg HOK.out HBO.out (show argU ⟨o, pe, pr, pq, pg⟩ n from .inr (.inr HX.out)))
    go_wp2_with (first
    | (with_reducible refine wpList_load_any rfl 24 (.tmp 10) rfl a2.heap.size 0 rfl (pmC 0 0 (.slice none 0 0) (.slice none 0 0) (.slice none 0 0)) _ (rangeW_blk HY1.out.2.2.2.2) Try.underlying24 rfl (pmC_info _ _ _ _ _) ?_)
    | ((with_reducible refine wpList_store_blk y1 rfl 24 (.tmp 8) (.tmp 55) rfl a1.heap.size 24 (pmC 0 0 (.slice none 0 0) (.slice none 0 0) (.slice none 0 0)) (pmC 0 0 (.slice none 0 0) (.slice none 0 0) (.slice none 0 0)) HY1.out.2.2.2.1 rfl rfl rfl (pmC_info _ _ _ _ _) (pmC_one _ _ _ _ _ _ _ _ _ _ _) ?_); intro s11 hb hc hs; have hbw := below_ch HY1.out.2.1 hc (Nat.le_refl _) (fun k hk => by have e : k = a1.heap.size := hk; have h1 := HG.out; omega); have HS12 := Lib.hid (show PmS s11 ⟨o, pe, pr, pq, pg⟩ (Value.slice ra rl rc) (Value.slice qa ql qc) (Value.slice ga gl gc) ∧ Below w.heap.size w s11 ∧ Blk s11 w.heap.size 24 (pmC o pe (Value.slice ra rl rc) (Value.slice qa ql qc) (Value.slice ga gl gc)) ∧ Blk s11 a1.heap.size 24 (pmC 0 0 (.slice none 0 0) (.slice none 0 0) (.slice none 0 0)) ∧ Blk s11 a2.heap.size 24 (pmC 0 0 (.slice none 0 0) (.slice none 0 0) (.slice none 0 0)) from ⟨HPS.out.below hbw, hbw, HY1.out.2.2.1.keep hc (fun e => by have e : w.heap.size = a1.heap.size := e; have h1 := HG.out; omega), hb, HY1.out.2.2.2.2.keep hc (fun e => by have e : a2.heap.size = a1.heap.size := e; have h1 := HG.out; omega)⟩); clear hb hc hs hbw))
    refine bodyPost_ret (results_cellTmp Try.results15 _ _ a1.heap.size _ _ rfl HS12.out.2.2.2.1 _ Try.underlying24 rfl (pmC_info _ _ _ _ _) _ rfl) rfl ?_
    rw [HRE.out]
    exact ⟨_, _, _, rfl, PmS.nil _, HS12.out.2.1, fun g w2 hg hc h => PmS.nil _⟩
  have HX2 := Lib.hid hx
  have d2 : (n == o) = false := by simpa using hx
  clear hx
  have HGO := Lib.hid (show ¬ argU ⟨o, pe, pr, pq, pg⟩ n from fun h => h.elim HX0.out (fun h => h.elim HX1.out HX2.out))
  have c2 := HY1.out.2.2.1.cell 2
  simp only [pmC, List.getElem?_cons_zero, List.getElem?_cons_succ] at c2
  go_wp2_with fail
  obtain ⟨z, hz⟩ : ∃ z, inB pr n = z := ⟨_, rfl⟩
  have HZ := Lib.hid hz
  have hx := rin_any (.slice ra rl rc) pr n y1 HY1.out.1.1
  rw [hz] at hx
  clear hz
  refine Calls.mono hx ?_
  clear hx
  rintro e' w9 ⟨rfl, rfl⟩
  cases z
  rotate_left
  · skip
    have HRE := Lib.hid (show RR = (noP, 5) from by rw [← HRR.out]; exact (chA_go HOK.out HBO.out HGO.out).trans (if_pos HZ.out))
    go_wp2_with (first
    | (with_reducible refine wpList_load_any rfl 24 (.tmp 10) rfl a2.heap.size 0 rfl (pmC 0 0 (.slice none 0 0) (.slice none 0 0) (.slice none 0 0)) _ (rangeW_blk HY1.out.2.2.2.2) Try.underlying24 rfl (pmC_info _ _ _ _ _) ?_)
    | ((with_reducible refine wpList_store_blk y1 rfl 24 (.tmp 8) (.tmp 63) rfl a1.heap.size 24 (pmC 0 0 (.slice none 0 0) (.slice none 0 0) (.slice none 0 0)) (pmC 0 0 (.slice none 0 0) (.slice none 0 0) (.slice none 0 0)) HY1.out.2.2.2.1 rfl rfl rfl (pmC_info _ _ _ _ _) (pmC_one _ _ _ _ _ _ _ _ _ _ _) ?_); intro s13 hb hc hs; have hbw := below_ch HY1.out.2.1 hc (Nat.le_refl _) (fun k hk => by have e : k = a1.heap.size := hk; have h1 := HG.out; omega); have HS14 := Lib.hid (show PmS s13 ⟨o, pe, pr, pq, pg⟩ (Value.slice ra rl rc) (Value.slice qa ql qc) (Value.slice ga gl gc) ∧ Below w.heap.size w s13 ∧ Blk s13 w.heap.size 24 (pmC o pe (Value.slice ra rl rc) (Value.slice qa ql qc) (Value.slice ga gl gc)) ∧ Blk s13 a1.heap.size 24 (pmC 0 0 (.slice none 0 0) (.slice none 0 0) (.slice none 0 0)) ∧ Blk s13 a2.heap.size 24 (pmC 0 0 (.slice none 0 0) (.slice none 0 0) (.slice none 0 0)) from ⟨HPS.out.below hbw, hbw, HY1.out.2.2.1.keep hc (fun e => by have e : w.heap.size = a1.heap.size := e; have h1 := HG.out; omega), hb, HY1.out.2.2.2.2.keep hc (fun e => by have e : a2.heap.size = a1.heap.size := e; have h1 := HG.out; omega)⟩); clear hb hc hs hbw))
    refine bodyPost_ret (results_cellTmp Try.results15 _ _ a1.heap.size _ _ rfl HS14.out.2.2.2.1 _ Try.underlying24 rfl (pmC_info _ _ _ _ _) _ rfl) rfl ?_
    rw [HRE.out]
    exact ⟨_, _, _, rfl, PmS.nil _, HS14.out.2.1, fun g w2 hg hc h => PmS.nil _⟩
  go_wp2_with fail
  refine (rset_any (.slice ra rl rc) pr n true y1 HY1.out.1.1).mono ?_
  rintro e' y15 ⟨m17a, m17l, m17c, rfl, hs, hb, hab⟩
  have HY16 := Lib.hid (show PmS y15 ⟨o, pe, pr, pq, pg⟩ (Value.slice ra rl rc) (Value.slice qa ql qc) (Value.slice ga gl gc) ∧ Below w.heap.size w y15 ∧ Blk y15 w.heap.size 24 (pmC o pe (Value.slice ra rl rc) (Value.slice qa ql qc) (Value.slice ga gl gc)) ∧ Blk y15 a1.heap.size 24 (pmC 0 0 (.slice none 0 0) (.slice none 0 0) (.slice none 0 0)) ∧ Blk y15 a2.heap.size 24 (pmC 0 0 (.slice none 0 0) (.slice none 0 0) (.slice none 0 0)) ∧ Sl y15 (.slice m17a m17l m17c) (ofK .i64 (setU pr n true 6)) ∧ (∀ k, (Value.slice m17a m17l m17c).ownBlock = some k → w.heap.size < k ∧ a1.heap.size < k) from ⟨HY1.out.1.below hb, below_thn HY1.out.2.1 hb (Nat.le_refl _), HY1.out.2.2.1.below hb HY1.out.2.2.1.lt, HY1.out.2.2.2.1.below hb HY1.out.2.2.2.1.lt, HY1.out.2.2.2.2.below hb HY1.out.2.2.2.2.lt, hs, fun k hk => by have h1 := hab k hk; have h2 := HY1.out.2.2.2.1.lt; have h3 := HG.out; omega⟩)
  clear hs hb hab
  clear c0 c2
  have HRE := Lib.hid (show RR = (⟨o, pe, setU pr n true 6, pq, pg⟩, 0) from by rw [← HRR.out]; exact (chA_go HOK.out HBO.out HGO.out).trans (if_neg (by rw [HZ.out]; simp)))
  go_wp2_with (first
    | ((with_reducible refine wpList_store1 y15 rfl 22 (.tmp 68) (.tmp 67) rfl w.heap.size 2 24 (pmC o pe (Value.slice ra rl rc) (Value.slice qa ql qc) (Value.slice ga gl gc)) HY16.out.2.2.1 rfl (.slice m17a m17l m17c) rfl (by simp [pmC]) Try.sizeIs1 rfl rfl ?_); intro s18 hb hc hs; have hbw := below_ch HY16.out.2.1 hc (Nat.le_refl _) (fun k hk => by have e : k = w.heap.size := hk; have h1 := HG.out; omega); have HS19 := Lib.hid (show PmS s18 ⟨o, pe, pr, pq, pg⟩ (Value.slice ra rl rc) (Value.slice qa ql qc) (Value.slice ga gl gc) ∧ Below w.heap.size w s18 ∧ Blk s18 w.heap.size 24 (pmC o pe (Value.slice m17a m17l m17c) (Value.slice qa ql qc) (Value.slice ga gl gc)) ∧ Blk s18 a1.heap.size 24 (pmC 0 0 (.slice none 0 0) (.slice none 0 0) (.slice none 0 0)) ∧ Blk s18 a2.heap.size 24 (pmC 0 0 (.slice none 0 0) (.slice none 0 0) (.slice none 0 0)) ∧ Sl s18 (.slice m17a m17l m17c) (ofK .i64 (setU pr n true 6)) ∧ (∀ k, (Value.slice m17a m17l m17c).ownBlock = some k → w.heap.size < k ∧ a1.heap.size < k) from ⟨HPS.out.below hbw, hbw, hb, HY16.out.2.2.2.1.keep hc (fun e => by have e : a1.heap.size = w.heap.size := e; have h1 := HG.out; omega), HY16.out.2.2.2.2.1.keep hc (fun e => by have e : a2.heap.size = w.heap.size := e; have h1 := HG.out; omega), HY16.out.2.2.2.2.2.1.keep hc (fun k hk e => by have e : k = w.heap.size := e; have := HY16.out.2.2.2.2.2.2 k hk; have h1 := HG.out; omega), HY16.out.2.2.2.2.2.2⟩); clear hb hc hs hbw)
    | (with_reducible refine wpList_load_any rfl 24 (.tmp 4) rfl w.heap.size 0 rfl (pmC o pe (Value.slice m17a m17l m17c) (Value.slice qa ql qc) (Value.slice ga gl gc)) _ (rangeW_blk HS19.out.2.2.1) Try.underlying24 rfl (pmC_info _ _ _ _ _) ?_)
    | ((with_reducible refine wpList_store_blk s18 rfl 24 (.tmp 8) (.tmp 137) rfl a1.heap.size 24 (pmC 0 0 (.slice none 0 0) (.slice none 0 0) (.slice none 0 0)) (pmC o pe (Value.slice m17a m17l m17c) (Value.slice qa ql qc) (Value.slice ga gl gc)) HS19.out.2.2.2.1 rfl rfl rfl (pmC_info _ _ _ _ _) (pmC_one _ _ _ _ _ _ _ _ _ _ _) ?_); intro s20 hb hc hs; have hbw := below_ch HS19.out.2.1 hc (Nat.le_refl _) (fun k hk => by have e : k = a1.heap.size := hk; have h1 := HG.out; omega); have HS21 := Lib.hid (show PmS s20 ⟨o, pe, pr, pq, pg⟩ (Value.slice ra rl rc) (Value.slice qa ql qc) (Value.slice ga gl gc) ∧ Below w.heap.size w s20 ∧ Blk s20 w.heap.size 24 (pmC o pe (Value.slice m17a m17l m17c) (Value.slice qa ql qc) (Value.slice ga gl gc)) ∧ Blk s20 a1.heap.size 24 (pmC o pe (Value.slice m17a m17l m17c) (Value.slice qa ql qc) (Value.slice ga gl gc)) ∧ Blk s20 a2.heap.size 24 (pmC 0 0 (.slice none 0 0) (.slice none 0 0) (.slice none 0 0)) ∧ Sl s20 (.slice m17a m17l m17c) (ofK .i64 (setU pr n true 6)) ∧ (∀ k, (Value.slice m17a m17l m17c).ownBlock = some k → w.heap.size < k ∧ a1.heap.size < k) from ⟨HPS.out.below hbw, hbw, HS19.out.2.2.1.keep hc (fun e => by have e : w.heap.size = a1.heap.size := e; have h1 := HG.out; omega), hb, HS19.out.2.2.2.2.1.keep hc (fun e => by have e : a2.heap.size = a1.heap.size := e; have h1 := HG.out; omega), HS19.out.2.2.2.2.2.1.keep hc (fun k hk e => by have e : k = a1.heap.size := e; have := HS19.out.2.2.2.2.2.2 k hk; have h1 := HG.out; omega), HS19.out.2.2.2.2.2.2⟩); clear hb hc hs hbw))
  refine bodyPost_ret (results_cellTmp Try.results15 _ _ a1.heap.size _ _ rfl HS21.out.2.2.2.1 _ Try.underlying24 rfl (pmC_info _ _ _ _ _) _ rfl) rfl ?_
  rw [HRE.out]
  exact ⟨_, _, _, rfl, ⟨HS21.out.2.2.2.2.2.1, HS21.out.1.2.1, HS21.out.1.2.2⟩, HS21.out.2.1, fun g w2 hg hc h => ⟨HS21.out.2.2.2.2.2.1.keep hc (fun k hk e => by have e : k = g := e; have := HS21.out.2.2.2.2.2.2 k hk; omega), h.2.1, h.2.2⟩⟩


set_option maxRecDepth 100000 in
set_option maxHeartbeats 8000000 in
theorem rchange1_any (p : PmD) (vr vq vg : Value) (b n : Int) (w : World) (hp : PmS w p vr vq vg) :
    Calls Try.prog 15 #[.agg (pmC p.o p.e vr vq vg).toArray, .int .i64 1, .int .i64 b, .int .i64 n] w (RefP w p vr vq vg (ch1 p b n)) := by
  obtain ⟨ra, rc, rfl, -⟩ := hp.1.shape
  obtain ⟨qa, qc, rfl, -⟩ := hp.2.1.shape
  obtain ⟨ga, gc, rfl, -⟩ := hp.2.2.shape
  obtain ⟨o, pe, pr, pq, pg⟩ := p
  simp only at hp ⊢
  simp only [length_ofK] at hp ⊢
  generalize pr.length = rl at hp ⊢
  generalize pq.length = ql at hp ⊢
  generalize pg.length = gl at hp ⊢
  have HPS := Lib.hid hp
  obtain ⟨ok, hok⟩ : ∃ x, okB ⟨o, pe, pr, pq, pg⟩ = x := ⟨_, rfl⟩
  have HOK := Lib.hid hok
  obtain ⟨RR, hRR⟩ : ∃ x, ch1 ⟨o, pe, pr, pq, pg⟩ b n = x := ⟨_, rfl⟩
  rw [hRR]
  have HRR := Lib.hid hRR
  have H0 := Lib.hid (show PmS w ⟨o, pe, pr, pq, pg⟩ (Value.slice ra rl rc) (Value.slice qa ql qc) (Value.slice ga gl gc) ∧ Below w.heap.size w w from ⟨hp, Below.refl _ _⟩)
  clear hp hok hRR
  go_enter Try.func15, Try.ntmps15
  go_wp2_with (first
    | ((with_reducible refine wpList_box_blk w rfl 24 (.tmp 0) rfl (pmC o pe (Value.slice ra rl rc) (Value.slice qa ql qc) (Value.slice ga gl gc)) rfl ?_); intro a1 hb hbel hsz; have HA1 := Lib.hid (show PmS a1 ⟨o, pe, pr, pq, pg⟩ (Value.slice ra rl rc) (Value.slice qa ql qc) (Value.slice ga gl gc) ∧ Below w.heap.size w a1 ∧ Blk a1 w.heap.size 24 (pmC o pe (Value.slice ra rl rc) (Value.slice qa ql qc) (Value.slice ga gl gc)) from ⟨H0.out.1.below hbel, below_thn H0.out.2 hbel (Nat.le_refl _), hb⟩); clear hb hbel hsz)
    | ((with_reducible refine wpList_alloc_blk a1 rfl 24 rfl (pmC 0 0 (.slice none 0 0) (.slice none 0 0) (.slice none 0 0)) Try.zeroPm ?_); intro a2 hb hbel hsz; have HA2 := Lib.hid (show PmS a2 ⟨o, pe, pr, pq, pg⟩ (Value.slice ra rl rc) (Value.slice qa ql qc) (Value.slice ga gl gc) ∧ Below w.heap.size w a2 ∧ Blk a2 w.heap.size 24 (pmC o pe (Value.slice ra rl rc) (Value.slice qa ql qc) (Value.slice ga gl gc)) ∧ Blk a2 a1.heap.size 24 (pmC 0 0 (.slice none 0 0) (.slice none 0 0) (.slice none 0 0)) from ⟨HA1.out.1.below hbel, below_thn HA1.out.2.1 hbel (Nat.le_refl _), HA1.out.2.2.below hbel HA1.out.2.2.lt, hb⟩); clear hb hbel hsz)
    | ((with_reducible refine wpList_build_zeroPm rfl rfl ?_))
    | ((with_reducible refine wpList_alloc_blk a2 rfl 24 rfl (pmC 0 0 (.slice none 0 0) (.slice none 0 0) (.slice none 0 0)) Try.zeroPm ?_); intro a3 hb hbel hsz; have HA3 := Lib.hid (show PmS a3 ⟨o, pe, pr, pq, pg⟩ (Value.slice ra rl rc) (Value.slice qa ql qc) (Value.slice ga gl gc) ∧ Below w.heap.size w a3 ∧ Blk a3 w.heap.size 24 (pmC o pe (Value.slice ra rl rc) (Value.slice qa ql qc) (Value.slice ga gl gc)) ∧ Blk a3 a1.heap.size 24 (pmC 0 0 (.slice none 0 0) (.slice none 0 0) (.slice none 0 0)) ∧ Blk a3 a2.heap.size 24 (pmC 0 0 (.slice none 0 0) (.slice none 0 0) (.slice none 0 0)) from ⟨HA2.out.1.below hbel, below_thn HA2.out.2.1 hbel (Nat.le_refl _), HA2.out.2.2.1.below hbel HA2.out.2.2.1.lt, HA2.out.2.2.2.below hbel HA2.out.2.2.2.lt, hb⟩); have HG := Lib.hid (show w.heap.size < a1.heap.size ∧ a1.heap.size < a2.heap.size from ⟨HA1.out.2.2.lt, HA2.out.2.2.2.lt⟩); clear hb hbel hsz)
    | ((with_reducible refine wpList_store_blk a3 rfl 24 (.tmp 10) (.tmp 11) rfl a2.heap.size 24 (pmC 0 0 (.slice none 0 0) (.slice none 0 0) (.slice none 0 0)) (pmC 0 0 (.slice none 0 0) (.slice none 0 0) (.slice none 0 0)) HA3.out.2.2.2.2 rfl rfl rfl (pmC_info _ _ _ _ _) (pmC_one _ _ _ _ _ _ _ _ _ _ _) ?_); intro s22 hb hc hs; have hbw := below_ch HA3.out.2.1 hc (Nat.le_refl _) (fun k hk => by have e : k = a2.heap.size := hk; have h1 := HG.out; omega); have HS23 := Lib.hid (show PmS s22 ⟨o, pe, pr, pq, pg⟩ (Value.slice ra rl rc) (Value.slice qa ql qc) (Value.slice ga gl gc) ∧ Below w.heap.size w s22 ∧ Blk s22 w.heap.size 24 (pmC o pe (Value.slice ra rl rc) (Value.slice qa ql qc) (Value.slice ga gl gc)) ∧ Blk s22 a1.heap.size 24 (pmC 0 0 (.slice none 0 0) (.slice none 0 0) (.slice none 0 0)) ∧ Blk s22 a2.heap.size 24 (pmC 0 0 (.slice none 0 0) (.slice none 0 0) (.slice none 0 0)) from ⟨HPS.out.below hbw, hbw, HA3.out.2.2.1.keep hc (fun e => by have e : w.heap.size = a2.heap.size := e; have h1 := HG.out; omega), HA3.out.2.2.2.1.keep hc (fun e => by have e : a1.heap.size = a2.heap.size := e; have h1 := HG.out; omega), hb⟩); clear hb hc hs hbw)
    | (with_reducible refine wpList_load_any rfl 24 (.tmp 4) rfl w.heap.size 0 rfl (pmC o pe (Value.slice ra rl rc) (Value.slice qa ql qc) (Value.slice ga gl gc)) _ (rangeW_blk HS23.out.2.2.1) Try.underlying24 rfl (pmC_info _ _ _ _ _) ?_))
  have hx := rright_any ⟨o, pe, pr, pq, pg⟩ _ _ _ s22 HS23.out.1
  rw [HOK.out] at hx
  refine Calls.mono hx ?_
  clear hx
  rintro e' y1 ⟨rfl, hb⟩
  have HY1 := Lib.hid (show PmS y1 ⟨o, pe, pr, pq, pg⟩ (Value.slice ra rl rc) (Value.slice qa ql qc) (Value.slice ga gl gc) ∧ Below w.heap.size w y1 ∧ Blk y1 w.heap.size 24 (pmC o pe (Value.slice ra rl rc) (Value.slice qa ql qc) (Value.slice ga gl gc)) ∧ Blk y1 a1.heap.size 24 (pmC 0 0 (.slice none 0 0) (.slice none 0 0) (.slice none 0 0)) ∧ Blk y1 a2.heap.size 24 (pmC 0 0 (.slice none 0 0) (.slice none 0 0) (.slice none 0 0)) from ⟨HS23.out.1.below hb, below_thn HS23.out.2.1 hb (Nat.le_refl _), HS23.out.2.2.1.below hb HS23.out.2.2.1.lt, HS23.out.2.2.2.1.below hb HS23.out.2.2.2.1.lt, HS23.out.2.2.2.2.below hb HS23.out.2.2.2.2.lt⟩)
  clear hb HA1 HA2 HA3 HS23
  cases ok
  · skip
    have HRE := Lib.hid (show RR = (noP, 210) from by rw [← HRR.out]; exact chA_perm HOK.out)
    go_wp2_with (first
    | (with_reducible refine wpList_load_any rfl 24 (.tmp 10) rfl a2.heap.size 0 rfl (pmC 0 0 (.slice none 0 0) (.slice none 0 0) (.slice none 0 0)) _ (rangeW_blk HY1.out.2.2.2.2) Try.underlying24 rfl (pmC_info _ _ _ _ _) ?_)
    | ((with_reducible refine wpList_store_blk y1 rfl 24 (.tmp 8) (.tmp 15) rfl a1.heap.size 24 (pmC 0 0 (.slice none 0 0) (.slice none 0 0) (.slice none 0 0)) (pmC 0 0 (.slice none 0 0) (.slice none 0 0) (.slice none 0 0)) HY1.out.2.2.2.1 rfl rfl rfl (pmC_info _ _ _ _ _) (pmC_one _ _ _ _ _ _ _ _ _ _ _) ?_); intro s24 hb hc hs; have hbw := below_ch HY1.out.2.1 hc (Nat.le_refl _) (fun k hk => by have e : k = a1.heap.size := hk; have h1 := HG.out; omega); have HS25 := Lib.hid (show PmS s24 ⟨o, pe, pr, pq, pg⟩ (Value.slice ra rl rc) (Value.slice qa ql qc) (Value.slice ga gl gc) ∧ Below w.heap.size w s24 ∧ Blk s24 w.heap.size 24 (pmC o pe (Value.slice ra rl rc) (Value.slice qa ql qc) (Value.slice ga gl gc)) ∧ Blk s24 a1.heap.size 24 (pmC 0 0 (.slice none 0 0) (.slice none 0 0) (.slice none 0 0)) ∧ Blk s24 a2.heap.size 24 (pmC 0 0 (.slice none 0 0) (.slice none 0 0) (.slice none 0 0)) from ⟨HPS.out.below hbw, hbw, HY1.out.2.2.1.keep hc (fun e => by have e : w.heap.size = a1.heap.size := e; have h1 := HG.out; omega), hb, HY1.out.2.2.2.2.keep hc (fun e => by have e : a2.heap.size = a1.heap.size := e; have h1 := HG.out; omega)⟩); clear hb hc hs hbw))
    refine bodyPost_ret (results_cellTmp Try.results15 _ _ a1.heap.size _ _ rfl HS25.out.2.2.2.1 _ Try.underlying24 rfl (pmC_info _ _ _ _ _) _ rfl) rfl ?_
    rw [HRE.out]
    exact ⟨_, _, _, rfl, PmS.nil _, HS25.out.2.1, fun g w2 hg hc h => PmS.nil _⟩
  have HE := Lib.hid (okB_iff.1 HOK.out).e
  have c0 := HY1.out.2.2.1.cell 0
  simp only [pmC, List.getElem?_cons_zero, List.getElem?_cons_succ] at c0
  by_cases hbo : b = o
  rotate_left
  · have e1 : (b != o) = true := by simpa using hbo
    have HBO := Lib.hid hbo
    clear hbo
    have HRE := Lib.hid (show RR = (noP, 211) from by rw [← HRR.out]; exact chA_owner HOK.out HBO.out)
    go_wp2_with (first
    | (with_reducible refine wpList_load_any rfl 24 (.tmp 10) rfl a2.heap.size 0 rfl (pmC 0 0 (.slice none 0 0) (.slice none 0 0) (.slice none 0 0)) _ (rangeW_blk HY1.out.2.2.2.2) Try.underlying24 rfl (pmC_info _ _ _ _ _) ?_)
    | ((with_reducible refine wpList_store_blk y1 rfl 24 (.tmp 8) (.tmp 26) rfl a1.heap.size 24 (pmC 0 0 (.slice none 0 0) (.slice none 0 0) (.slice none 0 0)) (pmC 0 0 (.slice none 0 0) (.slice none 0 0) (.slice none 0 0)) HY1.out.2.2.2.1 rfl rfl rfl (pmC_info _ _ _ _ _) (pmC_one _ _ _ _ _ _ _ _ _ _ _) ?_); intro s26 hb hc hs; have hbw := below_ch HY1.out.2.1 hc (Nat.le_refl _) (fun k hk => by have e : k = a1.heap.size := hk; have h1 := HG.out; omega); have HS27 := Lib.hid (show PmS s26 ⟨o, pe, pr, pq, pg⟩ (Value.slice ra rl rc) (Value.slice qa ql qc) (Value.slice ga gl gc) ∧ Below w.heap.size w s26 ∧ Blk s26 w.heap.size 24 (pmC o pe (Value.slice ra rl rc) (Value.slice qa ql qc) (Value.slice ga gl gc)) ∧ Blk s26 a1.heap.size 24 (pmC 0 0 (.slice none 0 0) (.slice none 0 0) (.slice none 0 0)) ∧ Blk s26 a2.heap.size 24 (pmC 0 0 (.slice none 0 0) (.slice none 0 0) (.slice none 0 0)) from ⟨HPS.out.below hbw, hbw, HY1.out.2.2.1.keep hc (fun e => by have e : w.heap.size = a1.heap.size := e; have h1 := HG.out; omega), hb, HY1.out.2.2.2.2.keep hc (fun e => by have e : a2.heap.size = a1.heap.size := e; have h1 := HG.out; omega)⟩); clear hb hc hs hbw))
    refine bodyPost_ret (results_cellTmp Try.results15 _ _ a1.heap.size _ _ rfl HS27.out.2.2.2.1 _ Try.underlying24 rfl (pmC_info _ _ _ _ _) _ rfl) rfl ?_
    rw [HRE.out]
    exact ⟨_, _, _, rfl, PmS.nil _, HS27.out.2.1, fun g w2 hg hc h => PmS.nil _⟩
  have e1 : (b != o) = false := by simpa using hbo
  have HBO := Lib.hid hbo
  clear hbo
  by_cases hx : n < 1
  · have HX := Lib.hid hx
    have d0 : decide (n < 1) = true := by simpa using hx
    clear hx
    have HRE := Lib.hid (show RR = (noP, 2) from by rw [← HRR.out]; exact chA_arg HOK.out HBO.out (show argU ⟨o, pe, pr, pq, pg⟩ n from .inl HX.out))
    go_wp2_with (first
    | (with_reducible refine wpList_load_any rfl 24 (.tmp 10) rfl a2.heap.size 0 rfl (pmC 0 0 (.slice none 0 0) (.slice none 0 0) (.slice none 0 0)) _ (rangeW_blk HY1.out.2.2.2.2) Try.underlying24 rfl (pmC_info _ _ _ _ _) ?_)
    | ((with_reducible refine wpList_store_blk y1 rfl 24 (.tmp 8) (.tmp 55) rfl a1.heap.size 24 (pmC 0 0 (.slice none 0 0) (.slice none 0 0) (.slice none 0 0)) (pmC 0 0 (.slice none 0 0) (.slice none 0 0) (.slice none 0 0)) HY1.out.2.2.2.1 rfl rfl rfl (pmC_info _ _ _ _ _) (pmC_one _ _ _ _ _ _ _ _ _ _ _) ?_); intro s28 hb hc hs; have hbw := below_ch HY1.out.2.1 hc (Nat.le_refl _) (fun k hk => by have e : k = a1.heap.size := hk; have h1 := HG.out; omega); have HS29 := Lib.hid (show PmS s28 ⟨o, pe, pr, pq, pg⟩ (Value.slice ra rl rc) (Value.slice qa ql qc) (Value.slice ga gl gc) ∧ Below w.heap.size w s28 ∧ Blk s28 w.heap.size 24 (pmC o pe (Value.slice ra rl rc) (Value.slice qa ql qc) (Value.slice ga gl gc)) ∧ Blk s28 a1.heap.size 24 (pmC 0 0 (.slice none 0 0) (.slice none 0 0) (.slice none 0 0)) ∧ Blk s28 a2.heap.size 24 (pmC 0 0 (.slice none 0 0) (.slice none 0 0) (.slice none 0 0)) from ⟨HPS.out.below hbw, hbw, HY1.out.2.2.1.keep hc (fun e => by have e : w.heap.size = a1.heap.size := e; have h1 := HG.out; omega), hb, HY1.out.2.2.2.2.keep hc (fun e => by have e : a2.heap.size = a1.heap.size := e; have h1 := HG.out; omega)⟩); clear hb hc hs hbw))
    refine bodyPost_ret (results_cellTmp Try.results15 _ _ a1.heap.size _ _ rfl HS29.out.2.2.2.1 _ Try.underlying24 rfl (pmC_info _ _ _ _ _) _ rfl) rfl ?_
    rw [HRE.out]
    exact ⟨_, _, _, rfl, PmS.nil _, HS29.out.2.1, fun g w2 hg hc h => PmS.nil _⟩
  have HX0 := Lib.hid hx
  have d0 : decide (n < 1) = false := by simpa using hx
  clear hx
  by_cases hx : 6 < n
  · have HX := Lib.hid hx
    have d1 : decide (6 < n) = true := by simpa using hx
    clear hx
    have HRE := Lib.hid (show RR = (noP, 2) from by rw [← HRR.out]; exact chA_arg HOK.out HBO.out (show argU ⟨o, pe, pr, pq, pg⟩ n from .inr (.inl HX.out)))
    go_wp2_with (first
    | (with_reducible refine wpList_load_any rfl 24 (.tmp 10) rfl a2.heap.size 0 rfl (pmC 0 0 (.slice none 0 0) (.slice none 0 0) (.slice none 0 0)) _ (rangeW_blk HY1.out.2.2.2.2) Try.underlying24 rfl (pmC_info _ _ _ _ _) ?_)
    | ((with_reducible refine wpList_store_blk y1 rfl 24 (.tmp 8) (.tmp 55) rfl a1.heap.size 24 (pmC 0 0 (.slice none 0 0) (.slice none 0 0) (.slice none 0 0)) (pmC 0 0 (.slice none 0 0) (.slice none 0 0) (.slice none 0 0)) HY1.out.2.2.2.1 rfl rfl rfl (pmC_info _ _ _ _ _) (pmC_one _ _ _ _ _ _ _ _ _ _ _) ?_); intro s30 hb hc hs; have hbw := below_ch HY1.out.2.1 hc (Nat.le_refl _) (fun k hk => by have e : k = a1.heap.size := hk; have h1 := HG.out; omega); have HS31 := Lib.hid (show PmS s30 ⟨o, pe, pr, pq, pg⟩ (Value.slice ra rl rc) (Value.slice qa ql qc) (Value.slice ga gl gc) ∧ Below w.heap.size w s30 ∧ Blk s30 w.heap.size 24 (pmC o pe (Value.slice ra rl rc) (Value.slice qa ql qc) (Value.slice ga gl gc)) ∧ Blk s30 a1.heap.size 24 (pmC 0 0 (.slice none 0 0) (.slice none 0 0) (.slice none 0 0)) ∧ Blk s30 a2.heap.size 24 (pmC 0 0 (.slice none 0 0) (.slice none 0 0) (.slice none 0 0)) from ⟨HPS.out.below hbw, hbw, HY1.out.2.2.1.keep hc (fun e => by have e : w.heap.size = a1.heap.size := e; have h1 := HG.out; omega), hb, HY1.out.2.2.2.2.keep hc (fun e => by have e : a2.heap.size = a1.heap.size := e; have h1 := HG.out; omega)⟩); clear hb hc hs hbw))
    refine bodyPost_ret (results_cellTmp Try.results15 _ _ a1.heap.size _ _ rfl HS31.out.2.2.2.1 _ Try.underlying24 rfl (pmC_info _ _ _ _ _) _ rfl) rfl ?_
    rw [HRE.out]
    exact ⟨_, _, _, rfl, PmS.nil _, HS31.out.2.1, fun g w2 hg hc h => PmS.nil _⟩
  have HX1 := Lib.hid hx
  have d1 : decide (6 < n) = false := by simpa using hx
  clear hx
  by_cases hx : n = o
  · have HX := Lib.hid hx
    have d2 : (n == o) = true := by simpa using hx
    clear hx
    have HRE := Lib.hid (show RR = (noP, 2) from by rw [← HRR.out]; exact chA_arg HOK.out HBO.out (show argU ⟨o, pe, pr, pq, pg⟩ n from .inr (.inr HX.out)))
    go_wp2_with (first
    | (with_reducible refine wpList_load_any rfl 24 (.tmp 10) rfl a2.heap.size 0 rfl (pmC 0 0 (.slice none 0 0) (.slice none 0 0) (.slice none 0 0)) _ (rangeW_blk HY1.out.2.2.2.2) Try.underlying24 rfl (pmC_info _ _ _ _ _) ?_)
    | ((with_reducible refine wpList_store_blk y1 rfl 24 (.tmp 8) (.tmp 55) rfl a1.heap.size 24 (pmC 0 0 (.slice none 0 0) (.slice none 0 0) (.slice none 0 0)) (pmC 0 0 (.slice none 0 0) (.slice none 0 0) (.slice none 0 0)) HY1.out.2.2.2.1 rfl rfl rfl (pmC_info _ _ _ _ _) (pmC_one _ _ _ _ _ _ _ _ _ _ _) ?_); intro s32 hb hc hs; have hbw := below_ch HY1.out.2.1 hc (Nat.le_refl _) (fun k hk => by have e : k = a1.heap.size := hk; have h1 := HG.out; omega); have HS33 := Lib.hid (show PmS s32 ⟨o, pe, pr, pq, pg⟩ (Value.slice ra rl rc) (Value.slice qa ql qc) (Value.slice ga gl gc) ∧ Below w.heap.size w s32 ∧ Blk s32 w.heap.size 24 (pmC o pe (Value.slice ra rl rc) (Value.slice qa ql qc) (Value.slice ga gl gc)) ∧ Blk s32 a1.heap.size 24 (pmC 0 0 (.slice none 0 0) (.slice none 0 0) (.slice none 0 0)) ∧ Blk s32 a2.heap.size 24 (pmC 0 0 (.slice none 0 0) (.slice none 0 0) (.slice none 0 0)) from ⟨HPS.out.below hbw, hbw, HY1.out.2.2.1.keep hc (fun e => by have e : w.heap.size = a1.heap.size := e; have h1 := HG.out; omega), hb, HY1.out.2.2.2.2.keep hc (fun e => by have e : a2.heap.size = a1.heap.size := e; have h1 := HG.out; omega)⟩); clear hb hc hs hbw))
    refine bodyPost_ret (results_cellTmp Try.results15 _ _ a1.heap.size _ _ rfl HS33.out.2.2.2.1 _ Try.underlying24 rfl (pmC_info _ _ _ _ _) _ rfl) rfl ?_
    rw [HRE.out]
    exact ⟨_, _, _, rfl, PmS.nil _, HS33.out.2.1, fun g w2 hg hc h => PmS.nil _⟩
  have HX2 := Lib.hid hx
  have d2 : (n == o) = false := by simpa using hx
  clear hx
  have HGO := Lib.hid (show ¬ argU ⟨o, pe, pr, pq, pg⟩ n from fun h => h.elim HX0.out (fun h => h.elim HX1.out HX2.out))
  have c3 := HY1.out.2.2.1.cell 3
  simp only [pmC, List.getElem?_cons_zero, List.getElem?_cons_succ] at c3
  go_wp2_with fail
  obtain ⟨z, hz⟩ : ∃ z, inB pq n = z := ⟨_, rfl⟩
  have HZ := Lib.hid hz
  have hx := rin_any (.slice qa ql qc) pq n y1 HY1.out.1.2.1
  rw [hz] at hx
  clear hz
  refine Calls.mono hx ?_
  clear hx
  rintro e' w9 ⟨rfl, rfl⟩
  cases z
  rotate_left
  · skip
    have HRE := Lib.hid (show RR = (noP, 5) from by rw [← HRR.out]; exact (chA_go HOK.out HBO.out HGO.out).trans (if_pos HZ.out))
    go_wp2_with (first
    | (with_reducible refine wpList_load_any rfl 24 (.tmp 10) rfl a2.heap.size 0 rfl (pmC 0 0 (.slice none 0 0) (.slice none 0 0) (.slice none 0 0)) _ (rangeW_blk HY1.out.2.2.2.2) Try.underlying24 rfl (pmC_info _ _ _ _ _) ?_)
    | ((with_reducible refine wpList_store_blk y1 rfl 24 (.tmp 8) (.tmp 75) rfl a1.heap.size 24 (pmC 0 0 (.slice none 0 0) (.slice none 0 0) (.slice none 0 0)) (pmC 0 0 (.slice none 0 0) (.slice none 0 0) (.slice none 0 0)) HY1.out.2.2.2.1 rfl rfl rfl (pmC_info _ _ _ _ _) (pmC_one _ _ _ _ _ _ _ _ _ _ _) ?_); intro s34 hb hc hs; have hbw := below_ch HY1.out.2.1 hc (Nat.le_refl _) (fun k hk => by have e : k = a1.heap.size := hk; have h1 := HG.out; omega); have HS35 := Lib.hid (show PmS s34 ⟨o, pe, pr, pq, pg⟩ (Value.slice ra rl rc) (Value.slice qa ql qc) (Value.slice ga gl gc) ∧ Below w.heap.size w s34 ∧ Blk s34 w.heap.size 24 (pmC o pe (Value.slice ra rl rc) (Value.slice qa ql qc) (Value.slice ga gl gc)) ∧ Blk s34 a1.heap.size 24 (pmC 0 0 (.slice none 0 0) (.slice none 0 0) (.slice none 0 0)) ∧ Blk s34 a2.heap.size 24 (pmC 0 0 (.slice none 0 0) (.slice none 0 0) (.slice none 0 0)) from ⟨HPS.out.below hbw, hbw, HY1.out.2.2.1.keep hc (fun e => by have e : w.heap.size = a1.heap.size := e; have h1 := HG.out; omega), hb, HY1.out.2.2.2.2.keep hc (fun e => by have e : a2.heap.size = a1.heap.size := e; have h1 := HG.out; omega)⟩); clear hb hc hs hbw))
    refine bodyPost_ret (results_cellTmp Try.results15 _ _ a1.heap.size _ _ rfl HS35.out.2.2.2.1 _ Try.underlying24 rfl (pmC_info _ _ _ _ _) _ rfl) rfl ?_
    rw [HRE.out]
    exact ⟨_, _, _, rfl, PmS.nil _, HS35.out.2.1, fun g w2 hg hc h => PmS.nil _⟩
  clear c0 c3
  go_wp2_with fail
  refine wp_region_marked (fun w' => w'.cell? ⟨w.heap.size, 2, none⟩ = some (.slice ra rl rc) ∧ w'.cell? ⟨w.heap.size, 3, none⟩ = some (.slice qa ql qc)) 9 [0, 1, 2, 4, 5] 7 (by kernel_rfl) rfl (by kernel_rfl) (by kernel_rfl) ⟨HY1.out.2.2.1.cell 2, HY1.out.2.2.1.cell 3⟩ ?_
  iterate 5 (refine' HeldL.run ?_ ?_ ?_ ?_; rotate_left 2; (simp only [List.getElem?_toArray, List.getElem?_cons_zero, List.getElem?_cons_succ]; rfl); rfl; (rintro w' ⟨k0, k1⟩; go_simp; with_reducible rfl); simp only [Act.put, List.setIfInBounds_toArray, List.set_cons_zero, List.set_cons_succ])
  have sm := (Sm.refl y1).drew
  have HV37 := Lib.hid (show PmS y1.drew ⟨o, pe, pr, pq, pg⟩ (Value.slice ra rl rc) (Value.slice qa ql qc) (Value.slice ga gl gc) ∧ Below w.heap.size w y1.drew ∧ Blk y1.drew w.heap.size 24 (pmC o pe (Value.slice ra rl rc) (Value.slice qa ql qc) (Value.slice ga gl gc)) ∧ Blk y1.drew a1.heap.size 24 (pmC 0 0 (.slice none 0 0) (.slice none 0 0) (.slice none 0 0)) ∧ Blk y1.drew a2.heap.size 24 (pmC 0 0 (.slice none 0 0) (.slice none 0 0) (.slice none 0 0)) from ⟨HY1.out.1.below (sm.below _), below_thn HY1.out.2.1 (sm.below _) (Nat.le_refl _), HY1.out.2.2.1.below (sm.below _) HY1.out.2.2.1.lt, HY1.out.2.2.2.1.below (sm.below _) HY1.out.2.2.2.1.lt, HY1.out.2.2.2.2.below (sm.below _) HY1.out.2.2.2.2.lt⟩)
  clear sm
  generalize y1.drew = v36 at HV37 ⊢
  refine wpAnyM_take0 (by kernel_rfl) noPanic_any (fuel := 6) (fun _ => ⟨HV37.out.2.2.1.cell 2, HV37.out.2.2.1.cell 3⟩) 6 (by kernel_rfl) ?_
  refine' HeldL.run ?_ ?_ ?_ ?_; rotate_left 2; (simp only [List.getElem?_toArray, List.getElem?_cons_zero, List.getElem?_cons_succ]; rfl); rfl; (rintro w' -; go_simp; with_reducible rfl); simp only [Act.put, List.setIfInBounds_toArray, List.set_cons_zero, List.set_cons_succ]
  refine' wpAnyM_one 3 (by kernel_rfl) ?_ ?_; rotate_left; (simp only [List.getElem?_toArray, List.getElem?_cons_zero, List.getElem?_cons_succ]; rfl)
  try simp only [Act.put]
  go_wp2_with fail
  refine (rset_any (.slice ra rl rc) pr n true v36 HV37.out.1.1).mono ?_
  rintro e' y38 ⟨m40a, m40l, m40c, rfl, hs, hb, hab⟩
  have HY39 := Lib.hid (show PmS y38 ⟨o, pe, pr, pq, pg⟩ (Value.slice ra rl rc) (Value.slice qa ql qc) (Value.slice ga gl gc) ∧ Below w.heap.size w y38 ∧ Blk y38 w.heap.size 24 (pmC o pe (Value.slice ra rl rc) (Value.slice qa ql qc) (Value.slice ga gl gc)) ∧ Blk y38 a1.heap.size 24 (pmC 0 0 (.slice none 0 0) (.slice none 0 0) (.slice none 0 0)) ∧ Blk y38 a2.heap.size 24 (pmC 0 0 (.slice none 0 0) (.slice none 0 0) (.slice none 0 0)) ∧ Sl y38 (.slice m40a m40l m40c) (ofK .i64 (setU pr n true 6)) ∧ (∀ k, (Value.slice m40a m40l m40c).ownBlock = some k → w.heap.size < k ∧ a1.heap.size < k) from ⟨HV37.out.1.below hb, below_thn HV37.out.2.1 hb (Nat.le_refl _), HV37.out.2.2.1.below hb HV37.out.2.2.1.lt, HV37.out.2.2.2.1.below hb HV37.out.2.2.2.1.lt, HV37.out.2.2.2.2.below hb HV37.out.2.2.2.2.lt, hs, fun k hk => by have h1 := hab k hk; have h2 := HV37.out.2.2.2.1.lt; have h3 := HG.out; omega⟩)
  clear hs hb hab
  go_wp2_with fail
  refine QK.normal ⟨fun _ => ⟨HY39.out.2.2.1.cell 2, HY39.out.2.2.1.cell 3⟩, ?_⟩
  refine wpAnyM_takes (by kernel_rfl) noPanic_any (fuel := 4) ⟨HY39.out.2.2.1.cell 2, HY39.out.2.2.1.cell 3⟩ [8] _ _ (by kernel_rfl) ?_
  refine' HeldL.run ?_ ?_ ?_ ?_; rotate_left 2; (simp only [List.getElem?_toArray, List.getElem?_cons_zero, List.getElem?_cons_succ]; rfl); rfl; (rintro w' ⟨k0, k1⟩; go_simp; with_reducible rfl); simp only [Act.put, List.setIfInBounds_toArray, List.set_cons_zero, List.set_cons_succ]
  refine' wpAnyM_one 7 (by kernel_rfl) ?_ ?_; rotate_left; (simp only [List.getElem?_toArray, List.getElem?_cons_zero, List.getElem?_cons_succ]; rfl)
  try simp only [Act.put]
  go_wp2_with fail
  refine (rset_any (.slice qa ql qc) pq n true y38 HY39.out.1.2.1).mono ?_
  rintro e' y41 ⟨m43a, m43l, m43c, rfl, hs, hb, hab⟩
  have HY42 := Lib.hid (show PmS y41 ⟨o, pe, pr, pq, pg⟩ (Value.slice ra rl rc) (Value.slice qa ql qc) (Value.slice ga gl gc) ∧ Below w.heap.size w y41 ∧ Blk y41 w.heap.size 24 (pmC o pe (Value.slice ra rl rc) (Value.slice qa ql qc) (Value.slice ga gl gc)) ∧ Blk y41 a1.heap.size 24 (pmC 0 0 (.slice none 0 0) (.slice none 0 0) (.slice none 0 0)) ∧ Blk y41 a2.heap.size 24 (pmC 0 0 (.slice none 0 0) (.slice none 0 0) (.slice none 0 0)) ∧ Sl y41 (.slice m40a m40l m40c) (ofK .i64 (setU pr n true 6)) ∧ (∀ k, (Value.slice m40a m40l m40c).ownBlock = some k → w.heap.size < k ∧ a1.heap.size < k) ∧ Sl y41 (.slice m43a m43l m43c) (ofK .i64 (setU pq n true 6)) ∧ (∀ k, (Value.slice m43a m43l m43c).ownBlock = some k → w.heap.size < k ∧ a1.heap.size < k) from ⟨HY39.out.1.below hb, below_thn HY39.out.2.1 hb (Nat.le_refl _), HY39.out.2.2.1.below hb HY39.out.2.2.1.lt, HY39.out.2.2.2.1.below hb HY39.out.2.2.2.1.lt, HY39.out.2.2.2.2.1.below hb HY39.out.2.2.2.2.1.lt, HY39.out.2.2.2.2.2.1.below hb (Nat.le_refl _), HY39.out.2.2.2.2.2.2, hs, fun k hk => by have h1 := hab k hk; have h2 := HY39.out.2.2.2.1.lt; have h3 := HG.out; omega⟩)
  clear hs hb hab
  go_wp2_with fail
  refine QK.normal ⟨fun _ => ⟨HY42.out.2.2.1.cell 2, HY42.out.2.2.1.cell 3⟩, ?_⟩
  refine' wpAnyM_one 9 (by kernel_rfl) ?_ ?_; rotate_left; (simp only [List.getElem?_toArray, List.getElem?_cons_zero, List.getElem?_cons_succ]; rfl)
  ((with_reducible refine wpList_store1 y41 rfl 22 (.tmp 84) (.tmp 79) rfl w.heap.size 2 24 (pmC o pe (Value.slice ra rl rc) (Value.slice qa ql qc) (Value.slice ga gl gc)) HY42.out.2.2.1 rfl (.slice m40a m40l m40c) rfl (by simp [pmC]) Try.sizeIs1 rfl rfl ?_); intro s44 hb hc hs; have hbw := below_ch HY42.out.2.1 hc (Nat.le_refl _) (fun k hk => by have e : k = w.heap.size := hk; have h1 := HG.out; omega); have HS45 := Lib.hid (show PmS s44 ⟨o, pe, pr, pq, pg⟩ (Value.slice ra rl rc) (Value.slice qa ql qc) (Value.slice ga gl gc) ∧ Below w.heap.size w s44 ∧ Blk s44 w.heap.size 24 (pmC o pe (Value.slice m40a m40l m40c) (Value.slice qa ql qc) (Value.slice ga gl gc)) ∧ Blk s44 a1.heap.size 24 (pmC 0 0 (.slice none 0 0) (.slice none 0 0) (.slice none 0 0)) ∧ Blk s44 a2.heap.size 24 (pmC 0 0 (.slice none 0 0) (.slice none 0 0) (.slice none 0 0)) ∧ Sl s44 (.slice m40a m40l m40c) (ofK .i64 (setU pr n true 6)) ∧ (∀ k, (Value.slice m40a m40l m40c).ownBlock = some k → w.heap.size < k ∧ a1.heap.size < k) ∧ Sl s44 (.slice m43a m43l m43c) (ofK .i64 (setU pq n true 6)) ∧ (∀ k, (Value.slice m43a m43l m43c).ownBlock = some k → w.heap.size < k ∧ a1.heap.size < k) from ⟨HPS.out.below hbw, hbw, hb, HY42.out.2.2.2.1.keep hc (fun e => by have e : a1.heap.size = w.heap.size := e; have h1 := HG.out; omega), HY42.out.2.2.2.2.1.keep hc (fun e => by have e : a2.heap.size = w.heap.size := e; have h1 := HG.out; omega), HY42.out.2.2.2.2.2.1.keep hc (fun k hk e => by have e : k = w.heap.size := e; have := HY42.out.2.2.2.2.2.2.1 k hk; have h1 := HG.out; omega), HY42.out.2.2.2.2.2.2.1, HY42.out.2.2.2.2.2.2.2.1.keep hc (fun k hk e => by have e : k = w.heap.size := e; have := HY42.out.2.2.2.2.2.2.2.2 k hk; have h1 := HG.out; omega), HY42.out.2.2.2.2.2.2.2.2⟩); clear hb hc hs hbw)
  try simp only [Act.put, List.setIfInBounds_toArray, List.set_cons_zero, List.set_cons_succ]
  refine QK.normal ⟨fun h => absurd h (by decide), ?_⟩
  refine' wpAnyM_one 10 (by kernel_rfl) ?_ ?_; rotate_left; (simp only [List.getElem?_toArray, List.getElem?_cons_zero, List.getElem?_cons_succ]; rfl)
  try simp only [Act.put]
  go_wp2_with fail
  refine QK.normal ⟨fun h => absurd h (by decide), ?_⟩
  refine' wpAnyM_one 11 (by kernel_rfl) ?_ ?_; rotate_left; (simp only [List.getElem?_toArray, List.getElem?_cons_zero, List.getElem?_cons_succ]; rfl)
  ((with_reducible refine wpList_store1 s44 rfl 22 (.tmp 85) (.tmp 83) rfl w.heap.size 3 24 (pmC o pe (Value.slice m40a m40l m40c) (Value.slice qa ql qc) (Value.slice ga gl gc)) HS45.out.2.2.1 rfl (.slice m43a m43l m43c) rfl (by simp [pmC]) Try.sizeIs1 rfl rfl ?_); intro s46 hb hc hs; have hbw := below_ch HS45.out.2.1 hc (Nat.le_refl _) (fun k hk => by have e : k = w.heap.size := hk; have h1 := HG.out; omega); have HS47 := Lib.hid (show PmS s46 ⟨o, pe, pr, pq, pg⟩ (Value.slice ra rl rc) (Value.slice qa ql qc) (Value.slice ga gl gc) ∧ Below w.heap.size w s46 ∧ Blk s46 w.heap.size 24 (pmC o pe (Value.slice m40a m40l m40c) (Value.slice m43a m43l m43c) (Value.slice ga gl gc)) ∧ Blk s46 a1.heap.size 24 (pmC 0 0 (.slice none 0 0) (.slice none 0 0) (.slice none 0 0)) ∧ Blk s46 a2.heap.size 24 (pmC 0 0 (.slice none 0 0) (.slice none 0 0) (.slice none 0 0)) ∧ Sl s46 (.slice m40a m40l m40c) (ofK .i64 (setU pr n true 6)) ∧ (∀ k, (Value.slice m40a m40l m40c).ownBlock = some k → w.heap.size < k ∧ a1.heap.size < k) ∧ Sl s46 (.slice m43a m43l m43c) (ofK .i64 (setU pq n true 6)) ∧ (∀ k, (Value.slice m43a m43l m43c).ownBlock = some k → w.heap.size < k ∧ a1.heap.size < k) from ⟨HPS.out.below hbw, hbw, hb, HS45.out.2.2.2.1.keep hc (fun e => by have e : a1.heap.size = w.heap.size := e; have h1 := HG.out; omega), HS45.out.2.2.2.2.1.keep hc (fun e => by have e : a2.heap.size = w.heap.size := e; have h1 := HG.out; omega), HS45.out.2.2.2.2.2.1.keep hc (fun k hk e => by have e : k = w.heap.size := e; have := HS45.out.2.2.2.2.2.2.1 k hk; have h1 := HG.out; omega), HS45.out.2.2.2.2.2.2.1, HS45.out.2.2.2.2.2.2.2.1.keep hc (fun k hk e => by have e : k = w.heap.size := e; have := HS45.out.2.2.2.2.2.2.2.2 k hk; have h1 := HG.out; omega), HS45.out.2.2.2.2.2.2.2.2⟩); clear hb hc hs hbw)
  try simp only [Act.put, List.setIfInBounds_toArray, List.set_cons_zero, List.set_cons_succ]
  refine QK.normal ⟨fun h => absurd h (by decide), ?_⟩
  refine wpAnyM_done (by kernel_rfl) ?_ _
  refine NoPanic.normal ?_
  have HRE := Lib.hid (show RR = (⟨o, pe, setU pr n true 6, setU pq n true 6, pg⟩, 0) from by rw [← HRR.out]; exact (chA_go HOK.out HBO.out HGO.out).trans (if_neg (by rw [HZ.out]; simp)))
  go_wp2_with (first
    | (with_reducible refine wpList_load_any rfl 24 (.tmp 4) rfl w.heap.size 0 rfl (pmC o pe (Value.slice m40a m40l m40c) (Value.slice m43a m43l m43c) (Value.slice ga gl gc)) _ (rangeW_blk HS47.out.2.2.1) Try.underlying24 rfl (pmC_info _ _ _ _ _) ?_)
    | ((with_reducible refine wpList_store_blk s46 rfl 24 (.tmp 8) (.tmp 137) rfl a1.heap.size 24 (pmC 0 0 (.slice none 0 0) (.slice none 0 0) (.slice none 0 0)) (pmC o pe (Value.slice m40a m40l m40c) (Value.slice m43a m43l m43c) (Value.slice ga gl gc)) HS47.out.2.2.2.1 rfl rfl rfl (pmC_info _ _ _ _ _) (pmC_one _ _ _ _ _ _ _ _ _ _ _) ?_); intro s48 hb hc hs; have hbw := below_ch HS47.out.2.1 hc (Nat.le_refl _) (fun k hk => by have e : k = a1.heap.size := hk; have h1 := HG.out; omega); have HS49 := Lib.hid (show PmS s48 ⟨o, pe, pr, pq, pg⟩ (Value.slice ra rl rc) (Value.slice qa ql qc) (Value.slice ga gl gc) ∧ Below w.heap.size w s48 ∧ Blk s48 w.heap.size 24 (pmC o pe (Value.slice m40a m40l m40c) (Value.slice m43a m43l m43c) (Value.slice ga gl gc)) ∧ Blk s48 a1.heap.size 24 (pmC o pe (Value.slice m40a m40l m40c) (Value.slice m43a m43l m43c) (Value.slice ga gl gc)) ∧ Blk s48 a2.heap.size 24 (pmC 0 0 (.slice none 0 0) (.slice none 0 0) (.slice none 0 0)) ∧ Sl s48 (.slice m40a m40l m40c) (ofK .i64 (setU pr n true 6)) ∧ (∀ k, (Value.slice m40a m40l m40c).ownBlock = some k → w.heap.size < k ∧ a1.heap.size < k) ∧ Sl s48 (.slice m43a m43l m43c) (ofK .i64 (setU pq n true 6)) ∧ (∀ k, (Value.slice m43a m43l m43c).ownBlock = some k → w.heap.size < k ∧ a1.heap.size < k) from ⟨HPS.out.below hbw, hbw, HS47.out.2.2.1.keep hc (fun e => by have e : w.heap.size = a1.heap.size := e; have h1 := HG.out; omega), hb, HS47.out.2.2.2.2.1.keep hc (fun e => by have e : a2.heap.size = a1.heap.size := e; have h1 := HG.out; omega), HS47.out.2.2.2.2.2.1.keep hc (fun k hk e => by have e : k = a1.heap.size := e; have := HS47.out.2.2.2.2.2.2.1 k hk; have h1 := HG.out; omega), HS47.out.2.2.2.2.2.2.1, HS47.out.2.2.2.2.2.2.2.1.keep hc (fun k hk e => by have e : k = a1.heap.size := e; have := HS47.out.2.2.2.2.2.2.2.2 k hk; have h1 := HG.out; omega), HS47.out.2.2.2.2.2.2.2.2⟩); clear hb hc hs hbw))
  refine bodyPost_ret (results_cellTmp Try.results15 _ _ a1.heap.size _ _ rfl HS49.out.2.2.2.1 _ Try.underlying24 rfl (pmC_info _ _ _ _ _) _ rfl) rfl ?_
  rw [HRE.out]
  exact ⟨_, _, _, rfl, ⟨HS49.out.2.2.2.2.2.1, HS49.out.2.2.2.2.2.2.2.1, HS49.out.1.2.2⟩, HS49.out.2.1, fun g w2 hg hc h => ⟨HS49.out.2.2.2.2.2.1.keep hc (fun k hk e => by have e : k = g := e; have := HS49.out.2.2.2.2.2.2.1 k hk; omega), HS49.out.2.2.2.2.2.2.2.1.keep hc (fun k hk e => by have e : k = g := e; have := HS49.out.2.2.2.2.2.2.2.2 k hk; omega), h.2.2⟩⟩


set_option maxRecDepth 100000 in
set_option maxHeartbeats 8000000 in
theorem rchange2_any (p : PmD) (vr vq vg : Value) (b n : Int) (w : World) (hp : PmS w p vr vq vg) :
    Calls Try.prog 15 #[.agg (pmC p.o p.e vr vq vg).toArray, .int .i64 2, .int .i64 b, .int .i64 n] w (RefP w p vr vq vg (ch2 p b n)) := by
  obtain ⟨ra, rc, rfl, -⟩ := hp.1.shape
  obtain ⟨qa, qc, rfl, -⟩ := hp.2.1.shape
  obtain ⟨ga, gc, rfl, -⟩ := hp.2.2.shape
  obtain ⟨o, pe, pr, pq, pg⟩ := p
  simp only at hp ⊢
  simp only [length_ofK] at hp ⊢
  generalize pr.length = rl at hp ⊢
  generalize pq.length = ql at hp ⊢
  generalize pg.length = gl at hp ⊢
  have HPS := Lib.hid hp
  obtain ⟨ok, hok⟩ : ∃ x, okB ⟨o, pe, pr, pq, pg⟩ = x := ⟨_, rfl⟩
  have HOK := Lib.hid hok
  obtain ⟨RR, hRR⟩ : ∃ x, ch2 ⟨o, pe, pr, pq, pg⟩ b n = x := ⟨_, rfl⟩
  rw [hRR]
  have HRR := Lib.hid hRR
  have H0 := Lib.hid (show PmS w ⟨o, pe, pr, pq, pg⟩ (Value.slice ra rl rc) (Value.slice qa ql qc) (Value.slice ga gl gc) ∧ Below w.heap.size w w from ⟨hp, Below.refl _ _⟩)
  clear hp hok hRR
  go_enter Try.func15, Try.ntmps15
  go_wp2_with (first
    | ((with_reducible refine wpList_box_blk w rfl 24 (.tmp 0) rfl (pmC o pe (Value.slice ra rl rc) (Value.slice qa ql qc) (Value.slice ga gl gc)) rfl ?_); intro a1 hb hbel hsz; have HA1 := Lib.hid (show PmS a1 ⟨o, pe, pr, pq, pg⟩ (Value.slice ra rl rc) (Value.slice qa ql qc) (Value.slice ga gl gc) ∧ Below w.heap.size w a1 ∧ Blk a1 w.heap.size 24 (pmC o pe (Value.slice ra rl rc) (Value.slice qa ql qc) (Value.slice ga gl gc)) from ⟨H0.out.1.below hbel, below_thn H0.out.2 hbel (Nat.le_refl _), hb⟩); clear hb hbel hsz)
    | ((with_reducible refine wpList_alloc_blk a1 rfl 24 rfl (pmC 0 0 (.slice none 0 0) (.slice none 0 0) (.slice none 0 0)) Try.zeroPm ?_); intro a2 hb hbel hsz; have HA2 := Lib.hid (show PmS a2 ⟨o, pe, pr, pq, pg⟩ (Value.slice ra rl rc) (Value.slice qa ql qc) (Value.slice ga gl gc) ∧ Below w.heap.size w a2 ∧ Blk a2 w.heap.size 24 (pmC o pe (Value.slice ra rl rc) (Value.slice qa ql qc) (Value.slice ga gl gc)) ∧ Blk a2 a1.heap.size 24 (pmC 0 0 (.slice none 0 0) (.slice none 0 0) (.slice none 0 0)) from ⟨HA1.out.1.below hbel, below_thn HA1.out.2.1 hbel (Nat.le_refl _), HA1.out.2.2.below hbel HA1.out.2.2.lt, hb⟩); clear hb hbel hsz)
    | ((with_reducible refine wpList_build_zeroPm rfl rfl ?_))
    | ((with_reducible refine wpList_alloc_blk a2 rfl 24 rfl (pmC 0 0 (.slice none 0 0) (.slice none 0 0) (.slice none 0 0)) Try.zeroPm ?_); intro a3 hb hbel hsz; have HA3 := Lib.hid (show PmS a3 ⟨o, pe, pr, pq, pg⟩ (Value.slice ra rl rc) (Value.slice qa ql qc) (Value.slice ga gl gc) ∧ Below w.heap.size w a3 ∧ Blk a3 w.heap.size 24 (pmC o pe (Value.slice ra rl rc) (Value.slice qa ql qc) (Value.slice ga gl gc)) ∧ Blk a3 a1.heap.size 24 (pmC 0 0 (.slice none 0 0) (.slice none 0 0) (.slice none 0 0)) ∧ Blk a3 a2.heap.size 24 (pmC 0 0 (.slice none 0 0) (.slice none 0 0) (.slice none 0 0)) from ⟨HA2.out.1.below hbel, below_thn HA2.out.2.1 hbel (Nat.le_refl _), HA2.out.2.2.1.below hbel HA2.out.2.2.1.lt, HA2.out.2.2.2.below hbel HA2.out.2.2.2.lt, hb⟩); have HG := Lib.hid (show w.heap.size < a1.heap.size ∧ a1.heap.size < a2.heap.size from ⟨HA1.out.2.2.lt, HA2.out.2.2.2.lt⟩); clear hb hbel hsz)
    | ((with_reducible refine wpList_store_blk a3 rfl 24 (.tmp 10) (.tmp 11) rfl a2.heap.size 24 (pmC 0 0 (.slice none 0 0) (.slice none 0 0) (.slice none 0 0)) (pmC 0 0 (.slice none 0 0) (.slice none 0 0) (.slice none 0 0)) HA3.out.2.2.2.2 rfl rfl rfl (pmC_info _ _ _ _ _) (pmC_one _ _ _ _ _ _ _ _ _ _ _) ?_); intro s50 hb hc hs; have hbw := below_ch HA3.out.2.1 hc (Nat.le_refl _) (fun k hk => by have e : k = a2.heap.size := hk; have h1 := HG.out; omega); have HS51 := Lib.hid (show PmS s50 ⟨o, pe, pr, pq, pg⟩ (Value.slice ra rl rc) (Value.slice qa ql qc) (Value.slice ga gl gc) ∧ Below w.heap.size w s50 ∧ Blk s50 w.heap.size 24 (pmC o pe (Value.slice ra rl rc) (Value.slice qa ql qc) (Value.slice ga gl gc)) ∧ Blk s50 a1.heap.size 24 (pmC 0 0 (.slice none 0 0) (.slice none 0 0) (.slice none 0 0)) ∧ Blk s50 a2.heap.size 24 (pmC 0 0 (.slice none 0 0) (.slice none 0 0) (.slice none 0 0)) from ⟨HPS.out.below hbw, hbw, HA3.out.2.2.1.keep hc (fun e => by have e : w.heap.size = a2.heap.size := e; have h1 := HG.out; omega), HA3.out.2.2.2.1.keep hc (fun e => by have e : a1.heap.size = a2.heap.size := e; have h1 := HG.out; omega), hb⟩); clear hb hc hs hbw)
    | (with_reducible refine wpList_load_any rfl 24 (.tmp 4) rfl w.heap.size 0 rfl (pmC o pe (Value.slice ra rl rc) (Value.slice qa ql qc) (Value.slice ga gl gc)) _ (rangeW_blk HS51.out.2.2.1) Try.underlying24 rfl (pmC_info _ _ _ _ _) ?_))
  have hx := rright_any ⟨o, pe, pr, pq, pg⟩ _ _ _ s50 HS51.out.1
  rw [HOK.out] at hx
  refine Calls.mono hx ?_
  clear hx
  rintro e' y1 ⟨rfl, hb⟩
  have HY1 := Lib.hid (show PmS y1 ⟨o, pe, pr, pq, pg⟩ (Value.slice ra rl rc) (Value.slice qa ql qc) (Value.slice ga gl gc) ∧ Below w.heap.size w y1 ∧ Blk y1 w.heap.size 24 (pmC o pe (Value.slice ra rl rc) (Value.slice qa ql qc) (Value.slice ga gl gc)) ∧ Blk y1 a1.heap.size 24 (pmC 0 0 (.slice none 0 0) (.slice none 0 0) (.slice none 0 0)) ∧ Blk y1 a2.heap.size 24 (pmC 0 0 (.slice none 0 0) (.slice none 0 0) (.slice none 0 0)) from ⟨HS51.out.1.below hb, below_thn HS51.out.2.1 hb (Nat.le_refl _), HS51.out.2.2.1.below hb HS51.out.2.2.1.lt, HS51.out.2.2.2.1.below hb HS51.out.2.2.2.1.lt, HS51.out.2.2.2.2.below hb HS51.out.2.2.2.2.lt⟩)
  clear hb HA1 HA2 HA3 HS51
  cases ok
  · skip
    have HRE := Lib.hid (show RR = (noP, 210) from by rw [← HRR.out]; exact chA_perm HOK.out)
    go_wp2_with (first
    | (with_reducible refine wpList_load_any rfl 24 (.tmp 10) rfl a2.heap.size 0 rfl (pmC 0 0 (.slice none 0 0) (.slice none 0 0) (.slice none 0 0)) _ (rangeW_blk HY1.out.2.2.2.2) Try.underlying24 rfl (pmC_info _ _ _ _ _) ?_)
    | ((with_reducible refine wpList_store_blk y1 rfl 24 (.tmp 8) (.tmp 15) rfl a1.heap.size 24 (pmC 0 0 (.slice none 0 0) (.slice none 0 0) (.slice none 0 0)) (pmC 0 0 (.slice none 0 0) (.slice none 0 0) (.slice none 0 0)) HY1.out.2.2.2.1 rfl rfl rfl (pmC_info _ _ _ _ _) (pmC_one _ _ _ _ _ _ _ _ _ _ _) ?_); intro s52 hb hc hs; have hbw := below_ch HY1.out.2.1 hc (Nat.le_refl _) (fun k hk => by have e : k = a1.heap.size := hk; have h1 := HG.out; omega); have HS53 := Lib.hid (show PmS s52 ⟨o, pe, pr, pq, pg⟩ (Value.slice ra rl rc) (Value.slice qa ql qc) (Value.slice ga gl gc) ∧ Below w.heap.size w s52 ∧ Blk s52 w.heap.size 24 (pmC o pe (Value.slice ra rl rc) (Value.slice qa ql qc) (Value.slice ga gl gc)) ∧ Blk s52 a1.heap.size 24 (pmC 0 0 (.slice none 0 0) (.slice none 0 0) (.slice none 0 0)) ∧ Blk s52 a2.heap.size 24 (pmC 0 0 (.slice none 0 0) (.slice none 0 0) (.slice none 0 0)) from ⟨HPS.out.below hbw, hbw, HY1.out.2.2.1.keep hc (fun e => by have e : w.heap.size = a1.heap.size := e; have h1 := HG.out; omega), hb, HY1.out.2.2.2.2.keep hc (fun e => by have e : a2.heap.size = a1.heap.size := e; have h1 := HG.out; omega)⟩); clear hb hc hs hbw))
    refine bodyPost_ret (results_cellTmp Try.results15 _ _ a1.heap.size _ _ rfl HS53.out.2.2.2.1 _ Try.underlying24 rfl (pmC_info _ _ _ _ _) _ rfl) rfl ?_
    rw [HRE.out]
    exact ⟨_, _, _, rfl, PmS.nil _, HS53.out.2.1, fun g w2 hg hc h => PmS.nil _⟩
  have HE := Lib.hid (okB_iff.1 HOK.out).e
  have c0 := HY1.out.2.2.1.cell 0
  simp only [pmC, List.getElem?_cons_zero, List.getElem?_cons_succ] at c0
  by_cases hbo : b = o
  rotate_left
  · have e1 : (b != o) = true := by simpa using hbo
    have HBO := Lib.hid hbo
    clear hbo
    have HRE := Lib.hid (show RR = (noP, 211) from by rw [← HRR.out]; exact chA_owner HOK.out HBO.out)
    go_wp2_with (first
    | (with_reducible refine wpList_load_any rfl 24 (.tmp 10) rfl a2.heap.size 0 rfl (pmC 0 0 (.slice none 0 0) (.slice none 0 0) (.slice none 0 0)) _ (rangeW_blk HY1.out.2.2.2.2) Try.underlying24 rfl (pmC_info _ _ _ _ _) ?_)
    | ((with_reducible refine wpList_store_blk y1 rfl 24 (.tmp 8) (.tmp 26) rfl a1.heap.size 24 (pmC 0 0 (.slice none 0 0) (.slice none 0 0) (.slice none 0 0)) (pmC 0 0 (.slice none 0 0) (.slice none 0 0) (.slice none 0 0)) HY1.out.2.2.2.1 rfl rfl rfl (pmC_info _ _ _ _ _) (pmC_one _ _ _ _ _ _ _ _ _ _ _) ?_); intro s54 hb hc hs; have hbw := below_ch HY1.out.2.1 hc (Nat.le_refl _) (fun k hk => by have e : k = a1.heap.size := hk; have h1 := HG.out; omega); have HS55 := Lib.hid (show PmS s54 ⟨o, pe, pr, pq, pg⟩ (Value.slice ra rl rc) (Value.slice qa ql qc) (Value.slice ga gl gc) ∧ Below w.heap.size w s54 ∧ Blk s54 w.heap.size 24 (pmC o pe (Value.slice ra rl rc) (Value.slice qa ql qc) (Value.slice ga gl gc)) ∧ Blk s54 a1.heap.size 24 (pmC 0 0 (.slice none 0 0) (.slice none 0 0) (.slice none 0 0)) ∧ Blk s54 a2.heap.size 24 (pmC 0 0 (.slice none 0 0) (.slice none 0 0) (.slice none 0 0)) from ⟨HPS.out.below hbw, hbw, HY1.out.2.2.1.keep hc (fun e => by have e : w.heap.size = a1.heap.size := e; have h1 := HG.out; omega), hb, HY1.out.2.2.2.2.keep hc (fun e => by have e : a2.heap.size = a1.heap.size := e; have h1 := HG.out; omega)⟩); clear hb hc hs hbw))
    refine bodyPost_ret (results_cellTmp Try.results15 _ _ a1.heap.size _ _ rfl HS55.out.2.2.2.1 _ Try.underlying24 rfl (pmC_info _ _ _ _ _) _ rfl) rfl ?_
    rw [HRE.out]
    exact ⟨_, _, _, rfl, PmS.nil _, HS55.out.2.1, fun g w2 hg hc h => PmS.nil _⟩
  have e1 : (b != o) = false := by simpa using hbo
  have HBO := Lib.hid hbo
  clear hbo
  by_cases hx : n < 1
  · have HX := Lib.hid hx
    have d0 : decide (n < 1) = true := by simpa using hx
    clear hx
    have HRE := Lib.hid (show RR = (noP, 2) from by rw [← HRR.out]; exact chA_arg HOK.out HBO.out (show argU ⟨o, pe, pr, pq, pg⟩ n from .inl HX.out))
    go_wp2_with (first
    | (with_reducible refine wpList_load_any rfl 24 (.tmp 10) rfl a2.heap.size 0 rfl (pmC 0 0 (.slice none 0 0) (.slice none 0 0) (.slice none 0 0)) _ (rangeW_blk HY1.out.2.2.2.2) Try.underlying24 rfl (pmC_info _ _ _ _ _) ?_)
    | ((with_reducible refine wpList_store_blk y1 rfl 24 (.tmp 8) (.tmp 55) rfl a1.heap.size 24 (pmC 0 0 (.slice none 0 0) (.slice none 0 0) (.slice none 0 0)) (pmC 0 0 (.slice none 0 0) (.slice none 0 0) (.slice none 0 0)) HY1.out.2.2.2.1 rfl rfl rfl (pmC_info _ _ _ _ _) (pmC_one _ _ _ _ _ _ _ _ _ _ _) ?_); intro s56 hb hc hs; have hbw := below_ch HY1.out.2.1 hc (Nat.le_refl _) (fun k hk => by have e : k = a1.heap.size := hk; have h1 := HG.out; omega); have HS57 := Lib.hid (show PmS s56 ⟨o, pe, pr, pq, pg⟩ (Value.slice ra rl rc) (Value.slice qa ql qc) (Value.slice ga gl gc) ∧ Below w.heap.size w s56 ∧ Blk s56 w.heap.size 24 (pmC o pe (Value.slice ra rl rc) (Value.slice qa ql qc) (Value.slice ga gl gc)) ∧ Blk s56 a1.heap.size 24 (pmC 0 0 (.slice none 0 0) (.slice none 0 0) (.slice none 0 0)) ∧ Blk s56 a2.heap.size 24 (pmC 0 0 (.slice none 0 0) (.slice none 0 0) (.slice none 0 0)) from ⟨HPS.out.below hbw, hbw, HY1.out.2.2.1.keep hc (fun e => by have e : w.heap.size = a1.heap.size := e; have h1 := HG.out; omega), hb, HY1.out.2.2.2.2.keep hc (fun e => by have e : a2.heap.size = a1.heap.size := e; have h1 := HG.out; omega)⟩); clear hb hc hs hbw))
    refine bodyPost_ret (results_cellTmp Try.results15 _ _ a1.heap.size _ _ rfl HS57.out.2.2.2.1 _ Try.underlying24 rfl (pmC_info _ _ _ _ _) _ rfl) rfl ?_
    rw [HRE.out]
    exact ⟨_, _, _, rfl, PmS.nil _, HS57.out.2.1, fun g w2 hg hc h => PmS.nil _⟩
  have HX0 := Lib.hid hx
  have d0 : decide (n < 1) = false := by simpa using hx
  clear hx
  by_cases hx : 6 < n
  · have HX := Lib.hid hx
    have d1 : decide (6 < n) = true := by simpa using hx
    clear hx
    have HRE := Lib.hid (show RR = (noP, 2) from by rw [← HRR.out]; exact chA_arg HOK.out HBO.out (show argU ⟨o, pe, pr, pq, pg⟩ n from .inr (.inl HX.out)))
    go_wp2_with (first
    | (with_reducible refine wpList_load_any rfl 24 (.tmp 10) rfl a2.heap.size 0 rfl (pmC 0 0 (.slice none 0 0) (.slice none 0 0) (.slice none 0 0)) _ (rangeW_blk HY1.out.2.2.2.2) Try.underlying24 rfl (pmC_info _ _ _ _ _) ?_)
    | ((with_reducible refine wpList_store_blk y1 rfl 24 (.tmp 8) (.tmp 55) rfl a1.heap.size 24 (pmC 0 0 (.slice none 0 0) (.slice none 0 0) (.slice none 0 0)) (pmC 0 0 (.slice none 0 0) (.slice none 0 0) (.slice none 0 0)) HY1.out.2.2.2.1 rfl rfl rfl (pmC_info _ _ _ _ _) (pmC_one _ _ _ _ _ _ _ _ _ _ _) ?_); intro s58 hb hc hs; have hbw := below_ch HY1.out.2.1 hc (Nat.le_refl _) (fun k hk => by have e : k = a1.heap.size := hk; have h1 := HG.out; omega); have HS59 := Lib.hid (show PmS s58 ⟨o, pe, pr, pq, pg⟩ (Value.slice ra rl rc) (Value.slice qa ql qc) (Value.slice ga gl gc) ∧ Below w.heap.size w s58 ∧ Blk s58 w.heap.size 24 (pmC o pe (Value.slice ra rl rc) (Value.slice qa ql qc) (Value.slice ga gl gc)) ∧ Blk s58 a1.heap.size 24 (pmC 0 0 (.slice none 0 0) (.slice none 0 0) (.slice none 0 0)) ∧ Blk s58 a2.heap.size 24 (pmC 0 0 (.slice none 0 0) (.slice none 0 0) (.slice none 0 0)) from ⟨HPS.out.below hbw, hbw, HY1.out.2.2.1.keep hc (fun e => by have e : w.heap.size = a1.heap.size := e; have h1 := HG.out; omega), hb, HY1.out.2.2.2.2.keep hc (fun e => by have e : a2.heap.size = a1.heap.size := e; have h1 := HG.out; omega)⟩); clear hb hc hs hbw))
    refine bodyPost_ret (results_cellTmp Try.results15 _ _ a1.heap.size _ _ rfl HS59.out.2.2.2.1 _ Try.underlying24 rfl (pmC_info _ _ _ _ _) _ rfl) rfl ?_
    rw [HRE.out]
    exact ⟨_, _, _, rfl, PmS.nil _, HS59.out.2.1, fun g w2 hg hc h => PmS.nil _⟩
  have HX1 := Lib.hid hx
  have d1 : decide (6 < n) = false := by simpa using hx
  clear hx
  by_cases hx : n = o
  · have HX := Lib.hid hx
    have d2 : (n == o) = true := by simpa using hx
    clear hx
    have HRE := Lib.hid (show RR = (noP, 2) from by rw [← HRR.out]; exact chA_arg HOK.out HBO.out (show argU ⟨o, pe, pr, pq, pg⟩ n from .inr (.inr HX.out)))
    go_wp2_with (first
    | (with_reducible refine wpList_load_any rfl 24 (.tmp 10) rfl a2.heap.size 0 rfl (pmC 0 0 (.slice none 0 0) (.slice none 0 0) (.slice none 0 0)) _ (rangeW_blk HY1.out.2.2.2.2) Try.underlying24 rfl (pmC_info _ _ _ _ _) ?_)
    | ((with_reducible refine wpList_store_blk y1 rfl 24 (.tmp 8) (.tmp 55) rfl a1.heap.size 24 (pmC 0 0 (.slice none 0 0) (.slice none 0 0) (.slice none 0 0)) (pmC 0 0 (.slice none 0 0) (.slice none 0 0) (.slice none 0 0)) HY1.out.2.2.2.1 rfl rfl rfl (pmC_info _ _ _ _ _) (pmC_one _ _ _ _ _ _ _ _ _ _ _) ?_); intro s60 hb hc hs; have hbw := below_ch HY1.out.2.1 hc (Nat.le_refl _) (fun k hk => by have e : k = a1.heap.size := hk; have h1 := HG.out; omega); have HS61 := Lib.hid (show PmS s60 ⟨o, pe, pr, pq, pg⟩ (Value.slice ra rl rc) (Value.slice qa ql qc) (Value.slice ga gl gc) ∧ Below w.heap.size w s60 ∧ Blk s60 w.heap.size 24 (pmC o pe (Value.slice ra rl rc) (Value.slice qa ql qc) (Value.slice ga gl gc)) ∧ Blk s60 a1.heap.size 24 (pmC 0 0 (.slice none 0 0) (.slice none 0 0) (.slice none 0 0)) ∧ Blk s60 a2.heap.size 24 (pmC 0 0 (.slice none 0 0) (.slice none 0 0) (.slice none 0 0)) from ⟨HPS.out.below hbw, hbw, HY1.out.2.2.1.keep hc (fun e => by have e : w.heap.size = a1.heap.size := e; have h1 := HG.out; omega), hb, HY1.out.2.2.2.2.keep hc (fun e => by have e : a2.heap.size = a1.heap.size := e; have h1 := HG.out; omega)⟩); clear hb hc hs hbw))
    refine bodyPost_ret (results_cellTmp Try.results15 _ _ a1.heap.size _ _ rfl HS61.out.2.2.2.1 _ Try.underlying24 rfl (pmC_info _ _ _ _ _) _ rfl) rfl ?_
    rw [HRE.out]
    exact ⟨_, _, _, rfl, PmS.nil _, HS61.out.2.1, fun g w2 hg hc h => PmS.nil _⟩
  have HX2 := Lib.hid hx
  have d2 : (n == o) = false := by simpa using hx
  clear hx
  have HGO := Lib.hid (show ¬ argU ⟨o, pe, pr, pq, pg⟩ n from fun h => h.elim HX0.out (fun h => h.elim HX1.out HX2.out))
  have c2 := HY1.out.2.2.1.cell 2
  simp only [pmC, List.getElem?_cons_zero, List.getElem?_cons_succ] at c2
  go_wp2_with fail
  obtain ⟨z, hz⟩ : ∃ z, inB pr n = z := ⟨_, rfl⟩
  have HZ := Lib.hid hz
  have hx := rin_any (.slice ra rl rc) pr n y1 HY1.out.1.1
  rw [hz] at hx
  clear hz
  refine Calls.mono hx ?_
  clear hx
  rintro e' w9 ⟨rfl, rfl⟩
  cases z
  · skip
    have HRE := Lib.hid (show RR = (noP, 4) from by rw [← HRR.out]; exact (chA_go HOK.out HBO.out HGO.out).trans (if_pos HZ.out))
    go_wp2_with (first
    | (with_reducible refine wpList_load_any rfl 24 (.tmp 10) rfl a2.heap.size 0 rfl (pmC 0 0 (.slice none 0 0) (.slice none 0 0) (.slice none 0 0)) _ (rangeW_blk HY1.out.2.2.2.2) Try.underlying24 rfl (pmC_info _ _ _ _ _) ?_)
    | ((with_reducible refine wpList_store_blk y1 rfl 24 (.tmp 8) (.tmp 93) rfl a1.heap.size 24 (pmC 0 0 (.slice none 0 0) (.slice none 0 0) (.slice none 0 0)) (pmC 0 0 (.slice none 0 0) (.slice none 0 0) (.slice none 0 0)) HY1.out.2.2.2.1 rfl rfl rfl (pmC_info _ _ _ _ _) (pmC_one _ _ _ _ _ _ _ _ _ _ _) ?_); intro s62 hb hc hs; have hbw := below_ch HY1.out.2.1 hc (Nat.le_refl _) (fun k hk => by have e : k = a1.heap.size := hk; have h1 := HG.out; omega); have HS63 := Lib.hid (show PmS s62 ⟨o, pe, pr, pq, pg⟩ (Value.slice ra rl rc) (Value.slice qa ql qc) (Value.slice ga gl gc) ∧ Below w.heap.size w s62 ∧ Blk s62 w.heap.size 24 (pmC o pe (Value.slice ra rl rc) (Value.slice qa ql qc) (Value.slice ga gl gc)) ∧ Blk s62 a1.heap.size 24 (pmC 0 0 (.slice none 0 0) (.slice none 0 0) (.slice none 0 0)) ∧ Blk s62 a2.heap.size 24 (pmC 0 0 (.slice none 0 0) (.slice none 0 0) (.slice none 0 0)) from ⟨HPS.out.below hbw, hbw, HY1.out.2.2.1.keep hc (fun e => by have e : w.heap.size = a1.heap.size := e; have h1 := HG.out; omega), hb, HY1.out.2.2.2.2.keep hc (fun e => by have e : a2.heap.size = a1.heap.size := e; have h1 := HG.out; omega)⟩); clear hb hc hs hbw))
    refine bodyPost_ret (results_cellTmp Try.results15 _ _ a1.heap.size _ _ rfl HS63.out.2.2.2.1 _ Try.underlying24 rfl (pmC_info _ _ _ _ _) _ rfl) rfl ?_
    rw [HRE.out]
    exact ⟨_, _, _, rfl, PmS.nil _, HS63.out.2.1, fun g w2 hg hc h => PmS.nil _⟩
  clear c0 c2
  go_wp2_with fail
  refine wp_region_marked (fun w' => w'.cell? ⟨w.heap.size, 2, none⟩ = some (.slice ra rl rc) ∧ w'.cell? ⟨w.heap.size, 3, none⟩ = some (.slice qa ql qc)) 9 [0, 1, 2, 4, 5] 7 (by kernel_rfl) rfl (by kernel_rfl) (by kernel_rfl) ⟨HY1.out.2.2.1.cell 2, HY1.out.2.2.1.cell 3⟩ ?_
  iterate 5 (refine' HeldL.run ?_ ?_ ?_ ?_; rotate_left 2; (simp only [List.getElem?_toArray, List.getElem?_cons_zero, List.getElem?_cons_succ]; rfl); rfl; (rintro w' ⟨k0, k1⟩; go_simp; with_reducible rfl); simp only [Act.put, List.setIfInBounds_toArray, List.set_cons_zero, List.set_cons_succ])
  have sm := (Sm.refl y1).drew
  have HV65 := Lib.hid (show PmS y1.drew ⟨o, pe, pr, pq, pg⟩ (Value.slice ra rl rc) (Value.slice qa ql qc) (Value.slice ga gl gc) ∧ Below w.heap.size w y1.drew ∧ Blk y1.drew w.heap.size 24 (pmC o pe (Value.slice ra rl rc) (Value.slice qa ql qc) (Value.slice ga gl gc)) ∧ Blk y1.drew a1.heap.size 24 (pmC 0 0 (.slice none 0 0) (.slice none 0 0) (.slice none 0 0)) ∧ Blk y1.drew a2.heap.size 24 (pmC 0 0 (.slice none 0 0) (.slice none 0 0) (.slice none 0 0)) from ⟨HY1.out.1.below (sm.below _), below_thn HY1.out.2.1 (sm.below _) (Nat.le_refl _), HY1.out.2.2.1.below (sm.below _) HY1.out.2.2.1.lt, HY1.out.2.2.2.1.below (sm.below _) HY1.out.2.2.2.1.lt, HY1.out.2.2.2.2.below (sm.below _) HY1.out.2.2.2.2.lt⟩)
  clear sm
  generalize y1.drew = v64 at HV65 ⊢
  refine wpAnyM_take0 (by kernel_rfl) noPanic_any (fuel := 6) (fun _ => ⟨HV65.out.2.2.1.cell 2, HV65.out.2.2.1.cell 3⟩) 6 (by kernel_rfl) ?_
  refine' HeldL.run ?_ ?_ ?_ ?_; rotate_left 2; (simp only [List.getElem?_toArray, List.getElem?_cons_zero, List.getElem?_cons_succ]; rfl); rfl; (rintro w' -; go_simp; with_reducible rfl); simp only [Act.put, List.setIfInBounds_toArray, List.set_cons_zero, List.set_cons_succ]
  refine' wpAnyM_one 3 (by kernel_rfl) ?_ ?_; rotate_left; (simp only [List.getElem?_toArray, List.getElem?_cons_zero, List.getElem?_cons_succ]; rfl)
  try simp only [Act.put]
  go_wp2_with fail
  refine (rset_any (.slice ra rl rc) pr n false v64 HV65.out.1.1).mono ?_
  rintro e' y66 ⟨m68a, m68l, m68c, rfl, hs, hb, hab⟩
  have HY67 := Lib.hid (show PmS y66 ⟨o, pe, pr, pq, pg⟩ (Value.slice ra rl rc) (Value.slice qa ql qc) (Value.slice ga gl gc) ∧ Below w.heap.size w y66 ∧ Blk y66 w.heap.size 24 (pmC o pe (Value.slice ra rl rc) (Value.slice qa ql qc) (Value.slice ga gl gc)) ∧ Blk y66 a1.heap.size 24 (pmC 0 0 (.slice none 0 0) (.slice none 0 0) (.slice none 0 0)) ∧ Blk y66 a2.heap.size 24 (pmC 0 0 (.slice none 0 0) (.slice none 0 0) (.slice none 0 0)) ∧ Sl y66 (.slice m68a m68l m68c) (ofK .i64 (setU pr n false 6)) ∧ (∀ k, (Value.slice m68a m68l m68c).ownBlock = some k → w.heap.size < k ∧ a1.heap.size < k) from ⟨HV65.out.1.below hb, below_thn HV65.out.2.1 hb (Nat.le_refl _), HV65.out.2.2.1.below hb HV65.out.2.2.1.lt, HV65.out.2.2.2.1.below hb HV65.out.2.2.2.1.lt, HV65.out.2.2.2.2.below hb HV65.out.2.2.2.2.lt, hs, fun k hk => by have h1 := hab k hk; have h2 := HV65.out.2.2.2.1.lt; have h3 := HG.out; omega⟩)
  clear hs hb hab
  go_wp2_with fail
  refine QK.normal ⟨fun _ => ⟨HY67.out.2.2.1.cell 2, HY67.out.2.2.1.cell 3⟩, ?_⟩
  refine wpAnyM_takes (by kernel_rfl) noPanic_any (fuel := 4) ⟨HY67.out.2.2.1.cell 2, HY67.out.2.2.1.cell 3⟩ [8] _ _ (by kernel_rfl) ?_
  refine' HeldL.run ?_ ?_ ?_ ?_; rotate_left 2; (simp only [List.getElem?_toArray, List.getElem?_cons_zero, List.getElem?_cons_succ]; rfl); rfl; (rintro w' ⟨k0, k1⟩; go_simp; with_reducible rfl); simp only [Act.put, List.setIfInBounds_toArray, List.set_cons_zero, List.set_cons_succ]
  refine' wpAnyM_one 7 (by kernel_rfl) ?_ ?_; rotate_left; (simp only [List.getElem?_toArray, List.getElem?_cons_zero, List.getElem?_cons_succ]; rfl)
  try simp only [Act.put]
  go_wp2_with fail
  refine (rset_any (.slice qa ql qc) pq n false y66 HY67.out.1.2.1).mono ?_
  rintro e' y69 ⟨m71a, m71l, m71c, rfl, hs, hb, hab⟩
  have HY70 := Lib.hid (show PmS y69 ⟨o, pe, pr, pq, pg⟩ (Value.slice ra rl rc) (Value.slice qa ql qc) (Value.slice ga gl gc) ∧ Below w.heap.size w y69 ∧ Blk y69 w.heap.size 24 (pmC o pe (Value.slice ra rl rc) (Value.slice qa ql qc) (Value.slice ga gl gc)) ∧ Blk y69 a1.heap.size 24 (pmC 0 0 (.slice none 0 0) (.slice none 0 0) (.slice none 0 0)) ∧ Blk y69 a2.heap.size 24 (pmC 0 0 (.slice none 0 0) (.slice none 0 0) (.slice none 0 0)) ∧ Sl y69 (.slice m68a m68l m68c) (ofK .i64 (setU pr n false 6)) ∧ (∀ k, (Value.slice m68a m68l m68c).ownBlock = some k → w.heap.size < k ∧ a1.heap.size < k) ∧ Sl y69 (.slice m71a m71l m71c) (ofK .i64 (setU pq n false 6)) ∧ (∀ k, (Value.slice m71a m71l m71c).ownBlock = some k → w.heap.size < k ∧ a1.heap.size < k) from ⟨HY67.out.1.below hb, below_thn HY67.out.2.1 hb (Nat.le_refl _), HY67.out.2.2.1.below hb HY67.out.2.2.1.lt, HY67.out.2.2.2.1.below hb HY67.out.2.2.2.1.lt, HY67.out.2.2.2.2.1.below hb HY67.out.2.2.2.2.1.lt, HY67.out.2.2.2.2.2.1.below hb (Nat.le_refl _), HY67.out.2.2.2.2.2.2, hs, fun k hk => by have h1 := hab k hk; have h2 := HY67.out.2.2.2.1.lt; have h3 := HG.out; omega⟩)
  clear hs hb hab
  go_wp2_with fail
  refine QK.normal ⟨fun _ => ⟨HY70.out.2.2.1.cell 2, HY70.out.2.2.1.cell 3⟩, ?_⟩
  refine' wpAnyM_one 9 (by kernel_rfl) ?_ ?_; rotate_left; (simp only [List.getElem?_toArray, List.getElem?_cons_zero, List.getElem?_cons_succ]; rfl)
  ((with_reducible refine wpList_store1 y69 rfl 22 (.tmp 102) (.tmp 97) rfl w.heap.size 2 24 (pmC o pe (Value.slice ra rl rc) (Value.slice qa ql qc) (Value.slice ga gl gc)) HY70.out.2.2.1 rfl (.slice m68a m68l m68c) rfl (by simp [pmC]) Try.sizeIs1 rfl rfl ?_); intro s72 hb hc hs; have hbw := below_ch HY70.out.2.1 hc (Nat.le_refl _) (fun k hk => by have e : k = w.heap.size := hk; have h1 := HG.out; omega); have HS73 := Lib.hid (show PmS s72 ⟨o, pe, pr, pq, pg⟩ (Value.slice ra rl rc) (Value.slice qa ql qc) (Value.slice ga gl gc) ∧ Below w.heap.size w s72 ∧ Blk s72 w.heap.size 24 (pmC o pe (Value.slice m68a m68l m68c) (Value.slice qa ql qc) (Value.slice ga gl gc)) ∧ Blk s72 a1.heap.size 24 (pmC 0 0 (.slice none 0 0) (.slice none 0 0) (.slice none 0 0)) ∧ Blk s72 a2.heap.size 24 (pmC 0 0 (.slice none 0 0) (.slice none 0 0) (.slice none 0 0)) ∧ Sl s72 (.slice m68a m68l m68c) (ofK .i64 (setU pr n false 6)) ∧ (∀ k, (Value.slice m68a m68l m68c).ownBlock = some k → w.heap.size < k ∧ a1.heap.size < k) ∧ Sl s72 (.slice m71a m71l m71c) (ofK .i64 (setU pq n false 6)) ∧ (∀ k, (Value.slice m71a m71l m71c).ownBlock = some k → w.heap.size < k ∧ a1.heap.size < k) from ⟨HPS.out.below hbw, hbw, hb, HY70.out.2.2.2.1.keep hc (fun e => by have e : a1.heap.size = w.heap.size := e; have h1 := HG.out; omega), HY70.out.2.2.2.2.1.keep hc (fun e => by have e : a2.heap.size = w.heap.size := e; have h1 := HG.out; omega), HY70.out.2.2.2.2.2.1.keep hc (fun k hk e => by have e : k = w.heap.size := e; have := HY70.out.2.2.2.2.2.2.1 k hk; have h1 := HG.out; omega), HY70.out.2.2.2.2.2.2.1, HY70.out.2.2.2.2.2.2.2.1.keep hc (fun k hk e => by have e : k = w.heap.size := e; have := HY70.out.2.2.2.2.2.2.2.2 k hk; have h1 := HG.out; omega), HY70.out.2.2.2.2.2.2.2.2⟩); clear hb hc hs hbw)
  try simp only [Act.put, List.setIfInBounds_toArray, List.set_cons_zero, List.set_cons_succ]
  refine QK.normal ⟨fun h => absurd h (by decide), ?_⟩
  refine' wpAnyM_one 10 (by kernel_rfl) ?_ ?_; rotate_left; (simp only [List.getElem?_toArray, List.getElem?_cons_zero, List.getElem?_cons_succ]; rfl)
  try simp only [Act.put]
  go_wp2_with fail
  refine QK.normal ⟨fun h => absurd h (by decide), ?_⟩
  refine' wpAnyM_one 11 (by kernel_rfl) ?_ ?_; rotate_left; (simp only [List.getElem?_toArray, List.getElem?_cons_zero, List.getElem?_cons_succ]; rfl)
  ((with_reducible refine wpList_store1 s72 rfl 22 (.tmp 103) (.tmp 101) rfl w.heap.size 3 24 (pmC o pe (Value.slice m68a m68l m68c) (Value.slice qa ql qc) (Value.slice ga gl gc)) HS73.out.2.2.1 rfl (.slice m71a m71l m71c) rfl (by simp [pmC]) Try.sizeIs1 rfl rfl ?_); intro s74 hb hc hs; have hbw := below_ch HS73.out.2.1 hc (Nat.le_refl _) (fun k hk => by have e : k = w.heap.size := hk; have h1 := HG.out; omega); have HS75 := Lib.hid (show PmS s74 ⟨o, pe, pr, pq, pg⟩ (Value.slice ra rl rc) (Value.slice qa ql qc) (Value.slice ga gl gc) ∧ Below w.heap.size w s74 ∧ Blk s74 w.heap.size 24 (pmC o pe (Value.slice m68a m68l m68c) (Value.slice m71a m71l m71c) (Value.slice ga gl gc)) ∧ Blk s74 a1.heap.size 24 (pmC 0 0 (.slice none 0 0) (.slice none 0 0) (.slice none 0 0)) ∧ Blk s74 a2.heap.size 24 (pmC 0 0 (.slice none 0 0) (.slice none 0 0) (.slice none 0 0)) ∧ Sl s74 (.slice m68a m68l m68c) (ofK .i64 (setU pr n false 6)) ∧ (∀ k, (Value.slice m68a m68l m68c).ownBlock = some k → w.heap.size < k ∧ a1.heap.size < k) ∧ Sl s74 (.slice m71a m71l m71c) (ofK .i64 (setU pq n false 6)) ∧ (∀ k, (Value.slice m71a m71l m71c).ownBlock = some k → w.heap.size < k ∧ a1.heap.size < k) from ⟨HPS.out.below hbw, hbw, hb, HS73.out.2.2.2.1.keep hc (fun e => by have e : a1.heap.size = w.heap.size := e; have h1 := HG.out; omega), HS73.out.2.2.2.2.1.keep hc (fun e => by have e : a2.heap.size = w.heap.size := e; have h1 := HG.out; omega), HS73.out.2.2.2.2.2.1.keep hc (fun k hk e => by have e : k = w.heap.size := e; have := HS73.out.2.2.2.2.2.2.1 k hk; have h1 := HG.out; omega), HS73.out.2.2.2.2.2.2.1, HS73.out.2.2.2.2.2.2.2.1.keep hc (fun k hk e => by have e : k = w.heap.size := e; have := HS73.out.2.2.2.2.2.2.2.2 k hk; have h1 := HG.out; omega), HS73.out.2.2.2.2.2.2.2.2⟩); clear hb hc hs hbw)
  try simp only [Act.put, List.setIfInBounds_toArray, List.set_cons_zero, List.set_cons_succ]
  refine QK.normal ⟨fun h => absurd h (by decide), ?_⟩
  refine wpAnyM_done (by kernel_rfl) ?_ _
  refine NoPanic.normal ?_
  go_wp2_with (first
    | (with_reducible refine wpList_load_any rfl 24 (.tmp 4) rfl w.heap.size 0 rfl (pmC o pe (Value.slice m68a m68l m68c) (Value.slice m71a m71l m71c) (Value.slice ga gl gc)) _ (rangeW_blk HS75.out.2.2.1) Try.underlying24 rfl (pmC_info _ _ _ _ _) ?_))
  have hx := rnext_any o pe (setU pr n false 6) (setU pq n false 6) (pg) m68a m68l m68c m71a m71l m71c ga gl gc s74 HE.out.1 HE.out.2 ⟨HS75.out.2.2.2.2.2.1, HS75.out.2.2.2.2.2.2.2.1, HS75.out.1.2.2⟩
  by_cases h8 : pe = 8
  · rw [if_pos h8] at hx
    have HRE := Lib.hid (show RR = (noP, 212) from by rw [← HRR.out]; exact ((chA_go HOK.out HBO.out HGO.out).trans (if_neg (by rw [HZ.out]; simp))).trans (if_pos h8))
    clear h8
    refine Calls.mono hx ?_
    clear hx
    rintro e' y76 ⟨rfl, hb⟩
    have HY77 := Lib.hid (show PmS y76 ⟨o, pe, pr, pq, pg⟩ (Value.slice ra rl rc) (Value.slice qa ql qc) (Value.slice ga gl gc) ∧ Below w.heap.size w y76 ∧ Blk y76 w.heap.size 24 (pmC o pe (Value.slice m68a m68l m68c) (Value.slice m71a m71l m71c) (Value.slice ga gl gc)) ∧ Blk y76 a1.heap.size 24 (pmC 0 0 (.slice none 0 0) (.slice none 0 0) (.slice none 0 0)) ∧ Blk y76 a2.heap.size 24 (pmC 0 0 (.slice none 0 0) (.slice none 0 0) (.slice none 0 0)) ∧ Sl y76 (.slice m68a m68l m68c) (ofK .i64 (setU pr n false 6)) ∧ (∀ k, (Value.slice m68a m68l m68c).ownBlock = some k → w.heap.size < k ∧ a1.heap.size < k) ∧ Sl y76 (.slice m71a m71l m71c) (ofK .i64 (setU pq n false 6)) ∧ (∀ k, (Value.slice m71a m71l m71c).ownBlock = some k → w.heap.size < k ∧ a1.heap.size < k) from ⟨HS75.out.1.below hb, below_thn HS75.out.2.1 hb (Nat.le_refl _), HS75.out.2.2.1.below hb HS75.out.2.2.1.lt, HS75.out.2.2.2.1.below hb HS75.out.2.2.2.1.lt, HS75.out.2.2.2.2.1.below hb HS75.out.2.2.2.2.1.lt, HS75.out.2.2.2.2.2.1.below hb (Nat.le_refl _), HS75.out.2.2.2.2.2.2.1, HS75.out.2.2.2.2.2.2.2.1.below hb (Nat.le_refl _), HS75.out.2.2.2.2.2.2.2.2⟩)
    clear hb
    go_wp2_with (first
    | ((with_reducible refine wpList_store_blk y76 rfl 24 (.tmp 8) (.tmp 106) rfl a1.heap.size 24 (pmC 0 0 (.slice none 0 0) (.slice none 0 0) (.slice none 0 0)) (pmC 0 0 (.slice none 0 0) (.slice none 0 0) (.slice none 0 0)) HY77.out.2.2.2.1 rfl rfl rfl (pmC_info _ _ _ _ _) (pmC_one _ _ _ _ _ _ _ _ _ _ _) ?_); intro s78 hb hc hs; have hbw := below_ch HY77.out.2.1 hc (Nat.le_refl _) (fun k hk => by have e : k = a1.heap.size := hk; have h1 := HG.out; omega); have HS79 := Lib.hid (show PmS s78 ⟨o, pe, pr, pq, pg⟩ (Value.slice ra rl rc) (Value.slice qa ql qc) (Value.slice ga gl gc) ∧ Below w.heap.size w s78 ∧ Blk s78 w.heap.size 24 (pmC o pe (Value.slice m68a m68l m68c) (Value.slice m71a m71l m71c) (Value.slice ga gl gc)) ∧ Blk s78 a1.heap.size 24 (pmC 0 0 (.slice none 0 0) (.slice none 0 0) (.slice none 0 0)) ∧ Blk s78 a2.heap.size 24 (pmC 0 0 (.slice none 0 0) (.slice none 0 0) (.slice none 0 0)) ∧ Sl s78 (.slice m68a m68l m68c) (ofK .i64 (setU pr n false 6)) ∧ (∀ k, (Value.slice m68a m68l m68c).ownBlock = some k → w.heap.size < k ∧ a1.heap.size < k) ∧ Sl s78 (.slice m71a m71l m71c) (ofK .i64 (setU pq n false 6)) ∧ (∀ k, (Value.slice m71a m71l m71c).ownBlock = some k → w.heap.size < k ∧ a1.heap.size < k) from ⟨HPS.out.below hbw, hbw, HY77.out.2.2.1.keep hc (fun e => by have e : w.heap.size = a1.heap.size := e; have h1 := HG.out; omega), hb, HY77.out.2.2.2.2.1.keep hc (fun e => by have e : a2.heap.size = a1.heap.size := e; have h1 := HG.out; omega), HY77.out.2.2.2.2.2.1.keep hc (fun k hk e => by have e : k = a1.heap.size := e; have := HY77.out.2.2.2.2.2.2.1 k hk; have h1 := HG.out; omega), HY77.out.2.2.2.2.2.2.1, HY77.out.2.2.2.2.2.2.2.1.keep hc (fun k hk e => by have e : k = a1.heap.size := e; have := HY77.out.2.2.2.2.2.2.2.2 k hk; have h1 := HG.out; omega), HY77.out.2.2.2.2.2.2.2.2⟩); clear hb hc hs hbw))
    refine bodyPost_ret (results_cellTmp Try.results15 _ _ a1.heap.size _ _ rfl HS79.out.2.2.2.1 _ Try.underlying24 rfl (pmC_info _ _ _ _ _) _ rfl) rfl ?_
    rw [HRE.out]
    exact ⟨_, _, _, rfl, PmS.nil _, HS79.out.2.1, fun g w2 hg hc h => PmS.nil _⟩
  · rw [if_neg h8] at hx
    have HRE := Lib.hid (show RR = (⟨o, pe + 1, setU pr n false 6, setU pq n false 6, pg⟩, 0) from by rw [← HRR.out]; exact ((chA_go HOK.out HBO.out HGO.out).trans (if_neg (by rw [HZ.out]; simp))).trans (if_neg h8))
    clear h8
    refine Calls.mono hx ?_
    clear hx
    rintro e' y80 ⟨rfl, hb⟩
    have HY81 := Lib.hid (show PmS y80 ⟨o, pe, pr, pq, pg⟩ (Value.slice ra rl rc) (Value.slice qa ql qc) (Value.slice ga gl gc) ∧ Below w.heap.size w y80 ∧ Blk y80 w.heap.size 24 (pmC o pe (Value.slice m68a m68l m68c) (Value.slice m71a m71l m71c) (Value.slice ga gl gc)) ∧ Blk y80 a1.heap.size 24 (pmC 0 0 (.slice none 0 0) (.slice none 0 0) (.slice none 0 0)) ∧ Blk y80 a2.heap.size 24 (pmC 0 0 (.slice none 0 0) (.slice none 0 0) (.slice none 0 0)) ∧ Sl y80 (.slice m68a m68l m68c) (ofK .i64 (setU pr n false 6)) ∧ (∀ k, (Value.slice m68a m68l m68c).ownBlock = some k → w.heap.size < k ∧ a1.heap.size < k) ∧ Sl y80 (.slice m71a m71l m71c) (ofK .i64 (setU pq n false 6)) ∧ (∀ k, (Value.slice m71a m71l m71c).ownBlock = some k → w.heap.size < k ∧ a1.heap.size < k) from ⟨HS75.out.1.below hb, below_thn HS75.out.2.1 hb (Nat.le_refl _), HS75.out.2.2.1.below hb HS75.out.2.2.1.lt, HS75.out.2.2.2.1.below hb HS75.out.2.2.2.1.lt, HS75.out.2.2.2.2.1.below hb HS75.out.2.2.2.2.1.lt, HS75.out.2.2.2.2.2.1.below hb (Nat.le_refl _), HS75.out.2.2.2.2.2.2.1, HS75.out.2.2.2.2.2.2.2.1.below hb (Nat.le_refl _), HS75.out.2.2.2.2.2.2.2.2⟩)
    clear hb
    go_wp2_with (first
    | ((with_reducible refine wpList_store_blk y80 rfl 24 (.tmp 8) (.tmp 106) rfl a1.heap.size 24 (pmC 0 0 (.slice none 0 0) (.slice none 0 0) (.slice none 0 0)) (pmC o (pe + 1) (Value.slice m68a m68l m68c) (Value.slice m71a m71l m71c) (Value.slice ga gl gc)) HY81.out.2.2.2.1 rfl rfl rfl (pmC_info _ _ _ _ _) (pmC_one _ _ _ _ _ _ _ _ _ _ _) ?_); intro s82 hb hc hs; have hbw := below_ch HY81.out.2.1 hc (Nat.le_refl _) (fun k hk => by have e : k = a1.heap.size := hk; have h1 := HG.out; omega); have HS83 := Lib.hid (show PmS s82 ⟨o, pe, pr, pq, pg⟩ (Value.slice ra rl rc) (Value.slice qa ql qc) (Value.slice ga gl gc) ∧ Below w.heap.size w s82 ∧ Blk s82 w.heap.size 24 (pmC o pe (Value.slice m68a m68l m68c) (Value.slice m71a m71l m71c) (Value.slice ga gl gc)) ∧ Blk s82 a1.heap.size 24 (pmC o (pe + 1) (Value.slice m68a m68l m68c) (Value.slice m71a m71l m71c) (Value.slice ga gl gc)) ∧ Blk s82 a2.heap.size 24 (pmC 0 0 (.slice none 0 0) (.slice none 0 0) (.slice none 0 0)) ∧ Sl s82 (.slice m68a m68l m68c) (ofK .i64 (setU pr n false 6)) ∧ (∀ k, (Value.slice m68a m68l m68c).ownBlock = some k → w.heap.size < k ∧ a1.heap.size < k) ∧ Sl s82 (.slice m71a m71l m71c) (ofK .i64 (setU pq n false 6)) ∧ (∀ k, (Value.slice m71a m71l m71c).ownBlock = some k → w.heap.size < k ∧ a1.heap.size < k) from ⟨HPS.out.below hbw, hbw, HY81.out.2.2.1.keep hc (fun e => by have e : w.heap.size = a1.heap.size := e; have h1 := HG.out; omega), hb, HY81.out.2.2.2.2.1.keep hc (fun e => by have e : a2.heap.size = a1.heap.size := e; have h1 := HG.out; omega), HY81.out.2.2.2.2.2.1.keep hc (fun k hk e => by have e : k = a1.heap.size := e; have := HY81.out.2.2.2.2.2.2.1 k hk; have h1 := HG.out; omega), HY81.out.2.2.2.2.2.2.1, HY81.out.2.2.2.2.2.2.2.1.keep hc (fun k hk e => by have e : k = a1.heap.size := e; have := HY81.out.2.2.2.2.2.2.2.2 k hk; have h1 := HG.out; omega), HY81.out.2.2.2.2.2.2.2.2⟩); clear hb hc hs hbw))
    refine bodyPost_ret (results_cellTmp Try.results15 _ _ a1.heap.size _ _ rfl HS83.out.2.2.2.1 _ Try.underlying24 rfl (pmC_info _ _ _ _ _) _ rfl) rfl ?_
    rw [HRE.out]
    exact ⟨_, _, _, rfl, ⟨HS83.out.2.2.2.2.2.1, HS83.out.2.2.2.2.2.2.2.1, HS83.out.1.2.2⟩, HS83.out.2.1, fun g w2 hg hc h => ⟨HS83.out.2.2.2.2.2.1.keep hc (fun k hk e => by have e : k = g := e; have := HS83.out.2.2.2.2.2.2.1 k hk; omega), HS83.out.2.2.2.2.2.2.2.1.keep hc (fun k hk e => by have e : k = g := e; have := HS83.out.2.2.2.2.2.2.2.2 k hk; omega), h.2.2⟩⟩


set_option maxRecDepth 100000 in
set_option maxHeartbeats 8000000 in
theorem rchange3_any (p : PmD) (vr vq vg : Value) (b n : Int) (w : World) (hp : PmS w p vr vq vg) :
    Calls Try.prog 15 #[.agg (pmC p.o p.e vr vq vg).toArray, .int .i64 3, .int .i64 b, .int .i64 n] w (RefP w p vr vq vg (ch3 p b n)) := by
  obtain ⟨ra, rc, rfl, -⟩ := hp.1.shape
  obtain ⟨qa, qc, rfl, -⟩ := hp.2.1.shape
  obtain ⟨ga, gc, rfl, -⟩ := hp.2.2.shape
  obtain ⟨o, pe, pr, pq, pg⟩ := p
  simp only at hp ⊢
  simp only [length_ofK] at hp ⊢
  generalize pr.length = rl at hp ⊢
  generalize pq.length = ql at hp ⊢
  generalize pg.length = gl at hp ⊢
  have HPS := Lib.hid hp
  obtain ⟨ok, hok⟩ : ∃ x, okB ⟨o, pe, pr, pq, pg⟩ = x := ⟨_, rfl⟩
  have HOK := Lib.hid hok
  obtain ⟨RR, hRR⟩ : ∃ x, ch3 ⟨o, pe, pr, pq, pg⟩ b n = x := ⟨_, rfl⟩
  rw [hRR]
  have HRR := Lib.hid hRR
  have H0 := Lib.hid (show PmS w ⟨o, pe, pr, pq, pg⟩ (Value.slice ra rl rc) (Value.slice qa ql qc) (Value.slice ga gl gc) ∧ Below w.heap.size w w from ⟨hp, Below.refl _ _⟩)
  clear hp hok hRR
  go_enter Try.func15, Try.ntmps15
  go_wp2_with (first
    | ((with_reducible refine wpList_box_blk w rfl 24 (.tmp 0) rfl (pmC o pe (Value.slice ra rl rc) (Value.slice qa ql qc) (Value.slice ga gl gc)) rfl ?_); intro a1 hb hbel hsz; have HA1 := Lib.hid (show PmS a1 ⟨o, pe, pr, pq, pg⟩ (Value.slice ra rl rc) (Value.slice qa ql qc) (Value.slice ga gl gc) ∧ Below w.heap.size w a1 ∧ Blk a1 w.heap.size 24 (pmC o pe (Value.slice ra rl rc) (Value.slice qa ql qc) (Value.slice ga gl gc)) from ⟨H0.out.1.below hbel, below_thn H0.out.2 hbel (Nat.le_refl _), hb⟩); clear hb hbel hsz)
    | ((with_reducible refine wpList_alloc_blk a1 rfl 24 rfl (pmC 0 0 (.slice none 0 0) (.slice none 0 0) (.slice none 0 0)) Try.zeroPm ?_); intro a2 hb hbel hsz; have HA2 := Lib.hid (show PmS a2 ⟨o, pe, pr, pq, pg⟩ (Value.slice ra rl rc) (Value.slice qa ql qc) (Value.slice ga gl gc) ∧ Below w.heap.size w a2 ∧ Blk a2 w.heap.size 24 (pmC o pe (Value.slice ra rl rc) (Value.slice qa ql qc) (Value.slice ga gl gc)) ∧ Blk a2 a1.heap.size 24 (pmC 0 0 (.slice none 0 0) (.slice none 0 0) (.slice none 0 0)) from ⟨HA1.out.1.below hbel, below_thn HA1.out.2.1 hbel (Nat.le_refl _), HA1.out.2.2.below hbel HA1.out.2.2.lt, hb⟩); clear hb hbel hsz)
    | ((with_reducible refine wpList_build_zeroPm rfl rfl ?_))
    | ((with_reducible refine wpList_alloc_blk a2 rfl 24 rfl (pmC 0 0 (.slice none 0 0) (.slice none 0 0) (.slice none 0 0)) Try.zeroPm ?_); intro a3 hb hbel hsz; have HA3 := Lib.hid (show PmS a3 ⟨o, pe, pr, pq, pg⟩ (Value.slice ra rl rc) (Value.slice qa ql qc) (Value.slice ga gl gc) ∧ Below w.heap.size w a3 ∧ Blk a3 w.heap.size 24 (pmC o pe (Value.slice ra rl rc) (Value.slice qa ql qc) (Value.slice ga gl gc)) ∧ Blk a3 a1.heap.size 24 (pmC 0 0 (.slice none 0 0) (.slice none 0 0) (.slice none 0 0)) ∧ Blk a3 a2.heap.size 24 (pmC 0 0 (.slice none 0 0) (.slice none 0 0) (.slice none 0 0)) from ⟨HA2.out.1.below hbel, below_thn HA2.out.2.1 hbel (Nat.le_refl _), HA2.out.2.2.1.below hbel HA2.out.2.2.1.lt, HA2.out.2.2.2.below hbel HA2.out.2.2.2.lt, hb⟩); have HG := Lib.hid (show w.heap.size < a1.heap.size ∧ a1.heap.size < a2.heap.size from ⟨HA1.out.2.2.lt, HA2.out.2.2.2.lt⟩); clear hb hbel hsz)
    | ((with_reducible refine wpList_store_blk a3 rfl 24 (.tmp 10) (.tmp 11) rfl a2.heap.size 24 (pmC 0 0 (.slice none 0 0) (.slice none 0 0) (.slice none 0 0)) (pmC 0 0 (.slice none 0 0) (.slice none 0 0) (.slice none 0 0)) HA3.out.2.2.2.2 rfl rfl rfl (pmC_info _ _ _ _ _) (pmC_one _ _ _ _ _ _ _ _ _ _ _) ?_); intro s84 hb hc hs; have hbw := below_ch HA3.out.2.1 hc (Nat.le_refl _) (fun k hk => by have e : k = a2.heap.size := hk; have h1 := HG.out; omega); have HS85 := Lib.hid (show PmS s84 ⟨o, pe, pr, pq, pg⟩ (Value.slice ra rl rc) (Value.slice qa ql qc) (Value.slice ga gl gc) ∧ Below w.heap.size w s84 ∧ Blk s84 w.heap.size 24 (pmC o pe (Value.slice ra rl rc) (Value.slice qa ql qc) (Value.slice ga gl gc)) ∧ Blk s84 a1.heap.size 24 (pmC 0 0 (.slice none 0 0) (.slice none 0 0) (.slice none 0 0)) ∧ Blk s84 a2.heap.size 24 (pmC 0 0 (.slice none 0 0) (.slice none 0 0) (.slice none 0 0)) from ⟨HPS.out.below hbw, hbw, HA3.out.2.2.1.keep hc (fun e => by have e : w.heap.size = a2.heap.size := e; have h1 := HG.out; omega), HA3.out.2.2.2.1.keep hc (fun e => by have e : a1.heap.size = a2.heap.size := e; have h1 := HG.out; omega), hb⟩); clear hb hc hs hbw)
    | (with_reducible refine wpList_load_any rfl 24 (.tmp 4) rfl w.heap.size 0 rfl (pmC o pe (Value.slice ra rl rc) (Value.slice qa ql qc) (Value.slice ga gl gc)) _ (rangeW_blk HS85.out.2.2.1) Try.underlying24 rfl (pmC_info _ _ _ _ _) ?_))
  have hx := rright_any ⟨o, pe, pr, pq, pg⟩ _ _ _ s84 HS85.out.1
  rw [HOK.out] at hx
  refine Calls.mono hx ?_
  clear hx
  rintro e' y1 ⟨rfl, hb⟩
  have HY1 := Lib.hid (show PmS y1 ⟨o, pe, pr, pq, pg⟩ (Value.slice ra rl rc) (Value.slice qa ql qc) (Value.slice ga gl gc) ∧ Below w.heap.size w y1 ∧ Blk y1 w.heap.size 24 (pmC o pe (Value.slice ra rl rc) (Value.slice qa ql qc) (Value.slice ga gl gc)) ∧ Blk y1 a1.heap.size 24 (pmC 0 0 (.slice none 0 0) (.slice none 0 0) (.slice none 0 0)) ∧ Blk y1 a2.heap.size 24 (pmC 0 0 (.slice none 0 0) (.slice none 0 0) (.slice none 0 0)) from ⟨HS85.out.1.below hb, below_thn HS85.out.2.1 hb (Nat.le_refl _), HS85.out.2.2.1.below hb HS85.out.2.2.1.lt, HS85.out.2.2.2.1.below hb HS85.out.2.2.2.1.lt, HS85.out.2.2.2.2.below hb HS85.out.2.2.2.2.lt⟩)
  clear hb HA1 HA2 HA3 HS85
  cases ok
  · skip
    have HRE := Lib.hid (show RR = (noP, 210) from by rw [← HRR.out]; exact chA_perm HOK.out)
    go_wp2_with (first
    | (with_reducible refine wpList_load_any rfl 24 (.tmp 10) rfl a2.heap.size 0 rfl (pmC 0 0 (.slice none 0 0) (.slice none 0 0) (.slice none 0 0)) _ (rangeW_blk HY1.out.2.2.2.2) Try.underlying24 rfl (pmC_info _ _ _ _ _) ?_)
    | ((with_reducible refine wpList_store_blk y1 rfl 24 (.tmp 8) (.tmp 15) rfl a1.heap.size 24 (pmC 0 0 (.slice none 0 0) (.slice none 0 0) (.slice none 0 0)) (pmC 0 0 (.slice none 0 0) (.slice none 0 0) (.slice none 0 0)) HY1.out.2.2.2.1 rfl rfl rfl (pmC_info _ _ _ _ _) (pmC_one _ _ _ _ _ _ _ _ _ _ _) ?_); intro s86 hb hc hs; have hbw := below_ch HY1.out.2.1 hc (Nat.le_refl _) (fun k hk => by have e : k = a1.heap.size := hk; have h1 := HG.out; omega); have HS87 := Lib.hid (show PmS s86 ⟨o, pe, pr, pq, pg⟩ (Value.slice ra rl rc) (Value.slice qa ql qc) (Value.slice ga gl gc) ∧ Below w.heap.size w s86 ∧ Blk s86 w.heap.size 24 (pmC o pe (Value.slice ra rl rc) (Value.slice qa ql qc) (Value.slice ga gl gc)) ∧ Blk s86 a1.heap.size 24 (pmC 0 0 (.slice none 0 0) (.slice none 0 0) (.slice none 0 0)) ∧ Blk s86 a2.heap.size 24 (pmC 0 0 (.slice none 0 0) (.slice none 0 0) (.slice none 0 0)) from ⟨HPS.out.below hbw, hbw, HY1.out.2.2.1.keep hc (fun e => by have e : w.heap.size = a1.heap.size := e; have h1 := HG.out; omega), hb, HY1.out.2.2.2.2.keep hc (fun e => by have e : a2.heap.size = a1.heap.size := e; have h1 := HG.out; omega)⟩); clear hb hc hs hbw))
    refine bodyPost_ret (results_cellTmp Try.results15 _ _ a1.heap.size _ _ rfl HS87.out.2.2.2.1 _ Try.underlying24 rfl (pmC_info _ _ _ _ _) _ rfl) rfl ?_
    rw [HRE.out]
    exact ⟨_, _, _, rfl, PmS.nil _, HS87.out.2.1, fun g w2 hg hc h => PmS.nil _⟩
  have HE := Lib.hid (okB_iff.1 HOK.out).e
  have c0 := HY1.out.2.2.1.cell 0
  simp only [pmC, List.getElem?_cons_zero, List.getElem?_cons_succ] at c0
  by_cases hbo : b = o
  rotate_left
  · have e1 : (b != o) = true := by simpa using hbo
    have HBO := Lib.hid hbo
    clear hbo
    have HRE := Lib.hid (show RR = (noP, 211) from by rw [← HRR.out]; exact chA_owner HOK.out HBO.out)
    go_wp2_with (first
    | (with_reducible refine wpList_load_any rfl 24 (.tmp 10) rfl a2.heap.size 0 rfl (pmC 0 0 (.slice none 0 0) (.slice none 0 0) (.slice none 0 0)) _ (rangeW_blk HY1.out.2.2.2.2) Try.underlying24 rfl (pmC_info _ _ _ _ _) ?_)
    | ((with_reducible refine wpList_store_blk y1 rfl 24 (.tmp 8) (.tmp 26) rfl a1.heap.size 24 (pmC 0 0 (.slice none 0 0) (.slice none 0 0) (.slice none 0 0)) (pmC 0 0 (.slice none 0 0) (.slice none 0 0) (.slice none 0 0)) HY1.out.2.2.2.1 rfl rfl rfl (pmC_info _ _ _ _ _) (pmC_one _ _ _ _ _ _ _ _ _ _ _) ?_); intro s88 hb hc hs; have hbw := below_ch HY1.out.2.1 hc (Nat.le_refl _) (fun k hk => by have e : k = a1.heap.size := hk; have h1 := HG.out; omega); have HS89 := Lib.hid (show PmS s88 ⟨o, pe, pr, pq, pg⟩ (Value.slice ra rl rc) (Value.slice qa ql qc) (Value.slice ga gl gc) ∧ Below w.heap.size w s88 ∧ Blk s88 w.heap.size 24 (pmC o pe (Value.slice ra rl rc) (Value.slice qa ql qc) (Value.slice ga gl gc)) ∧ Blk s88 a1.heap.size 24 (pmC 0 0 (.slice none 0 0) (.slice none 0 0) (.slice none 0 0)) ∧ Blk s88 a2.heap.size 24 (pmC 0 0 (.slice none 0 0) (.slice none 0 0) (.slice none 0 0)) from ⟨HPS.out.below hbw, hbw, HY1.out.2.2.1.keep hc (fun e => by have e : w.heap.size = a1.heap.size := e; have h1 := HG.out; omega), hb, HY1.out.2.2.2.2.keep hc (fun e => by have e : a2.heap.size = a1.heap.size := e; have h1 := HG.out; omega)⟩); clear hb hc hs hbw))
    refine bodyPost_ret (results_cellTmp Try.results15 _ _ a1.heap.size _ _ rfl HS89.out.2.2.2.1 _ Try.underlying24 rfl (pmC_info _ _ _ _ _) _ rfl) rfl ?_
    rw [HRE.out]
    exact ⟨_, _, _, rfl, PmS.nil _, HS89.out.2.1, fun g w2 hg hc h => PmS.nil _⟩
  have e1 : (b != o) = false := by simpa using hbo
  have HBO := Lib.hid hbo
  clear hbo
  by_cases hx : n < 1
  · have HX := Lib.hid hx
    have d0 : decide (n < 1) = true := by simpa using hx
    clear hx
    have HRE := Lib.hid (show RR = (noP, 2) from by rw [← HRR.out]; exact chA_arg HOK.out HBO.out (show argG n from .inl HX.out))
    go_wp2_with (first
    | (with_reducible refine wpList_load_any rfl 24 (.tmp 10) rfl a2.heap.size 0 rfl (pmC 0 0 (.slice none 0 0) (.slice none 0 0) (.slice none 0 0)) _ (rangeW_blk HY1.out.2.2.2.2) Try.underlying24 rfl (pmC_info _ _ _ _ _) ?_)
    | ((with_reducible refine wpList_store_blk y1 rfl 24 (.tmp 8) (.tmp 55) rfl a1.heap.size 24 (pmC 0 0 (.slice none 0 0) (.slice none 0 0) (.slice none 0 0)) (pmC 0 0 (.slice none 0 0) (.slice none 0 0) (.slice none 0 0)) HY1.out.2.2.2.1 rfl rfl rfl (pmC_info _ _ _ _ _) (pmC_one _ _ _ _ _ _ _ _ _ _ _) ?_); intro s90 hb hc hs; have hbw := below_ch HY1.out.2.1 hc (Nat.le_refl _) (fun k hk => by have e : k = a1.heap.size := hk; have h1 := HG.out; omega); have HS91 := Lib.hid (show PmS s90 ⟨o, pe, pr, pq, pg⟩ (Value.slice ra rl rc) (Value.slice qa ql qc) (Value.slice ga gl gc) ∧ Below w.heap.size w s90 ∧ Blk s90 w.heap.size 24 (pmC o pe (Value.slice ra rl rc) (Value.slice qa ql qc) (Value.slice ga gl gc)) ∧ Blk s90 a1.heap.size 24 (pmC 0 0 (.slice none 0 0) (.slice none 0 0) (.slice none 0 0)) ∧ Blk s90 a2.heap.size 24 (pmC 0 0 (.slice none 0 0) (.slice none 0 0) (.slice none 0 0)) from ⟨HPS.out.below hbw, hbw, HY1.out.2.2.1.keep hc (fun e => by have e : w.heap.size = a1.heap.size := e; have h1 := HG.out; omega), hb, HY1.out.2.2.2.2.keep hc (fun e => by have e : a2.heap.size = a1.heap.size := e; have h1 := HG.out; omega)⟩); clear hb hc hs hbw))
    refine bodyPost_ret (results_cellTmp Try.results15 _ _ a1.heap.size _ _ rfl HS91.out.2.2.2.1 _ Try.underlying24 rfl (pmC_info _ _ _ _ _) _ rfl) rfl ?_
    rw [HRE.out]
    exact ⟨_, _, _, rfl, PmS.nil _, HS91.out.2.1, fun g w2 hg hc h => PmS.nil _⟩
  have HX0 := Lib.hid hx
  have d0 : decide (n < 1) = false := by simpa using hx
  clear hx
  by_cases hx : 3 < n
  · have HX := Lib.hid hx
    have d1 : decide (3 < n) = true := by simpa using hx
    clear hx
    have HRE := Lib.hid (show RR = (noP, 2) from by rw [← HRR.out]; exact chA_arg HOK.out HBO.out (show argG n from .inr HX.out))
    go_wp2_with (first
    | (with_reducible refine wpList_load_any rfl 24 (.tmp 10) rfl a2.heap.size 0 rfl (pmC 0 0 (.slice none 0 0) (.slice none 0 0) (.slice none 0 0)) _ (rangeW_blk HY1.out.2.2.2.2) Try.underlying24 rfl (pmC_info _ _ _ _ _) ?_)
    | ((with_reducible refine wpList_store_blk y1 rfl 24 (.tmp 8) (.tmp 55) rfl a1.heap.size 24 (pmC 0 0 (.slice none 0 0) (.slice none 0 0) (.slice none 0 0)) (pmC 0 0 (.slice none 0 0) (.slice none 0 0) (.slice none 0 0)) HY1.out.2.2.2.1 rfl rfl rfl (pmC_info _ _ _ _ _) (pmC_one _ _ _ _ _ _ _ _ _ _ _) ?_); intro s92 hb hc hs; have hbw := below_ch HY1.out.2.1 hc (Nat.le_refl _) (fun k hk => by have e : k = a1.heap.size := hk; have h1 := HG.out; omega); have HS93 := Lib.hid (show PmS s92 ⟨o, pe, pr, pq, pg⟩ (Value.slice ra rl rc) (Value.slice qa ql qc) (Value.slice ga gl gc) ∧ Below w.heap.size w s92 ∧ Blk s92 w.heap.size 24 (pmC o pe (Value.slice ra rl rc) (Value.slice qa ql qc) (Value.slice ga gl gc)) ∧ Blk s92 a1.heap.size 24 (pmC 0 0 (.slice none 0 0) (.slice none 0 0) (.slice none 0 0)) ∧ Blk s92 a2.heap.size 24 (pmC 0 0 (.slice none 0 0) (.slice none 0 0) (.slice none 0 0)) from ⟨HPS.out.below hbw, hbw, HY1.out.2.2.1.keep hc (fun e => by have e : w.heap.size = a1.heap.size := e; have h1 := HG.out; omega), hb, HY1.out.2.2.2.2.keep hc (fun e => by have e : a2.heap.size = a1.heap.size := e; have h1 := HG.out; omega)⟩); clear hb hc hs hbw))
    refine bodyPost_ret (results_cellTmp Try.results15 _ _ a1.heap.size _ _ rfl HS93.out.2.2.2.1 _ Try.underlying24 rfl (pmC_info _ _ _ _ _) _ rfl) rfl ?_
    rw [HRE.out]
    exact ⟨_, _, _, rfl, PmS.nil _, HS93.out.2.1, fun g w2 hg hc h => PmS.nil _⟩
  have HX1 := Lib.hid hx
  have d1 : decide (3 < n) = false := by simpa using hx
  clear hx
  have HGO := Lib.hid (show ¬ argG n from fun h => h.elim HX0.out HX1.out)
  have c4 := HY1.out.2.2.1.cell 4
  simp only [pmC, List.getElem?_cons_zero, List.getElem?_cons_succ] at c4
  go_wp2_with fail
  obtain ⟨z, hz⟩ : ∃ z, inB pg n = z := ⟨_, rfl⟩
  have HZ := Lib.hid hz
  have hx := rin_any (.slice ga gl gc) pg n y1 HY1.out.1.2.2
  rw [hz] at hx
  clear hz
  refine Calls.mono hx ?_
  clear hx
  rintro e' w9 ⟨rfl, rfl⟩
  cases z
  rotate_left
  · skip
    have HRE := Lib.hid (show RR = (noP, 5) from by rw [← HRR.out]; exact (chA_go HOK.out HBO.out HGO.out).trans (if_pos HZ.out))
    go_wp2_with (first
    | (with_reducible refine wpList_load_any rfl 24 (.tmp 10) rfl a2.heap.size 0 rfl (pmC 0 0 (.slice none 0 0) (.slice none 0 0) (.slice none 0 0)) _ (rangeW_blk HY1.out.2.2.2.2) Try.underlying24 rfl (pmC_info _ _ _ _ _) ?_)
    | ((with_reducible refine wpList_store_blk y1 rfl 24 (.tmp 8) (.tmp 114) rfl a1.heap.size 24 (pmC 0 0 (.slice none 0 0) (.slice none 0 0) (.slice none 0 0)) (pmC 0 0 (.slice none 0 0) (.slice none 0 0) (.slice none 0 0)) HY1.out.2.2.2.1 rfl rfl rfl (pmC_info _ _ _ _ _) (pmC_one _ _ _ _ _ _ _ _ _ _ _) ?_); intro s94 hb hc hs; have hbw := below_ch HY1.out.2.1 hc (Nat.le_refl _) (fun k hk => by have e : k = a1.heap.size := hk; have h1 := HG.out; omega); have HS95 := Lib.hid (show PmS s94 ⟨o, pe, pr, pq, pg⟩ (Value.slice ra rl rc) (Value.slice qa ql qc) (Value.slice ga gl gc) ∧ Below w.heap.size w s94 ∧ Blk s94 w.heap.size 24 (pmC o pe (Value.slice ra rl rc) (Value.slice qa ql qc) (Value.slice ga gl gc)) ∧ Blk s94 a1.heap.size 24 (pmC 0 0 (.slice none 0 0) (.slice none 0 0) (.slice none 0 0)) ∧ Blk s94 a2.heap.size 24 (pmC 0 0 (.slice none 0 0) (.slice none 0 0) (.slice none 0 0)) from ⟨HPS.out.below hbw, hbw, HY1.out.2.2.1.keep hc (fun e => by have e : w.heap.size = a1.heap.size := e; have h1 := HG.out; omega), hb, HY1.out.2.2.2.2.keep hc (fun e => by have e : a2.heap.size = a1.heap.size := e; have h1 := HG.out; omega)⟩); clear hb hc hs hbw))
    refine bodyPost_ret (results_cellTmp Try.results15 _ _ a1.heap.size _ _ rfl HS95.out.2.2.2.1 _ Try.underlying24 rfl (pmC_info _ _ _ _ _) _ rfl) rfl ?_
    rw [HRE.out]
    exact ⟨_, _, _, rfl, PmS.nil _, HS95.out.2.1, fun g w2 hg hc h => PmS.nil _⟩
  go_wp2_with fail
  refine (rset_any (.slice ga gl gc) pg n true y1 HY1.out.1.2.2).mono ?_
  rintro e' y96 ⟨m98a, m98l, m98c, rfl, hs, hb, hab⟩
  have HY97 := Lib.hid (show PmS y96 ⟨o, pe, pr, pq, pg⟩ (Value.slice ra rl rc) (Value.slice qa ql qc) (Value.slice ga gl gc) ∧ Below w.heap.size w y96 ∧ Blk y96 w.heap.size 24 (pmC o pe (Value.slice ra rl rc) (Value.slice qa ql qc) (Value.slice ga gl gc)) ∧ Blk y96 a1.heap.size 24 (pmC 0 0 (.slice none 0 0) (.slice none 0 0) (.slice none 0 0)) ∧ Blk y96 a2.heap.size 24 (pmC 0 0 (.slice none 0 0) (.slice none 0 0) (.slice none 0 0)) ∧ Sl y96 (.slice m98a m98l m98c) (ofK .i64 (setU pg n true 6)) ∧ (∀ k, (Value.slice m98a m98l m98c).ownBlock = some k → w.heap.size < k ∧ a1.heap.size < k) from ⟨HY1.out.1.below hb, below_thn HY1.out.2.1 hb (Nat.le_refl _), HY1.out.2.2.1.below hb HY1.out.2.2.1.lt, HY1.out.2.2.2.1.below hb HY1.out.2.2.2.1.lt, HY1.out.2.2.2.2.below hb HY1.out.2.2.2.2.lt, hs, fun k hk => by have h1 := hab k hk; have h2 := HY1.out.2.2.2.1.lt; have h3 := HG.out; omega⟩)
  clear hs hb hab
  clear c0 c4
  have HRE := Lib.hid (show RR = (⟨o, pe, pr, pq, setU pg n true 6⟩, 0) from by rw [← HRR.out]; exact (chA_go HOK.out HBO.out HGO.out).trans (if_neg (by rw [HZ.out]; simp)))
  go_wp2_with (first
    | ((with_reducible refine wpList_store1 y96 rfl 22 (.tmp 119) (.tmp 118) rfl w.heap.size 4 24 (pmC o pe (Value.slice ra rl rc) (Value.slice qa ql qc) (Value.slice ga gl gc)) HY97.out.2.2.1 rfl (.slice m98a m98l m98c) rfl (by simp [pmC]) Try.sizeIs1 rfl rfl ?_); intro s99 hb hc hs; have hbw := below_ch HY97.out.2.1 hc (Nat.le_refl _) (fun k hk => by have e : k = w.heap.size := hk; have h1 := HG.out; omega); have HS100 := Lib.hid (show PmS s99 ⟨o, pe, pr, pq, pg⟩ (Value.slice ra rl rc) (Value.slice qa ql qc) (Value.slice ga gl gc) ∧ Below w.heap.size w s99 ∧ Blk s99 w.heap.size 24 (pmC o pe (Value.slice ra rl rc) (Value.slice qa ql qc) (Value.slice m98a m98l m98c)) ∧ Blk s99 a1.heap.size 24 (pmC 0 0 (.slice none 0 0) (.slice none 0 0) (.slice none 0 0)) ∧ Blk s99 a2.heap.size 24 (pmC 0 0 (.slice none 0 0) (.slice none 0 0) (.slice none 0 0)) ∧ Sl s99 (.slice m98a m98l m98c) (ofK .i64 (setU pg n true 6)) ∧ (∀ k, (Value.slice m98a m98l m98c).ownBlock = some k → w.heap.size < k ∧ a1.heap.size < k) from ⟨HPS.out.below hbw, hbw, hb, HY97.out.2.2.2.1.keep hc (fun e => by have e : a1.heap.size = w.heap.size := e; have h1 := HG.out; omega), HY97.out.2.2.2.2.1.keep hc (fun e => by have e : a2.heap.size = w.heap.size := e; have h1 := HG.out; omega), HY97.out.2.2.2.2.2.1.keep hc (fun k hk e => by have e : k = w.heap.size := e; have := HY97.out.2.2.2.2.2.2 k hk; have h1 := HG.out; omega), HY97.out.2.2.2.2.2.2⟩); clear hb hc hs hbw)
    | (with_reducible refine wpList_load_any rfl 24 (.tmp 4) rfl w.heap.size 0 rfl (pmC o pe (Value.slice ra rl rc) (Value.slice qa ql qc) (Value.slice m98a m98l m98c)) _ (rangeW_blk HS100.out.2.2.1) Try.underlying24 rfl (pmC_info _ _ _ _ _) ?_)
    | ((with_reducible refine wpList_store_blk s99 rfl 24 (.tmp 8) (.tmp 137) rfl a1.heap.size 24 (pmC 0 0 (.slice none 0 0) (.slice none 0 0) (.slice none 0 0)) (pmC o pe (Value.slice ra rl rc) (Value.slice qa ql qc) (Value.slice m98a m98l m98c)) HS100.out.2.2.2.1 rfl rfl rfl (pmC_info _ _ _ _ _) (pmC_one _ _ _ _ _ _ _ _ _ _ _) ?_); intro s101 hb hc hs; have hbw := below_ch HS100.out.2.1 hc (Nat.le_refl _) (fun k hk => by have e : k = a1.heap.size := hk; have h1 := HG.out; omega); have HS102 := Lib.hid (show PmS s101 ⟨o, pe, pr, pq, pg⟩ (Value.slice ra rl rc) (Value.slice qa ql qc) (Value.slice ga gl gc) ∧ Below w.heap.size w s101 ∧ Blk s101 w.heap.size 24 (pmC o pe (Value.slice ra rl rc) (Value.slice qa ql qc) (Value.slice m98a m98l m98c)) ∧ Blk s101 a1.heap.size 24 (pmC o pe (Value.slice ra rl rc) (Value.slice qa ql qc) (Value.slice m98a m98l m98c)) ∧ Blk s101 a2.heap.size 24 (pmC 0 0 (.slice none 0 0) (.slice none 0 0) (.slice none 0 0)) ∧ Sl s101 (.slice m98a m98l m98c) (ofK .i64 (setU pg n true 6)) ∧ (∀ k, (Value.slice m98a m98l m98c).ownBlock = some k → w.heap.size < k ∧ a1.heap.size < k) from ⟨HPS.out.below hbw, hbw, HS100.out.2.2.1.keep hc (fun e => by have e : w.heap.size = a1.heap.size := e; have h1 := HG.out; omega), hb, HS100.out.2.2.2.2.1.keep hc (fun e => by have e : a2.heap.size = a1.heap.size := e; have h1 := HG.out; omega), HS100.out.2.2.2.2.2.1.keep hc (fun k hk e => by have e : k = a1.heap.size := e; have := HS100.out.2.2.2.2.2.2 k hk; have h1 := HG.out; omega), HS100.out.2.2.2.2.2.2⟩); clear hb hc hs hbw))
  refine bodyPost_ret (results_cellTmp Try.results15 _ _ a1.heap.size _ _ rfl HS102.out.2.2.2.1 _ Try.underlying24 rfl (pmC_info _ _ _ _ _) _ rfl) rfl ?_
  rw [HRE.out]
  exact ⟨_, _, _, rfl, ⟨HS102.out.1.1, HS102.out.1.2.1, HS102.out.2.2.2.2.2.1⟩, HS102.out.2.1, fun g w2 hg hc h => ⟨h.1, h.2.1, HS102.out.2.2.2.2.2.1.keep hc (fun k hk e => by have e : k = g := e; have := HS102.out.2.2.2.2.2.2 k hk; omega)⟩⟩


set_option maxRecDepth 100000 in
set_option maxHeartbeats 8000000 in
theorem rchange4_any (p : PmD) (vr vq vg : Value) (b n : Int) (w : World) (hp : PmS w p vr vq vg) :
    Calls Try.prog 15 #[.agg (pmC p.o p.e vr vq vg).toArray, .int .i64 4, .int .i64 b, .int .i64 n] w (RefP w p vr vq vg (ch4 p b n)) := by
  obtain ⟨ra, rc, rfl, -⟩ := hp.1.shape
  obtain ⟨qa, qc, rfl, -⟩ := hp.2.1.shape
  obtain ⟨ga, gc, rfl, -⟩ := hp.2.2.shape
  obtain ⟨o, pe, pr, pq, pg⟩ := p
  simp only at hp ⊢
  simp only [length_ofK] at hp ⊢
  generalize pr.length = rl at hp ⊢
  generalize pq.length = ql at hp ⊢
  generalize pg.length = gl at hp ⊢
  have HPS := Lib.hid hp
  obtain ⟨ok, hok⟩ : ∃ x, okB ⟨o, pe, pr, pq, pg⟩ = x := ⟨_, rfl⟩
  have HOK := Lib.hid hok
  obtain ⟨RR, hRR⟩ : ∃ x, ch4 ⟨o, pe, pr, pq, pg⟩ b n = x := ⟨_, rfl⟩
  rw [hRR]
  have HRR := Lib.hid hRR
  have H0 := Lib.hid (show PmS w ⟨o, pe, pr, pq, pg⟩ (Value.slice ra rl rc) (Value.slice qa ql qc) (Value.slice ga gl gc) ∧ Below w.heap.size w w from ⟨hp, Below.refl _ _⟩)
  clear hp hok hRR
  go_enter Try.func15, Try.ntmps15
  go_wp2_with (first
    | ((with_reducible refine wpList_box_blk w rfl 24 (.tmp 0) rfl (pmC o pe (Value.slice ra rl rc) (Value.slice qa ql qc) (Value.slice ga gl gc)) rfl ?_); intro a1 hb hbel hsz; have HA1 := Lib.hid (show PmS a1 ⟨o, pe, pr, pq, pg⟩ (Value.slice ra rl rc) (Value.slice qa ql qc) (Value.slice ga gl gc) ∧ Below w.heap.size w a1 ∧ Blk a1 w.heap.size 24 (pmC o pe (Value.slice ra rl rc) (Value.slice qa ql qc) (Value.slice ga gl gc)) from ⟨H0.out.1.below hbel, below_thn H0.out.2 hbel (Nat.le_refl _), hb⟩); clear hb hbel hsz)
    | ((with_reducible refine wpList_alloc_blk a1 rfl 24 rfl (pmC 0 0 (.slice none 0 0) (.slice none 0 0) (.slice none 0 0)) Try.zeroPm ?_); intro a2 hb hbel hsz; have HA2 := Lib.hid (show PmS a2 ⟨o, pe, pr, pq, pg⟩ (Value.slice ra rl rc) (Value.slice qa ql qc) (Value.slice ga gl gc) ∧ Below w.heap.size w a2 ∧ Blk a2 w.heap.size 24 (pmC o pe (Value.slice ra rl rc) (Value.slice qa ql qc) (Value.slice ga gl gc)) ∧ Blk a2 a1.heap.size 24 (pmC 0 0 (.slice none 0 0) (.slice none 0 0) (.slice none 0 0)) from ⟨HA1.out.1.below hbel, below_thn HA1.out.2.1 hbel (Nat.le_refl _), HA1.out.2.2.below hbel HA1.out.2.2.lt, hb⟩); clear hb hbel hsz)
    | ((with_reducible refine wpList_build_zeroPm rfl rfl ?_))
    | ((with_reducible refine wpList_alloc_blk a2 rfl 24 rfl (pmC 0 0 (.slice none 0 0) (.slice none 0 0) (.slice none 0 0)) Try.zeroPm ?_); intro a3 hb hbel hsz; have HA3 := Lib.hid (show PmS a3 ⟨o, pe, pr, pq, pg⟩ (Value.slice ra rl rc) (Value.slice qa ql qc) (Value.slice ga gl gc) ∧ Below w.heap.size w a3 ∧ Blk a3 w.heap.size 24 (pmC o pe (Value.slice ra rl rc) (Value.slice qa ql qc) (Value.slice ga gl gc)) ∧ Blk a3 a1.heap.size 24 (pmC 0 0 (.slice none 0 0) (.slice none 0 0) (.slice none 0 0)) ∧ Blk a3 a2.heap.size 24 (pmC 0 0 (.slice none 0 0) (.slice none 0 0) (.slice none 0 0)) from ⟨HA2.out.1.below hbel, below_thn HA2.out.2.1 hbel (Nat.le_refl _), HA2.out.2.2.1.below hbel HA2.out.2.2.1.lt, HA2.out.2.2.2.below hbel HA2.out.2.2.2.lt, hb⟩); have HG := Lib.hid (show w.heap.size < a1.heap.size ∧ a1.heap.size < a2.heap.size from ⟨HA1.out.2.2.lt, HA2.out.2.2.2.lt⟩); clear hb hbel hsz)
    | ((with_reducible refine wpList_store_blk a3 rfl 24 (.tmp 10) (.tmp 11) rfl a2.heap.size 24 (pmC 0 0 (.slice none 0 0) (.slice none 0 0) (.slice none 0 0)) (pmC 0 0 (.slice none 0 0) (.slice none 0 0) (.slice none 0 0)) HA3.out.2.2.2.2 rfl rfl rfl (pmC_info _ _ _ _ _) (pmC_one _ _ _ _ _ _ _ _ _ _ _) ?_); intro s103 hb hc hs; have hbw := below_ch HA3.out.2.1 hc (Nat.le_refl _) (fun k hk => by have e : k = a2.heap.size := hk; have h1 := HG.out; omega); have HS104 := Lib.hid (show PmS s103 ⟨o, pe, pr, pq, pg⟩ (Value.slice ra rl rc) (Value.slice qa ql qc) (Value.slice ga gl gc) ∧ Below w.heap.size w s103 ∧ Blk s103 w.heap.size 24 (pmC o pe (Value.slice ra rl rc) (Value.slice qa ql qc) (Value.slice ga gl gc)) ∧ Blk s103 a1.heap.size 24 (pmC 0 0 (.slice none 0 0) (.slice none 0 0) (.slice none 0 0)) ∧ Blk s103 a2.heap.size 24 (pmC 0 0 (.slice none 0 0) (.slice none 0 0) (.slice none 0 0)) from ⟨HPS.out.below hbw, hbw, HA3.out.2.2.1.keep hc (fun e => by have e : w.heap.size = a2.heap.size := e; have h1 := HG.out; omega), HA3.out.2.2.2.1.keep hc (fun e => by have e : a1.heap.size = a2.heap.size := e; have h1 := HG.out; omega), hb⟩); clear hb hc hs hbw)
    | (with_reducible refine wpList_load_any rfl 24 (.tmp 4) rfl w.heap.size 0 rfl (pmC o pe (Value.slice ra rl rc) (Value.slice qa ql qc) (Value.slice ga gl gc)) _ (rangeW_blk HS104.out.2.2.1) Try.underlying24 rfl (pmC_info _ _ _ _ _) ?_))
  have hx := rright_any ⟨o, pe, pr, pq, pg⟩ _ _ _ s103 HS104.out.1
  rw [HOK.out] at hx
  refine Calls.mono hx ?_
  clear hx
  rintro e' y1 ⟨rfl, hb⟩
  have HY1 := Lib.hid (show PmS y1 ⟨o, pe, pr, pq, pg⟩ (Value.slice ra rl rc) (Value.slice qa ql qc) (Value.slice ga gl gc) ∧ Below w.heap.size w y1 ∧ Blk y1 w.heap.size 24 (pmC o pe (Value.slice ra rl rc) (Value.slice qa ql qc) (Value.slice ga gl gc)) ∧ Blk y1 a1.heap.size 24 (pmC 0 0 (.slice none 0 0) (.slice none 0 0) (.slice none 0 0)) ∧ Blk y1 a2.heap.size 24 (pmC 0 0 (.slice none 0 0) (.slice none 0 0) (.slice none 0 0)) from ⟨HS104.out.1.below hb, below_thn HS104.out.2.1 hb (Nat.le_refl _), HS104.out.2.2.1.below hb HS104.out.2.2.1.lt, HS104.out.2.2.2.1.below hb HS104.out.2.2.2.1.lt, HS104.out.2.2.2.2.below hb HS104.out.2.2.2.2.lt⟩)
  clear hb HA1 HA2 HA3 HS104
  cases ok
  · skip
    have HRE := Lib.hid (show RR = (noP, 210) from by rw [← HRR.out]; exact chA_perm HOK.out)
    go_wp2_with (first
    | (with_reducible refine wpList_load_any rfl 24 (.tmp 10) rfl a2.heap.size 0 rfl (pmC 0 0 (.slice none 0 0) (.slice none 0 0) (.slice none 0 0)) _ (rangeW_blk HY1.out.2.2.2.2) Try.underlying24 rfl (pmC_info _ _ _ _ _) ?_)
    | ((with_reducible refine wpList_store_blk y1 rfl 24 (.tmp 8) (.tmp 15) rfl a1.heap.size 24 (pmC 0 0 (.slice none 0 0) (.slice none 0 0) (.slice none 0 0)) (pmC 0 0 (.slice none 0 0) (.slice none 0 0) (.slice none 0 0)) HY1.out.2.2.2.1 rfl rfl rfl (pmC_info _ _ _ _ _) (pmC_one _ _ _ _ _ _ _ _ _ _ _) ?_); intro s105 hb hc hs; have hbw := below_ch HY1.out.2.1 hc (Nat.le_refl _) (fun k hk => by have e : k = a1.heap.size := hk; have h1 := HG.out; omega); have HS106 := Lib.hid (show PmS s105 ⟨o, pe, pr, pq, pg⟩ (Value.slice ra rl rc) (Value.slice qa ql qc) (Value.slice ga gl gc) ∧ Below w.heap.size w s105 ∧ Blk s105 w.heap.size 24 (pmC o pe (Value.slice ra rl rc) (Value.slice qa ql qc) (Value.slice ga gl gc)) ∧ Blk s105 a1.heap.size 24 (pmC 0 0 (.slice none 0 0) (.slice none 0 0) (.slice none 0 0)) ∧ Blk s105 a2.heap.size 24 (pmC 0 0 (.slice none 0 0) (.slice none 0 0) (.slice none 0 0)) from ⟨HPS.out.below hbw, hbw, HY1.out.2.2.1.keep hc (fun e => by have e : w.heap.size = a1.heap.size := e; have h1 := HG.out; omega), hb, HY1.out.2.2.2.2.keep hc (fun e => by have e : a2.heap.size = a1.heap.size := e; have h1 := HG.out; omega)⟩); clear hb hc hs hbw))
    refine bodyPost_ret (results_cellTmp Try.results15 _ _ a1.heap.size _ _ rfl HS106.out.2.2.2.1 _ Try.underlying24 rfl (pmC_info _ _ _ _ _) _ rfl) rfl ?_
    rw [HRE.out]
    exact ⟨_, _, _, rfl, PmS.nil _, HS106.out.2.1, fun g w2 hg hc h => PmS.nil _⟩
  have HE := Lib.hid (okB_iff.1 HOK.out).e
  have c0 := HY1.out.2.2.1.cell 0
  simp only [pmC, List.getElem?_cons_zero, List.getElem?_cons_succ] at c0
  by_cases hbo : b = o
  rotate_left
  · have e1 : (b != o) = true := by simpa using hbo
    have HBO := Lib.hid hbo
    clear hbo
    have HRE := Lib.hid (show RR = (noP, 211) from by rw [← HRR.out]; exact chA_owner HOK.out HBO.out)
    go_wp2_with (first
    | (with_reducible refine wpList_load_any rfl 24 (.tmp 10) rfl a2.heap.size 0 rfl (pmC 0 0 (.slice none 0 0) (.slice none 0 0) (.slice none 0 0)) _ (rangeW_blk HY1.out.2.2.2.2) Try.underlying24 rfl (pmC_info _ _ _ _ _) ?_)
    | ((with_reducible refine wpList_store_blk y1 rfl 24 (.tmp 8) (.tmp 26) rfl a1.heap.size 24 (pmC 0 0 (.slice none 0 0) (.slice none 0 0) (.slice none 0 0)) (pmC 0 0 (.slice none 0 0) (.slice none 0 0) (.slice none 0 0)) HY1.out.2.2.2.1 rfl rfl rfl (pmC_info _ _ _ _ _) (pmC_one _ _ _ _ _ _ _ _ _ _ _) ?_); intro s107 hb hc hs; have hbw := below_ch HY1.out.2.1 hc (Nat.le_refl _) (fun k hk => by have e : k = a1.heap.size := hk; have h1 := HG.out; omega); have HS108 := Lib.hid (show PmS s107 ⟨o, pe, pr, pq, pg⟩ (Value.slice ra rl rc) (Value.slice qa ql qc) (Value.slice ga gl gc) ∧ Below w.heap.size w s107 ∧ Blk s107 w.heap.size 24 (pmC o pe (Value.slice ra rl rc) (Value.slice qa ql qc) (Value.slice ga gl gc)) ∧ Blk s107 a1.heap.size 24 (pmC 0 0 (.slice none 0 0) (.slice none 0 0) (.slice none 0 0)) ∧ Blk s107 a2.heap.size 24 (pmC 0 0 (.slice none 0 0) (.slice none 0 0) (.slice none 0 0)) from ⟨HPS.out.below hbw, hbw, HY1.out.2.2.1.keep hc (fun e => by have e : w.heap.size = a1.heap.size := e; have h1 := HG.out; omega), hb, HY1.out.2.2.2.2.keep hc (fun e => by have e : a2.heap.size = a1.heap.size := e; have h1 := HG.out; omega)⟩); clear hb hc hs hbw))
    refine bodyPost_ret (results_cellTmp Try.results15 _ _ a1.heap.size _ _ rfl HS108.out.2.2.2.1 _ Try.underlying24 rfl (pmC_info _ _ _ _ _) _ rfl) rfl ?_
    rw [HRE.out]
    exact ⟨_, _, _, rfl, PmS.nil _, HS108.out.2.1, fun g w2 hg hc h => PmS.nil _⟩
  have e1 : (b != o) = false := by simpa using hbo
  have HBO := Lib.hid hbo
  clear hbo
  by_cases hx : n < 1
  · have HX := Lib.hid hx
    have d0 : decide (n < 1) = true := by simpa using hx
    clear hx
    have HRE := Lib.hid (show RR = (noP, 2) from by rw [← HRR.out]; exact chA_arg HOK.out HBO.out (show argG n from .inl HX.out))
    go_wp2_with (first
    | (with_reducible refine wpList_load_any rfl 24 (.tmp 10) rfl a2.heap.size 0 rfl (pmC 0 0 (.slice none 0 0) (.slice none 0 0) (.slice none 0 0)) _ (rangeW_blk HY1.out.2.2.2.2) Try.underlying24 rfl (pmC_info _ _ _ _ _) ?_)
    | ((with_reducible refine wpList_store_blk y1 rfl 24 (.tmp 8) (.tmp 55) rfl a1.heap.size 24 (pmC 0 0 (.slice none 0 0) (.slice none 0 0) (.slice none 0 0)) (pmC 0 0 (.slice none 0 0) (.slice none 0 0) (.slice none 0 0)) HY1.out.2.2.2.1 rfl rfl rfl (pmC_info _ _ _ _ _) (pmC_one _ _ _ _ _ _ _ _ _ _ _) ?_); intro s109 hb hc hs; have hbw := below_ch HY1.out.2.1 hc (Nat.le_refl _) (fun k hk => by have e : k = a1.heap.size := hk; have h1 := HG.out; omega); have HS110 := Lib.hid (show PmS s109 ⟨o, pe, pr, pq, pg⟩ (Value.slice ra rl rc) (Value.slice qa ql qc) (Value.slice ga gl gc) ∧ Below w.heap.size w s109 ∧ Blk s109 w.heap.size 24 (pmC o pe (Value.slice ra rl rc) (Value.slice qa ql qc) (Value.slice ga gl gc)) ∧ Blk s109 a1.heap.size 24 (pmC 0 0 (.slice none 0 0) (.slice none 0 0) (.slice none 0 0)) ∧ Blk s109 a2.heap.size 24 (pmC 0 0 (.slice none 0 0) (.slice none 0 0) (.slice none 0 0)) from ⟨HPS.out.below hbw, hbw, HY1.out.2.2.1.keep hc (fun e => by have e : w.heap.size = a1.heap.size := e; have h1 := HG.out; omega), hb, HY1.out.2.2.2.2.keep hc (fun e => by have e : a2.heap.size = a1.heap.size := e; have h1 := HG.out; omega)⟩); clear hb hc hs hbw))
    refine bodyPost_ret (results_cellTmp Try.results15 _ _ a1.heap.size _ _ rfl HS110.out.2.2.2.1 _ Try.underlying24 rfl (pmC_info _ _ _ _ _) _ rfl) rfl ?_
    rw [HRE.out]
    exact ⟨_, _, _, rfl, PmS.nil _, HS110.out.2.1, fun g w2 hg hc h => PmS.nil _⟩
  have HX0 := Lib.hid hx
  have d0 : decide (n < 1) = false := by simpa using hx
  clear hx
  by_cases hx : 3 < n
  · have HX := Lib.hid hx
    have d1 : decide (3 < n) = true := by simpa using hx
    clear hx
    have HRE := Lib.hid (show RR = (noP, 2) from by rw [← HRR.out]; exact chA_arg HOK.out HBO.out (show argG n from .inr HX.out))
    go_wp2_with (first
    | (with_reducible refine wpList_load_any rfl 24 (.tmp 10) rfl a2.heap.size 0 rfl (pmC 0 0 (.slice none 0 0) (.slice none 0 0) (.slice none 0 0)) _ (rangeW_blk HY1.out.2.2.2.2) Try.underlying24 rfl (pmC_info _ _ _ _ _) ?_)
    | ((with_reducible refine wpList_store_blk y1 rfl 24 (.tmp 8) (.tmp 55) rfl a1.heap.size 24 (pmC 0 0 (.slice none 0 0) (.slice none 0 0) (.slice none 0 0)) (pmC 0 0 (.slice none 0 0) (.slice none 0 0) (.slice none 0 0)) HY1.out.2.2.2.1 rfl rfl rfl (pmC_info _ _ _ _ _) (pmC_one _ _ _ _ _ _ _ _ _ _ _) ?_); intro s111 hb hc hs; have hbw := below_ch HY1.out.2.1 hc (Nat.le_refl _) (fun k hk => by have e : k = a1.heap.size := hk; have h1 := HG.out; omega); have HS112 := Lib.hid (show PmS s111 ⟨o, pe, pr, pq, pg⟩ (Value.slice ra rl rc) (Value.slice qa ql qc) (Value.slice ga gl gc) ∧ Below w.heap.size w s111 ∧ Blk s111 w.heap.size 24 (pmC o pe (Value.slice ra rl rc) (Value.slice qa ql qc) (Value.slice ga gl gc)) ∧ Blk s111 a1.heap.size 24 (pmC 0 0 (.slice none 0 0) (.slice none 0 0) (.slice none 0 0)) ∧ Blk s111 a2.heap.size 24 (pmC 0 0 (.slice none 0 0) (.slice none 0 0) (.slice none 0 0)) from ⟨HPS.out.below hbw, hbw, HY1.out.2.2.1.keep hc (fun e => by have e : w.heap.size = a1.heap.size := e; have h1 := HG.out; omega), hb, HY1.out.2.2.2.2.keep hc (fun e => by have e : a2.heap.size = a1.heap.size := e; have h1 := HG.out; omega)⟩); clear hb hc hs hbw))
    refine bodyPost_ret (results_cellTmp Try.results15 _ _ a1.heap.size _ _ rfl HS112.out.2.2.2.1 _ Try.underlying24 rfl (pmC_info _ _ _ _ _) _ rfl) rfl ?_
    rw [HRE.out]
    exact ⟨_, _, _, rfl, PmS.nil _, HS112.out.2.1, fun g w2 hg hc h => PmS.nil _⟩
  have HX1 := Lib.hid hx
  have d1 : decide (3 < n) = false := by simpa using hx
  clear hx
  have HGO := Lib.hid (show ¬ argG n from fun h => h.elim HX0.out HX1.out)
  have c4 := HY1.out.2.2.1.cell 4
  simp only [pmC, List.getElem?_cons_zero, List.getElem?_cons_succ] at c4
  go_wp2_with fail
  obtain ⟨z, hz⟩ : ∃ z, inB pg n = z := ⟨_, rfl⟩
  have HZ := Lib.hid hz
  have hx := rin_any (.slice ga gl gc) pg n y1 HY1.out.1.2.2
  rw [hz] at hx
  clear hz
  refine Calls.mono hx ?_
  clear hx
  rintro e' w9 ⟨rfl, rfl⟩
  cases z
  · skip
    have HRE := Lib.hid (show RR = (noP, 4) from by rw [← HRR.out]; exact (chA_go HOK.out HBO.out HGO.out).trans (if_pos HZ.out))
    go_wp2_with (first
    | (with_reducible refine wpList_load_any rfl 24 (.tmp 10) rfl a2.heap.size 0 rfl (pmC 0 0 (.slice none 0 0) (.slice none 0 0) (.slice none 0 0)) _ (rangeW_blk HY1.out.2.2.2.2) Try.underlying24 rfl (pmC_info _ _ _ _ _) ?_)
    | ((with_reducible refine wpList_store_blk y1 rfl 24 (.tmp 8) (.tmp 127) rfl a1.heap.size 24 (pmC 0 0 (.slice none 0 0) (.slice none 0 0) (.slice none 0 0)) (pmC 0 0 (.slice none 0 0) (.slice none 0 0) (.slice none 0 0)) HY1.out.2.2.2.1 rfl rfl rfl (pmC_info _ _ _ _ _) (pmC_one _ _ _ _ _ _ _ _ _ _ _) ?_); intro s113 hb hc hs; have hbw := below_ch HY1.out.2.1 hc (Nat.le_refl _) (fun k hk => by have e : k = a1.heap.size := hk; have h1 := HG.out; omega); have HS114 := Lib.hid (show PmS s113 ⟨o, pe, pr, pq, pg⟩ (Value.slice ra rl rc) (Value.slice qa ql qc) (Value.slice ga gl gc) ∧ Below w.heap.size w s113 ∧ Blk s113 w.heap.size 24 (pmC o pe (Value.slice ra rl rc) (Value.slice qa ql qc) (Value.slice ga gl gc)) ∧ Blk s113 a1.heap.size 24 (pmC 0 0 (.slice none 0 0) (.slice none 0 0) (.slice none 0 0)) ∧ Blk s113 a2.heap.size 24 (pmC 0 0 (.slice none 0 0) (.slice none 0 0) (.slice none 0 0)) from ⟨HPS.out.below hbw, hbw, HY1.out.2.2.1.keep hc (fun e => by have e : w.heap.size = a1.heap.size := e; have h1 := HG.out; omega), hb, HY1.out.2.2.2.2.keep hc (fun e => by have e : a2.heap.size = a1.heap.size := e; have h1 := HG.out; omega)⟩); clear hb hc hs hbw))
    refine bodyPost_ret (results_cellTmp Try.results15 _ _ a1.heap.size _ _ rfl HS114.out.2.2.2.1 _ Try.underlying24 rfl (pmC_info _ _ _ _ _) _ rfl) rfl ?_
    rw [HRE.out]
    exact ⟨_, _, _, rfl, PmS.nil _, HS114.out.2.1, fun g w2 hg hc h => PmS.nil _⟩
  go_wp2_with fail
  refine (rset_any (.slice ga gl gc) pg n false y1 HY1.out.1.2.2).mono ?_
  rintro e' y115 ⟨m117a, m117l, m117c, rfl, hs, hb, hab⟩
  have HY116 := Lib.hid (show PmS y115 ⟨o, pe, pr, pq, pg⟩ (Value.slice ra rl rc) (Value.slice qa ql qc) (Value.slice ga gl gc) ∧ Below w.heap.size w y115 ∧ Blk y115 w.heap.size 24 (pmC o pe (Value.slice ra rl rc) (Value.slice qa ql qc) (Value.slice ga gl gc)) ∧ Blk y115 a1.heap.size 24 (pmC 0 0 (.slice none 0 0) (.slice none 0 0) (.slice none 0 0)) ∧ Blk y115 a2.heap.size 24 (pmC 0 0 (.slice none 0 0) (.slice none 0 0) (.slice none 0 0)) ∧ Sl y115 (.slice m117a m117l m117c) (ofK .i64 (setU pg n false 6)) ∧ (∀ k, (Value.slice m117a m117l m117c).ownBlock = some k → w.heap.size < k ∧ a1.heap.size < k) from ⟨HY1.out.1.below hb, below_thn HY1.out.2.1 hb (Nat.le_refl _), HY1.out.2.2.1.below hb HY1.out.2.2.1.lt, HY1.out.2.2.2.1.below hb HY1.out.2.2.2.1.lt, HY1.out.2.2.2.2.below hb HY1.out.2.2.2.2.lt, hs, fun k hk => by have h1 := hab k hk; have h2 := HY1.out.2.2.2.1.lt; have h3 := HG.out; omega⟩)
  clear hs hb hab
  clear c0 c4
  go_wp2_with (first
    | ((with_reducible refine wpList_store1 y115 rfl 22 (.tmp 132) (.tmp 131) rfl w.heap.size 4 24 (pmC o pe (Value.slice ra rl rc) (Value.slice qa ql qc) (Value.slice ga gl gc)) HY116.out.2.2.1 rfl (.slice m117a m117l m117c) rfl (by simp [pmC]) Try.sizeIs1 rfl rfl ?_); intro s118 hb hc hs; have hbw := below_ch HY116.out.2.1 hc (Nat.le_refl _) (fun k hk => by have e : k = w.heap.size := hk; have h1 := HG.out; omega); have HS119 := Lib.hid (show PmS s118 ⟨o, pe, pr, pq, pg⟩ (Value.slice ra rl rc) (Value.slice qa ql qc) (Value.slice ga gl gc) ∧ Below w.heap.size w s118 ∧ Blk s118 w.heap.size 24 (pmC o pe (Value.slice ra rl rc) (Value.slice qa ql qc) (Value.slice m117a m117l m117c)) ∧ Blk s118 a1.heap.size 24 (pmC 0 0 (.slice none 0 0) (.slice none 0 0) (.slice none 0 0)) ∧ Blk s118 a2.heap.size 24 (pmC 0 0 (.slice none 0 0) (.slice none 0 0) (.slice none 0 0)) ∧ Sl s118 (.slice m117a m117l m117c) (ofK .i64 (setU pg n false 6)) ∧ (∀ k, (Value.slice m117a m117l m117c).ownBlock = some k → w.heap.size < k ∧ a1.heap.size < k) from ⟨HPS.out.below hbw, hbw, hb, HY116.out.2.2.2.1.keep hc (fun e => by have e : a1.heap.size = w.heap.size := e; have h1 := HG.out; omega), HY116.out.2.2.2.2.1.keep hc (fun e => by have e : a2.heap.size = w.heap.size := e; have h1 := HG.out; omega), HY116.out.2.2.2.2.2.1.keep hc (fun k hk e => by have e : k = w.heap.size := e; have := HY116.out.2.2.2.2.2.2 k hk; have h1 := HG.out; omega), HY116.out.2.2.2.2.2.2⟩); clear hb hc hs hbw)
    | (with_reducible refine wpList_load_any rfl 24 (.tmp 4) rfl w.heap.size 0 rfl (pmC o pe (Value.slice ra rl rc) (Value.slice qa ql qc) (Value.slice m117a m117l m117c)) _ (rangeW_blk HS119.out.2.2.1) Try.underlying24 rfl (pmC_info _ _ _ _ _) ?_))
  have hx := rnext_any o pe (pr) (pq) (setU pg n false 6) ra rl rc qa ql qc m117a m117l m117c s118 HE.out.1 HE.out.2 ⟨HS119.out.1.1, HS119.out.1.2.1, HS119.out.2.2.2.2.2.1⟩
  by_cases h8 : pe = 8
  · rw [if_pos h8] at hx
    have HRE := Lib.hid (show RR = (noP, 212) from by rw [← HRR.out]; exact ((chA_go HOK.out HBO.out HGO.out).trans (if_neg (by rw [HZ.out]; simp))).trans (if_pos h8))
    clear h8
    refine Calls.mono hx ?_
    clear hx
    rintro e' y120 ⟨rfl, hb⟩
    have HY121 := Lib.hid (show PmS y120 ⟨o, pe, pr, pq, pg⟩ (Value.slice ra rl rc) (Value.slice qa ql qc) (Value.slice ga gl gc) ∧ Below w.heap.size w y120 ∧ Blk y120 w.heap.size 24 (pmC o pe (Value.slice ra rl rc) (Value.slice qa ql qc) (Value.slice m117a m117l m117c)) ∧ Blk y120 a1.heap.size 24 (pmC 0 0 (.slice none 0 0) (.slice none 0 0) (.slice none 0 0)) ∧ Blk y120 a2.heap.size 24 (pmC 0 0 (.slice none 0 0) (.slice none 0 0) (.slice none 0 0)) ∧ Sl y120 (.slice m117a m117l m117c) (ofK .i64 (setU pg n false 6)) ∧ (∀ k, (Value.slice m117a m117l m117c).ownBlock = some k → w.heap.size < k ∧ a1.heap.size < k) from ⟨HS119.out.1.below hb, below_thn HS119.out.2.1 hb (Nat.le_refl _), HS119.out.2.2.1.below hb HS119.out.2.2.1.lt, HS119.out.2.2.2.1.below hb HS119.out.2.2.2.1.lt, HS119.out.2.2.2.2.1.below hb HS119.out.2.2.2.2.1.lt, HS119.out.2.2.2.2.2.1.below hb (Nat.le_refl _), HS119.out.2.2.2.2.2.2⟩)
    clear hb
    go_wp2_with (first
    | ((with_reducible refine wpList_store_blk y120 rfl 24 (.tmp 8) (.tmp 135) rfl a1.heap.size 24 (pmC 0 0 (.slice none 0 0) (.slice none 0 0) (.slice none 0 0)) (pmC 0 0 (.slice none 0 0) (.slice none 0 0) (.slice none 0 0)) HY121.out.2.2.2.1 rfl rfl rfl (pmC_info _ _ _ _ _) (pmC_one _ _ _ _ _ _ _ _ _ _ _) ?_); intro s122 hb hc hs; have hbw := below_ch HY121.out.2.1 hc (Nat.le_refl _) (fun k hk => by have e : k = a1.heap.size := hk; have h1 := HG.out; omega); have HS123 := Lib.hid (show PmS s122 ⟨o, pe, pr, pq, pg⟩ (Value.slice ra rl rc) (Value.slice qa ql qc) (Value.slice ga gl gc) ∧ Below w.heap.size w s122 ∧ Blk s122 w.heap.size 24 (pmC o pe (Value.slice ra rl rc) (Value.slice qa ql qc) (Value.slice m117a m117l m117c)) ∧ Blk s122 a1.heap.size 24 (pmC 0 0 (.slice none 0 0) (.slice none 0 0) (.slice none 0 0)) ∧ Blk s122 a2.heap.size 24 (pmC 0 0 (.slice none 0 0) (.slice none 0 0) (.slice none 0 0)) ∧ Sl s122 (.slice m117a m117l m117c) (ofK .i64 (setU pg n false 6)) ∧ (∀ k, (Value.slice m117a m117l m117c).ownBlock = some k → w.heap.size < k ∧ a1.heap.size < k) from ⟨HPS.out.below hbw, hbw, HY121.out.2.2.1.keep hc (fun e => by have e : w.heap.size = a1.heap.size := e; have h1 := HG.out; omega), hb, HY121.out.2.2.2.2.1.keep hc (fun e => by have e : a2.heap.size = a1.heap.size := e; have h1 := HG.out; omega), HY121.out.2.2.2.2.2.1.keep hc (fun k hk e => by have e : k = a1.heap.size := e; have := HY121.out.2.2.2.2.2.2 k hk; have h1 := HG.out; omega), HY121.out.2.2.2.2.2.2⟩); clear hb hc hs hbw))
    refine bodyPost_ret (results_cellTmp Try.results15 _ _ a1.heap.size _ _ rfl HS123.out.2.2.2.1 _ Try.underlying24 rfl (pmC_info _ _ _ _ _) _ rfl) rfl ?_
    rw [HRE.out]
    exact ⟨_, _, _, rfl, PmS.nil _, HS123.out.2.1, fun g w2 hg hc h => PmS.nil _⟩
  · rw [if_neg h8] at hx
    have HRE := Lib.hid (show RR = (⟨o, pe + 1, pr, pq, setU pg n false 6⟩, 0) from by rw [← HRR.out]; exact ((chA_go HOK.out HBO.out HGO.out).trans (if_neg (by rw [HZ.out]; simp))).trans (if_neg h8))
    clear h8
    refine Calls.mono hx ?_
    clear hx
    rintro e' y124 ⟨rfl, hb⟩
    have HY125 := Lib.hid (show PmS y124 ⟨o, pe, pr, pq, pg⟩ (Value.slice ra rl rc) (Value.slice qa ql qc) (Value.slice ga gl gc) ∧ Below w.heap.size w y124 ∧ Blk y124 w.heap.size 24 (pmC o pe (Value.slice ra rl rc) (Value.slice qa ql qc) (Value.slice m117a m117l m117c)) ∧ Blk y124 a1.heap.size 24 (pmC 0 0 (.slice none 0 0) (.slice none 0 0) (.slice none 0 0)) ∧ Blk y124 a2.heap.size 24 (pmC 0 0 (.slice none 0 0) (.slice none 0 0) (.slice none 0 0)) ∧ Sl y124 (.slice m117a m117l m117c) (ofK .i64 (setU pg n false 6)) ∧ (∀ k, (Value.slice m117a m117l m117c).ownBlock = some k → w.heap.size < k ∧ a1.heap.size < k) from ⟨HS119.out.1.below hb, below_thn HS119.out.2.1 hb (Nat.le_refl _), HS119.out.2.2.1.below hb HS119.out.2.2.1.lt, HS119.out.2.2.2.1.below hb HS119.out.2.2.2.1.lt, HS119.out.2.2.2.2.1.below hb HS119.out.2.2.2.2.1.lt, HS119.out.2.2.2.2.2.1.below hb (Nat.le_refl _), HS119.out.2.2.2.2.2.2⟩)
    clear hb
    go_wp2_with (first
    | ((with_reducible refine wpList_store_blk y124 rfl 24 (.tmp 8) (.tmp 135) rfl a1.heap.size 24 (pmC 0 0 (.slice none 0 0) (.slice none 0 0) (.slice none 0 0)) (pmC o (pe + 1) (Value.slice ra rl rc) (Value.slice qa ql qc) (Value.slice m117a m117l m117c)) HY125.out.2.2.2.1 rfl rfl rfl (pmC_info _ _ _ _ _) (pmC_one _ _ _ _ _ _ _ _ _ _ _) ?_); intro s126 hb hc hs; have hbw := below_ch HY125.out.2.1 hc (Nat.le_refl _) (fun k hk => by have e : k = a1.heap.size := hk; have h1 := HG.out; omega); have HS127 := Lib.hid (show PmS s126 ⟨o, pe, pr, pq, pg⟩ (Value.slice ra rl rc) (Value.slice qa ql qc) (Value.slice ga gl gc) ∧ Below w.heap.size w s126 ∧ Blk s126 w.heap.size 24 (pmC o pe (Value.slice ra rl rc) (Value.slice qa ql qc) (Value.slice m117a m117l m117c)) ∧ Blk s126 a1.heap.size 24 (pmC o (pe + 1) (Value.slice ra rl rc) (Value.slice qa ql qc) (Value.slice m117a m117l m117c)) ∧ Blk s126 a2.heap.size 24 (pmC 0 0 (.slice none 0 0) (.slice none 0 0) (.slice none 0 0)) ∧ Sl s126 (.slice m117a m117l m117c) (ofK .i64 (setU pg n false 6)) ∧ (∀ k, (Value.slice m117a m117l m117c).ownBlock = some k → w.heap.size < k ∧ a1.heap.size < k) from ⟨HPS.out.below hbw, hbw, HY125.out.2.2.1.keep hc (fun e => by have e : w.heap.size = a1.heap.size := e; have h1 := HG.out; omega), hb, HY125.out.2.2.2.2.1.keep hc (fun e => by have e : a2.heap.size = a1.heap.size := e; have h1 := HG.out; omega), HY125.out.2.2.2.2.2.1.keep hc (fun k hk e => by have e : k = a1.heap.size := e; have := HY125.out.2.2.2.2.2.2 k hk; have h1 := HG.out; omega), HY125.out.2.2.2.2.2.2⟩); clear hb hc hs hbw))
    refine bodyPost_ret (results_cellTmp Try.results15 _ _ a1.heap.size _ _ rfl HS127.out.2.2.2.1 _ Try.underlying24 rfl (pmC_info _ _ _ _ _) _ rfl) rfl ?_
    rw [HRE.out]
    exact ⟨_, _, _, rfl, ⟨HS127.out.1.1, HS127.out.1.2.1, HS127.out.2.2.2.2.2.1⟩, HS127.out.2.1, fun g w2 hg hc h => ⟨h.1, h.2.1, HS127.out.2.2.2.2.2.1.keep hc (fun k hk e => by have e : k = g := e; have := HS127.out.2.2.2.2.2.2 k hk; omega)⟩⟩


set_option maxRecDepth 100000 in
set_option maxHeartbeats 8000000 in
theorem rchange5_any (p : PmD) (vr vq vg : Value) (b n : Int) (w : World) (hp : PmS w p vr vq vg) :
    Calls Try.prog 15 #[.agg (pmC p.o p.e vr vq vg).toArray, .int .i64 5, .int .i64 b, .int .i64 n] w (RefP w p vr vq vg (ch5 p)) := by
  obtain ⟨ra, rc, rfl, -⟩ := hp.1.shape
  obtain ⟨qa, qc, rfl, -⟩ := hp.2.1.shape
  obtain ⟨ga, gc, rfl, -⟩ := hp.2.2.shape
  obtain ⟨o, pe, pr, pq, pg⟩ := p
  simp only at hp ⊢
  simp only [length_ofK] at hp ⊢
  generalize pr.length = rl at hp ⊢
  generalize pq.length = ql at hp ⊢
  generalize pg.length = gl at hp ⊢
  have HPS := Lib.hid hp
  obtain ⟨ok, hok⟩ : ∃ x, okB ⟨o, pe, pr, pq, pg⟩ = x := ⟨_, rfl⟩
  have HOK := Lib.hid hok
  obtain ⟨RR, hRR⟩ : ∃ x, ch5 ⟨o, pe, pr, pq, pg⟩ = x := ⟨_, rfl⟩
  rw [hRR]
  have HRR := Lib.hid hRR
  have H0 := Lib.hid (show PmS w ⟨o, pe, pr, pq, pg⟩ (Value.slice ra rl rc) (Value.slice qa ql qc) (Value.slice ga gl gc) ∧ Below w.heap.size w w from ⟨hp, Below.refl _ _⟩)
  clear hp hok hRR
  go_enter Try.func15, Try.ntmps15
  go_wp2_with (first
    | ((with_reducible refine wpList_box_blk w rfl 24 (.tmp 0) rfl (pmC o pe (Value.slice ra rl rc) (Value.slice qa ql qc) (Value.slice ga gl gc)) rfl ?_); intro a1 hb hbel hsz; have HA1 := Lib.hid (show PmS a1 ⟨o, pe, pr, pq, pg⟩ (Value.slice ra rl rc) (Value.slice qa ql qc) (Value.slice ga gl gc) ∧ Below w.heap.size w a1 ∧ Blk a1 w.heap.size 24 (pmC o pe (Value.slice ra rl rc) (Value.slice qa ql qc) (Value.slice ga gl gc)) from ⟨H0.out.1.below hbel, below_thn H0.out.2 hbel (Nat.le_refl _), hb⟩); clear hb hbel hsz)
    | ((with_reducible refine wpList_alloc_blk a1 rfl 24 rfl (pmC 0 0 (.slice none 0 0) (.slice none 0 0) (.slice none 0 0)) Try.zeroPm ?_); intro a2 hb hbel hsz; have HA2 := Lib.hid (show PmS a2 ⟨o, pe, pr, pq, pg⟩ (Value.slice ra rl rc) (Value.slice qa ql qc) (Value.slice ga gl gc) ∧ Below w.heap.size w a2 ∧ Blk a2 w.heap.size 24 (pmC o pe (Value.slice ra rl rc) (Value.slice qa ql qc) (Value.slice ga gl gc)) ∧ Blk a2 a1.heap.size 24 (pmC 0 0 (.slice none 0 0) (.slice none 0 0) (.slice none 0 0)) from ⟨HA1.out.1.below hbel, below_thn HA1.out.2.1 hbel (Nat.le_refl _), HA1.out.2.2.below hbel HA1.out.2.2.lt, hb⟩); clear hb hbel hsz)
    | ((with_reducible refine wpList_build_zeroPm rfl rfl ?_))
    | ((with_reducible refine wpList_alloc_blk a2 rfl 24 rfl (pmC 0 0 (.slice none 0 0) (.slice none 0 0) (.slice none 0 0)) Try.zeroPm ?_); intro a3 hb hbel hsz; have HA3 := Lib.hid (show PmS a3 ⟨o, pe, pr, pq, pg⟩ (Value.slice ra rl rc) (Value.slice qa ql qc) (Value.slice ga gl gc) ∧ Below w.heap.size w a3 ∧ Blk a3 w.heap.size 24 (pmC o pe (Value.slice ra rl rc) (Value.slice qa ql qc) (Value.slice ga gl gc)) ∧ Blk a3 a1.heap.size 24 (pmC 0 0 (.slice none 0 0) (.slice none 0 0) (.slice none 0 0)) ∧ Blk a3 a2.heap.size 24 (pmC 0 0 (.slice none 0 0) (.slice none 0 0) (.slice none 0 0)) from ⟨HA2.out.1.below hbel, below_thn HA2.out.2.1 hbel (Nat.le_refl _), HA2.out.2.2.1.below hbel HA2.out.2.2.1.lt, HA2.out.2.2.2.below hbel HA2.out.2.2.2.lt, hb⟩); have HG := Lib.hid (show w.heap.size < a1.heap.size ∧ a1.heap.size < a2.heap.size from ⟨HA1.out.2.2.lt, HA2.out.2.2.2.lt⟩); clear hb hbel hsz)
    | ((with_reducible refine wpList_store_blk a3 rfl 24 (.tmp 10) (.tmp 11) rfl a2.heap.size 24 (pmC 0 0 (.slice none 0 0) (.slice none 0 0) (.slice none 0 0)) (pmC 0 0 (.slice none 0 0) (.slice none 0 0) (.slice none 0 0)) HA3.out.2.2.2.2 rfl rfl rfl (pmC_info _ _ _ _ _) (pmC_one _ _ _ _ _ _ _ _ _ _ _) ?_); intro s128 hb hc hs; have hbw := below_ch HA3.out.2.1 hc (Nat.le_refl _) (fun k hk => by have e : k = a2.heap.size := hk; have h1 := HG.out; omega); have HS129 := Lib.hid (show PmS s128 ⟨o, pe, pr, pq, pg⟩ (Value.slice ra rl rc) (Value.slice qa ql qc) (Value.slice ga gl gc) ∧ Below w.heap.size w s128 ∧ Blk s128 w.heap.size 24 (pmC o pe (Value.slice ra rl rc) (Value.slice qa ql qc) (Value.slice ga gl gc)) ∧ Blk s128 a1.heap.size 24 (pmC 0 0 (.slice none 0 0) (.slice none 0 0) (.slice none 0 0)) ∧ Blk s128 a2.heap.size 24 (pmC 0 0 (.slice none 0 0) (.slice none 0 0) (.slice none 0 0)) from ⟨HPS.out.below hbw, hbw, HA3.out.2.2.1.keep hc (fun e => by have e : w.heap.size = a2.heap.size := e; have h1 := HG.out; omega), HA3.out.2.2.2.1.keep hc (fun e => by have e : a1.heap.size = a2.heap.size := e; have h1 := HG.out; omega), hb⟩); clear hb hc hs hbw)
    | (with_reducible refine wpList_load_any rfl 24 (.tmp 4) rfl w.heap.size 0 rfl (pmC o pe (Value.slice ra rl rc) (Value.slice qa ql qc) (Value.slice ga gl gc)) _ (rangeW_blk HS129.out.2.2.1) Try.underlying24 rfl (pmC_info _ _ _ _ _) ?_))
  have hx := rright_any ⟨o, pe, pr, pq, pg⟩ _ _ _ s128 HS129.out.1
  rw [HOK.out] at hx
  refine Calls.mono hx ?_
  clear hx
  rintro e' y1 ⟨rfl, hb⟩
  have HY1 := Lib.hid (show PmS y1 ⟨o, pe, pr, pq, pg⟩ (Value.slice ra rl rc) (Value.slice qa ql qc) (Value.slice ga gl gc) ∧ Below w.heap.size w y1 ∧ Blk y1 w.heap.size 24 (pmC o pe (Value.slice ra rl rc) (Value.slice qa ql qc) (Value.slice ga gl gc)) ∧ Blk y1 a1.heap.size 24 (pmC 0 0 (.slice none 0 0) (.slice none 0 0) (.slice none 0 0)) ∧ Blk y1 a2.heap.size 24 (pmC 0 0 (.slice none 0 0) (.slice none 0 0) (.slice none 0 0)) from ⟨HS129.out.1.below hb, below_thn HS129.out.2.1 hb (Nat.le_refl _), HS129.out.2.2.1.below hb HS129.out.2.2.1.lt, HS129.out.2.2.2.1.below hb HS129.out.2.2.2.1.lt, HS129.out.2.2.2.2.below hb HS129.out.2.2.2.2.lt⟩)
  clear hb HA1 HA2 HA3 HS129
  cases ok
  · skip
    have HRE := Lib.hid (show RR = (noP, 210) from by rw [← HRR.out]; exact if_pos HOK.out)
    go_wp2_with (first
    | (with_reducible refine wpList_load_any rfl 24 (.tmp 10) rfl a2.heap.size 0 rfl (pmC 0 0 (.slice none 0 0) (.slice none 0 0) (.slice none 0 0)) _ (rangeW_blk HY1.out.2.2.2.2) Try.underlying24 rfl (pmC_info _ _ _ _ _) ?_)
    | ((with_reducible refine wpList_store_blk y1 rfl 24 (.tmp 8) (.tmp 15) rfl a1.heap.size 24 (pmC 0 0 (.slice none 0 0) (.slice none 0 0) (.slice none 0 0)) (pmC 0 0 (.slice none 0 0) (.slice none 0 0) (.slice none 0 0)) HY1.out.2.2.2.1 rfl rfl rfl (pmC_info _ _ _ _ _) (pmC_one _ _ _ _ _ _ _ _ _ _ _) ?_); intro s130 hb hc hs; have hbw := below_ch HY1.out.2.1 hc (Nat.le_refl _) (fun k hk => by have e : k = a1.heap.size := hk; have h1 := HG.out; omega); have HS131 := Lib.hid (show PmS s130 ⟨o, pe, pr, pq, pg⟩ (Value.slice ra rl rc) (Value.slice qa ql qc) (Value.slice ga gl gc) ∧ Below w.heap.size w s130 ∧ Blk s130 w.heap.size 24 (pmC o pe (Value.slice ra rl rc) (Value.slice qa ql qc) (Value.slice ga gl gc)) ∧ Blk s130 a1.heap.size 24 (pmC 0 0 (.slice none 0 0) (.slice none 0 0) (.slice none 0 0)) ∧ Blk s130 a2.heap.size 24 (pmC 0 0 (.slice none 0 0) (.slice none 0 0) (.slice none 0 0)) from ⟨HPS.out.below hbw, hbw, HY1.out.2.2.1.keep hc (fun e => by have e : w.heap.size = a1.heap.size := e; have h1 := HG.out; omega), hb, HY1.out.2.2.2.2.keep hc (fun e => by have e : a2.heap.size = a1.heap.size := e; have h1 := HG.out; omega)⟩); clear hb hc hs hbw))
    refine bodyPost_ret (results_cellTmp Try.results15 _ _ a1.heap.size _ _ rfl HS131.out.2.2.2.1 _ Try.underlying24 rfl (pmC_info _ _ _ _ _) _ rfl) rfl ?_
    rw [HRE.out]
    exact ⟨_, _, _, rfl, PmS.nil _, HS131.out.2.1, fun g w2 hg hc h => PmS.nil _⟩
  have HE := Lib.hid (okB_iff.1 HOK.out).e
  have c0 := HY1.out.2.2.1.cell 0
  simp only [pmC, List.getElem?_cons_zero, List.getElem?_cons_succ] at c0
  go_wp2_with (first
    | (with_reducible refine wpList_load_any rfl 24 (.tmp 4) rfl w.heap.size 0 rfl (pmC o pe (Value.slice ra rl rc) (Value.slice qa ql qc) (Value.slice ga gl gc)) _ (rangeW_blk HY1.out.2.2.1) Try.underlying24 rfl (pmC_info _ _ _ _ _) ?_))
  have hx := rnext_any o pe pr pq pg ra rl rc qa ql qc ga gl gc y1 HE.out.1 HE.out.2 HY1.out.1
  by_cases h8 : pe = 8
  · rw [if_pos h8] at hx
    have HRE := Lib.hid (show RR = (noP, 212) from by rw [← HRR.out]; exact ((if_neg (by rw [HOK.out]; simp) : ch5 ⟨o, pe, pr, pq, pg⟩ = nextC ⟨o, pe, pr, pq, pg⟩)).trans (if_pos h8))
    clear h8
    refine Calls.mono hx ?_
    clear hx
    rintro e' y132 ⟨rfl, hb⟩
    have HY133 := Lib.hid (show PmS y132 ⟨o, pe, pr, pq, pg⟩ (Value.slice ra rl rc) (Value.slice qa ql qc) (Value.slice ga gl gc) ∧ Below w.heap.size w y132 ∧ Blk y132 w.heap.size 24 (pmC o pe (Value.slice ra rl rc) (Value.slice qa ql qc) (Value.slice ga gl gc)) ∧ Blk y132 a1.heap.size 24 (pmC 0 0 (.slice none 0 0) (.slice none 0 0) (.slice none 0 0)) ∧ Blk y132 a2.heap.size 24 (pmC 0 0 (.slice none 0 0) (.slice none 0 0) (.slice none 0 0)) from ⟨HY1.out.1.below hb, below_thn HY1.out.2.1 hb (Nat.le_refl _), HY1.out.2.2.1.below hb HY1.out.2.2.1.lt, HY1.out.2.2.2.1.below hb HY1.out.2.2.2.1.lt, HY1.out.2.2.2.2.below hb HY1.out.2.2.2.2.lt⟩)
    clear hb
    go_wp2_with (first
    | ((with_reducible refine wpList_store_blk y132 rfl 24 (.tmp 8) (.tmp 20) rfl a1.heap.size 24 (pmC 0 0 (.slice none 0 0) (.slice none 0 0) (.slice none 0 0)) (pmC 0 0 (.slice none 0 0) (.slice none 0 0) (.slice none 0 0)) HY133.out.2.2.2.1 rfl rfl rfl (pmC_info _ _ _ _ _) (pmC_one _ _ _ _ _ _ _ _ _ _ _) ?_); intro s134 hb hc hs; have hbw := below_ch HY133.out.2.1 hc (Nat.le_refl _) (fun k hk => by have e : k = a1.heap.size := hk; have h1 := HG.out; omega); have HS135 := Lib.hid (show PmS s134 ⟨o, pe, pr, pq, pg⟩ (Value.slice ra rl rc) (Value.slice qa ql qc) (Value.slice ga gl gc) ∧ Below w.heap.size w s134 ∧ Blk s134 w.heap.size 24 (pmC o pe (Value.slice ra rl rc) (Value.slice qa ql qc) (Value.slice ga gl gc)) ∧ Blk s134 a1.heap.size 24 (pmC 0 0 (.slice none 0 0) (.slice none 0 0) (.slice none 0 0)) ∧ Blk s134 a2.heap.size 24 (pmC 0 0 (.slice none 0 0) (.slice none 0 0) (.slice none 0 0)) from ⟨HPS.out.below hbw, hbw, HY133.out.2.2.1.keep hc (fun e => by have e : w.heap.size = a1.heap.size := e; have h1 := HG.out; omega), hb, HY133.out.2.2.2.2.keep hc (fun e => by have e : a2.heap.size = a1.heap.size := e; have h1 := HG.out; omega)⟩); clear hb hc hs hbw))
    refine bodyPost_ret (results_cellTmp Try.results15 _ _ a1.heap.size _ _ rfl HS135.out.2.2.2.1 _ Try.underlying24 rfl (pmC_info _ _ _ _ _) _ rfl) rfl ?_
    rw [HRE.out]
    exact ⟨_, _, _, rfl, PmS.nil _, HS135.out.2.1, fun g w2 hg hc h => PmS.nil _⟩
  · rw [if_neg h8] at hx
    have HRE := Lib.hid (show RR = (⟨o, pe + 1, pr, pq, pg⟩, 0) from by rw [← HRR.out]; exact ((if_neg (by rw [HOK.out]; simp) : ch5 ⟨o, pe, pr, pq, pg⟩ = nextC ⟨o, pe, pr, pq, pg⟩)).trans (if_neg h8))
    clear h8
    refine Calls.mono hx ?_
    clear hx
    rintro e' y136 ⟨rfl, hb⟩
    have HY137 := Lib.hid (show PmS y136 ⟨o, pe, pr, pq, pg⟩ (Value.slice ra rl rc) (Value.slice qa ql qc) (Value.slice ga gl gc) ∧ Below w.heap.size w y136 ∧ Blk y136 w.heap.size 24 (pmC o pe (Value.slice ra rl rc) (Value.slice qa ql qc) (Value.slice ga gl gc)) ∧ Blk y136 a1.heap.size 24 (pmC 0 0 (.slice none 0 0) (.slice none 0 0) (.slice none 0 0)) ∧ Blk y136 a2.heap.size 24 (pmC 0 0 (.slice none 0 0) (.slice none 0 0) (.slice none 0 0)) from ⟨HY1.out.1.below hb, below_thn HY1.out.2.1 hb (Nat.le_refl _), HY1.out.2.2.1.below hb HY1.out.2.2.1.lt, HY1.out.2.2.2.1.below hb HY1.out.2.2.2.1.lt, HY1.out.2.2.2.2.below hb HY1.out.2.2.2.2.lt⟩)
    clear hb
    go_wp2_with (first
    | ((with_reducible refine wpList_store_blk y136 rfl 24 (.tmp 8) (.tmp 20) rfl a1.heap.size 24 (pmC 0 0 (.slice none 0 0) (.slice none 0 0) (.slice none 0 0)) (pmC o (pe + 1) (Value.slice ra rl rc) (Value.slice qa ql qc) (Value.slice ga gl gc)) HY137.out.2.2.2.1 rfl rfl rfl (pmC_info _ _ _ _ _) (pmC_one _ _ _ _ _ _ _ _ _ _ _) ?_); intro s138 hb hc hs; have hbw := below_ch HY137.out.2.1 hc (Nat.le_refl _) (fun k hk => by have e : k = a1.heap.size := hk; have h1 := HG.out; omega); have HS139 := Lib.hid (show PmS s138 ⟨o, pe, pr, pq, pg⟩ (Value.slice ra rl rc) (Value.slice qa ql qc) (Value.slice ga gl gc) ∧ Below w.heap.size w s138 ∧ Blk s138 w.heap.size 24 (pmC o pe (Value.slice ra rl rc) (Value.slice qa ql qc) (Value.slice ga gl gc)) ∧ Blk s138 a1.heap.size 24 (pmC o (pe + 1) (Value.slice ra rl rc) (Value.slice qa ql qc) (Value.slice ga gl gc)) ∧ Blk s138 a2.heap.size 24 (pmC 0 0 (.slice none 0 0) (.slice none 0 0) (.slice none 0 0)) from ⟨HPS.out.below hbw, hbw, HY137.out.2.2.1.keep hc (fun e => by have e : w.heap.size = a1.heap.size := e; have h1 := HG.out; omega), hb, HY137.out.2.2.2.2.keep hc (fun e => by have e : a2.heap.size = a1.heap.size := e; have h1 := HG.out; omega)⟩); clear hb hc hs hbw))
    refine bodyPost_ret (results_cellTmp Try.results15 _ _ a1.heap.size _ _ rfl HS139.out.2.2.2.1 _ Try.underlying24 rfl (pmC_info _ _ _ _ _) _ rfl) rfl ?_
    rw [HRE.out]
    exact ⟨_, _, _, rfl, ⟨HS139.out.1.1, HS139.out.1.2.1, HS139.out.1.2.2⟩, HS139.out.2.1, fun g w2 hg hc h => ⟨h.1, h.2.1, h.2.2⟩⟩


end Go.Proofs.Ytampheimonmggaa
