/-
  Layer 11's reference: Same, walked. Conditions: none.
-/
import Derived.Test.YtampheimonmggaaPmX
namespace Go.Proofs.Ytampheimonmggaa
open Go Go.RowKit Go.Sort
set_option linter.unusedSimpArgs false
set_option linter.unusedVariables false

theorem same_no {p q : PmD} (h : p ≠ q) : samePB p q = false := Bool.eq_false_iff.2 fun e => h ((samePB_iff _ _).1 e)
theorem list_same {l l2 : List Int} {n : Nat} (h1 : l.length = n) (h2 : l2.length = n) (h : ∀ j, j < n → l.getD j 0 = l2.getD j 0) : l = l2 :=
  List.ext_getElem (by omega) fun j a b => by
    have := h j (by omega)
    rwa [getD_at a, getD_at b] at this


set_option maxRecDepth 100000 in
set_option maxHeartbeats 4000000 in
theorem rsame_any (p q : PmD) (vr vq vg ur uq ug : Value) (w : World) (hp : PmS w p vr vq vg) (hq : PmS w q ur uq ug) :
    Calls Try.prog 17 #[.agg (pmC p.o p.e vr vq vg).toArray, .agg (pmC q.o q.e ur uq ug).toArray] w (fun e w' => e = .returned (.bool (samePB p q)) ∧ Below w.heap.size w w') := by
  obtain ⟨ra, rc, rfl, -⟩ := hp.1.shape
  obtain ⟨qa, qc, rfl, -⟩ := hp.2.1.shape
  obtain ⟨ga, gc, rfl, -⟩ := hp.2.2.shape
  obtain ⟨o, pe, pr, pq, pg⟩ := p
  simp only at hp ⊢
  simp only [length_ofK] at hp ⊢
  obtain ⟨ra2, rc2, rfl, -⟩ := hq.1.shape
  obtain ⟨qa2, qc2, rfl, -⟩ := hq.2.1.shape
  obtain ⟨ga2, gc2, rfl, -⟩ := hq.2.2.shape
  obtain ⟨o2, pe2, pr2, pq2, pg2⟩ := q
  simp only at hq ⊢
  simp only [length_ofK] at hq ⊢
  obtain ⟨R, hR⟩ : ∃ R, samePB ⟨o, pe, pr, pq, pg⟩ ⟨o2, pe2, pr2, pq2, pg2⟩ = R := ⟨_, rfl⟩
  have HR := Lib.hid hR
  rw [hR]
  obtain ⟨rl, hrl⟩ : ∃ n, pr.length = n := ⟨_, rfl⟩
  obtain ⟨rl2, hrl2⟩ : ∃ n, pr2.length = n := ⟨_, rfl⟩
  have HLrl := Lib.hid (And.intro hrl hrl2)
  rw [hrl] at hp ⊢
  rw [hrl2] at hq ⊢
  clear hrl hrl2
  obtain ⟨ql, hql⟩ : ∃ n, pq.length = n := ⟨_, rfl⟩
  obtain ⟨ql2, hql2⟩ : ∃ n, pq2.length = n := ⟨_, rfl⟩
  have HLql := Lib.hid (And.intro hql hql2)
  rw [hql] at hp ⊢
  rw [hql2] at hq ⊢
  clear hql hql2
  obtain ⟨gl, hgl⟩ : ∃ n, pg.length = n := ⟨_, rfl⟩
  obtain ⟨gl2, hgl2⟩ : ∃ n, pg2.length = n := ⟨_, rfl⟩
  have HLgl := Lib.hid (And.intro hgl hgl2)
  rw [hgl] at hp ⊢
  rw [hgl2] at hq ⊢
  clear hgl hgl2
  have H0 := Lib.hid (show PmS w ⟨o, pe, pr, pq, pg⟩ (Value.slice ra rl rc) (Value.slice qa ql qc) (Value.slice ga gl gc) ∧ PmS w ⟨o2, pe2, pr2, pq2, pg2⟩ (Value.slice ra2 rl2 rc2) (Value.slice qa2 ql2 qc2) (Value.slice ga2 gl2 gc2) ∧ Below w.heap.size w w from ⟨hp, hq, Below.refl _ _⟩)
  clear hp hq hR
  by_cases k1 : o = o2
  rotate_left
  · have HE := Lib.hid (show R = false from by rw [← HR.out]; exact same_no (fun h => by simp only [PmD.mk.injEq] at h; exact k1 h.1))
    have k1' : (o != o2) = true := by rw [bne_iff_ne]; exact k1
    clear k1
    go_enter Try.func17, Try.ntmps17
    go_wp2_with (first
    | ((with_reducible refine wpList_box_blk w rfl 24 (.tmp 0) rfl (pmC o pe (Value.slice ra rl rc) (Value.slice qa ql qc) (Value.slice ga gl gc)) rfl ?_); intro a1 hb hbel hsz; have HA2 := Lib.hid (show PmS a1 ⟨o, pe, pr, pq, pg⟩ (Value.slice ra rl rc) (Value.slice qa ql qc) (Value.slice ga gl gc) ∧ PmS a1 ⟨o2, pe2, pr2, pq2, pg2⟩ (Value.slice ra2 rl2 rc2) (Value.slice qa2 ql2 qc2) (Value.slice ga2 gl2 gc2) ∧ Below w.heap.size w a1 ∧ Blk a1 w.heap.size 24 (pmC o pe (Value.slice ra rl rc) (Value.slice qa ql qc) (Value.slice ga gl gc)) from ⟨H0.out.1.below hbel, H0.out.2.1.below hbel, below_thn H0.out.2.2 hbel (Nat.le_refl _), hb⟩); clear hb hbel hsz)
    | ((with_reducible refine wpList_box_blk a1 rfl 24 (.tmp 1) rfl (pmC o2 pe2 (Value.slice ra2 rl2 rc2) (Value.slice qa2 ql2 qc2) (Value.slice ga2 gl2 gc2)) rfl ?_); intro a3 hb hbel hsz; have HA4 := Lib.hid (show PmS a3 ⟨o, pe, pr, pq, pg⟩ (Value.slice ra rl rc) (Value.slice qa ql qc) (Value.slice ga gl gc) ∧ PmS a3 ⟨o2, pe2, pr2, pq2, pg2⟩ (Value.slice ra2 rl2 rc2) (Value.slice qa2 ql2 qc2) (Value.slice ga2 gl2 gc2) ∧ Below w.heap.size w a3 ∧ Blk a3 w.heap.size 24 (pmC o pe (Value.slice ra rl rc) (Value.slice qa ql qc) (Value.slice ga gl gc)) ∧ Blk a3 a1.heap.size 24 (pmC o2 pe2 (Value.slice ra2 rl2 rc2) (Value.slice qa2 ql2 qc2) (Value.slice ga2 gl2 gc2)) ∧ w.heap.size ≤ a1.heap.size from ⟨HA2.out.1.below hbel, HA2.out.2.1.below hbel, below_thn HA2.out.2.2.1 hbel (Nat.le_refl _), HA2.out.2.2.2.below hbel HA2.out.2.2.2.lt, hb, HA2.out.2.2.1.size⟩); have c0 := HA4.out.2.2.2.1.cell 0; have c1 := HA4.out.2.2.2.1.cell 1; have c2 := HA4.out.2.2.2.1.cell 2; have c3 := HA4.out.2.2.2.1.cell 3; have c4 := HA4.out.2.2.2.1.cell 4; simp only [pmC, List.getElem?_cons_zero, List.getElem?_cons_succ] at c0 c1 c2 c3 c4; have d0 := HA4.out.2.2.2.2.1.cell 0; have d1 := HA4.out.2.2.2.2.1.cell 1; have d2 := HA4.out.2.2.2.2.1.cell 2; have d3 := HA4.out.2.2.2.2.1.cell 3; have d4 := HA4.out.2.2.2.2.1.cell 4; simp only [pmC, List.getElem?_cons_zero, List.getElem?_cons_succ] at d0 d1 d2 d3 d4; clear hb hbel hsz))
    go_ret
    exact ⟨by rw [HE.out]; rfl, HA4.out.2.2.1⟩
  have k1' : (o != o2) = false := by rw [bne_eq_false_iff_eq]; exact k1
  by_cases k2 : pe = pe2
  rotate_left
  · have HE := Lib.hid (show R = false from by rw [← HR.out]; exact same_no (fun h => by simp only [PmD.mk.injEq] at h; exact k2 h.2.1))
    have k2' : (pe != pe2) = true := by rw [bne_iff_ne]; exact k2
    clear k2
    go_enter Try.func17, Try.ntmps17
    go_wp2_with (first
    | ((with_reducible refine wpList_box_blk w rfl 24 (.tmp 0) rfl (pmC o pe (Value.slice ra rl rc) (Value.slice qa ql qc) (Value.slice ga gl gc)) rfl ?_); intro a5 hb hbel hsz; have HA6 := Lib.hid (show PmS a5 ⟨o, pe, pr, pq, pg⟩ (Value.slice ra rl rc) (Value.slice qa ql qc) (Value.slice ga gl gc) ∧ PmS a5 ⟨o2, pe2, pr2, pq2, pg2⟩ (Value.slice ra2 rl2 rc2) (Value.slice qa2 ql2 qc2) (Value.slice ga2 gl2 gc2) ∧ Below w.heap.size w a5 ∧ Blk a5 w.heap.size 24 (pmC o pe (Value.slice ra rl rc) (Value.slice qa ql qc) (Value.slice ga gl gc)) from ⟨H0.out.1.below hbel, H0.out.2.1.below hbel, below_thn H0.out.2.2 hbel (Nat.le_refl _), hb⟩); clear hb hbel hsz)
    | ((with_reducible refine wpList_box_blk a5 rfl 24 (.tmp 1) rfl (pmC o2 pe2 (Value.slice ra2 rl2 rc2) (Value.slice qa2 ql2 qc2) (Value.slice ga2 gl2 gc2)) rfl ?_); intro a7 hb hbel hsz; have HA8 := Lib.hid (show PmS a7 ⟨o, pe, pr, pq, pg⟩ (Value.slice ra rl rc) (Value.slice qa ql qc) (Value.slice ga gl gc) ∧ PmS a7 ⟨o2, pe2, pr2, pq2, pg2⟩ (Value.slice ra2 rl2 rc2) (Value.slice qa2 ql2 qc2) (Value.slice ga2 gl2 gc2) ∧ Below w.heap.size w a7 ∧ Blk a7 w.heap.size 24 (pmC o pe (Value.slice ra rl rc) (Value.slice qa ql qc) (Value.slice ga gl gc)) ∧ Blk a7 a5.heap.size 24 (pmC o2 pe2 (Value.slice ra2 rl2 rc2) (Value.slice qa2 ql2 qc2) (Value.slice ga2 gl2 gc2)) ∧ w.heap.size ≤ a5.heap.size from ⟨HA6.out.1.below hbel, HA6.out.2.1.below hbel, below_thn HA6.out.2.2.1 hbel (Nat.le_refl _), HA6.out.2.2.2.below hbel HA6.out.2.2.2.lt, hb, HA6.out.2.2.1.size⟩); have c0 := HA8.out.2.2.2.1.cell 0; have c1 := HA8.out.2.2.2.1.cell 1; have c2 := HA8.out.2.2.2.1.cell 2; have c3 := HA8.out.2.2.2.1.cell 3; have c4 := HA8.out.2.2.2.1.cell 4; simp only [pmC, List.getElem?_cons_zero, List.getElem?_cons_succ] at c0 c1 c2 c3 c4; have d0 := HA8.out.2.2.2.2.1.cell 0; have d1 := HA8.out.2.2.2.2.1.cell 1; have d2 := HA8.out.2.2.2.2.1.cell 2; have d3 := HA8.out.2.2.2.2.1.cell 3; have d4 := HA8.out.2.2.2.2.1.cell 4; simp only [pmC, List.getElem?_cons_zero, List.getElem?_cons_succ] at d0 d1 d2 d3 d4; clear hb hbel hsz))
    go_ret
    exact ⟨by rw [HE.out]; rfl, HA8.out.2.2.1⟩
  have k2' : (pe != pe2) = false := by rw [bne_eq_false_iff_eq]; exact k2
  by_cases k3 : rl = rl2
  rotate_left
  · have HE := Lib.hid (show R = false from by rw [← HR.out]; exact same_no (fun h => by simp only [PmD.mk.injEq] at h; exact k3 (by rw [← HLrl.out.1, ← HLrl.out.2, h.2.2.1])))
    have k3' : ((rl : Int) != (rl2 : Int)) = true := by rw [bne_iff_ne]; omega
    clear k3
    go_enter Try.func17, Try.ntmps17
    go_wp2_with (first
    | ((with_reducible refine wpList_box_blk w rfl 24 (.tmp 0) rfl (pmC o pe (Value.slice ra rl rc) (Value.slice qa ql qc) (Value.slice ga gl gc)) rfl ?_); intro a9 hb hbel hsz; have HA10 := Lib.hid (show PmS a9 ⟨o, pe, pr, pq, pg⟩ (Value.slice ra rl rc) (Value.slice qa ql qc) (Value.slice ga gl gc) ∧ PmS a9 ⟨o2, pe2, pr2, pq2, pg2⟩ (Value.slice ra2 rl2 rc2) (Value.slice qa2 ql2 qc2) (Value.slice ga2 gl2 gc2) ∧ Below w.heap.size w a9 ∧ Blk a9 w.heap.size 24 (pmC o pe (Value.slice ra rl rc) (Value.slice qa ql qc) (Value.slice ga gl gc)) from ⟨H0.out.1.below hbel, H0.out.2.1.below hbel, below_thn H0.out.2.2 hbel (Nat.le_refl _), hb⟩); clear hb hbel hsz)
    | ((with_reducible refine wpList_box_blk a9 rfl 24 (.tmp 1) rfl (pmC o2 pe2 (Value.slice ra2 rl2 rc2) (Value.slice qa2 ql2 qc2) (Value.slice ga2 gl2 gc2)) rfl ?_); intro a11 hb hbel hsz; have HA12 := Lib.hid (show PmS a11 ⟨o, pe, pr, pq, pg⟩ (Value.slice ra rl rc) (Value.slice qa ql qc) (Value.slice ga gl gc) ∧ PmS a11 ⟨o2, pe2, pr2, pq2, pg2⟩ (Value.slice ra2 rl2 rc2) (Value.slice qa2 ql2 qc2) (Value.slice ga2 gl2 gc2) ∧ Below w.heap.size w a11 ∧ Blk a11 w.heap.size 24 (pmC o pe (Value.slice ra rl rc) (Value.slice qa ql qc) (Value.slice ga gl gc)) ∧ Blk a11 a9.heap.size 24 (pmC o2 pe2 (Value.slice ra2 rl2 rc2) (Value.slice qa2 ql2 qc2) (Value.slice ga2 gl2 gc2)) ∧ w.heap.size ≤ a9.heap.size from ⟨HA10.out.1.below hbel, HA10.out.2.1.below hbel, below_thn HA10.out.2.2.1 hbel (Nat.le_refl _), HA10.out.2.2.2.below hbel HA10.out.2.2.2.lt, hb, HA10.out.2.2.1.size⟩); have c0 := HA12.out.2.2.2.1.cell 0; have c1 := HA12.out.2.2.2.1.cell 1; have c2 := HA12.out.2.2.2.1.cell 2; have c3 := HA12.out.2.2.2.1.cell 3; have c4 := HA12.out.2.2.2.1.cell 4; simp only [pmC, List.getElem?_cons_zero, List.getElem?_cons_succ] at c0 c1 c2 c3 c4; have d0 := HA12.out.2.2.2.2.1.cell 0; have d1 := HA12.out.2.2.2.2.1.cell 1; have d2 := HA12.out.2.2.2.2.1.cell 2; have d3 := HA12.out.2.2.2.2.1.cell 3; have d4 := HA12.out.2.2.2.2.1.cell 4; simp only [pmC, List.getElem?_cons_zero, List.getElem?_cons_succ] at d0 d1 d2 d3 d4; clear hb hbel hsz))
    go_ret
    exact ⟨by rw [HE.out]; rfl, HA12.out.2.2.1⟩
  have k3' : ((rl : Int) != (rl2 : Int)) = false := by rw [bne_eq_false_iff_eq]; omega
  by_cases k4 : ql = ql2
  rotate_left
  · have HE := Lib.hid (show R = false from by rw [← HR.out]; exact same_no (fun h => by simp only [PmD.mk.injEq] at h; exact k4 (by rw [← HLql.out.1, ← HLql.out.2, h.2.2.2.1])))
    have k4' : ((ql : Int) != (ql2 : Int)) = true := by rw [bne_iff_ne]; omega
    clear k4
    go_enter Try.func17, Try.ntmps17
    go_wp2_with (first
    | ((with_reducible refine wpList_box_blk w rfl 24 (.tmp 0) rfl (pmC o pe (Value.slice ra rl rc) (Value.slice qa ql qc) (Value.slice ga gl gc)) rfl ?_); intro a13 hb hbel hsz; have HA14 := Lib.hid (show PmS a13 ⟨o, pe, pr, pq, pg⟩ (Value.slice ra rl rc) (Value.slice qa ql qc) (Value.slice ga gl gc) ∧ PmS a13 ⟨o2, pe2, pr2, pq2, pg2⟩ (Value.slice ra2 rl2 rc2) (Value.slice qa2 ql2 qc2) (Value.slice ga2 gl2 gc2) ∧ Below w.heap.size w a13 ∧ Blk a13 w.heap.size 24 (pmC o pe (Value.slice ra rl rc) (Value.slice qa ql qc) (Value.slice ga gl gc)) from ⟨H0.out.1.below hbel, H0.out.2.1.below hbel, below_thn H0.out.2.2 hbel (Nat.le_refl _), hb⟩); clear hb hbel hsz)
    | ((with_reducible refine wpList_box_blk a13 rfl 24 (.tmp 1) rfl (pmC o2 pe2 (Value.slice ra2 rl2 rc2) (Value.slice qa2 ql2 qc2) (Value.slice ga2 gl2 gc2)) rfl ?_); intro a15 hb hbel hsz; have HA16 := Lib.hid (show PmS a15 ⟨o, pe, pr, pq, pg⟩ (Value.slice ra rl rc) (Value.slice qa ql qc) (Value.slice ga gl gc) ∧ PmS a15 ⟨o2, pe2, pr2, pq2, pg2⟩ (Value.slice ra2 rl2 rc2) (Value.slice qa2 ql2 qc2) (Value.slice ga2 gl2 gc2) ∧ Below w.heap.size w a15 ∧ Blk a15 w.heap.size 24 (pmC o pe (Value.slice ra rl rc) (Value.slice qa ql qc) (Value.slice ga gl gc)) ∧ Blk a15 a13.heap.size 24 (pmC o2 pe2 (Value.slice ra2 rl2 rc2) (Value.slice qa2 ql2 qc2) (Value.slice ga2 gl2 gc2)) ∧ w.heap.size ≤ a13.heap.size from ⟨HA14.out.1.below hbel, HA14.out.2.1.below hbel, below_thn HA14.out.2.2.1 hbel (Nat.le_refl _), HA14.out.2.2.2.below hbel HA14.out.2.2.2.lt, hb, HA14.out.2.2.1.size⟩); have c0 := HA16.out.2.2.2.1.cell 0; have c1 := HA16.out.2.2.2.1.cell 1; have c2 := HA16.out.2.2.2.1.cell 2; have c3 := HA16.out.2.2.2.1.cell 3; have c4 := HA16.out.2.2.2.1.cell 4; simp only [pmC, List.getElem?_cons_zero, List.getElem?_cons_succ] at c0 c1 c2 c3 c4; have d0 := HA16.out.2.2.2.2.1.cell 0; have d1 := HA16.out.2.2.2.2.1.cell 1; have d2 := HA16.out.2.2.2.2.1.cell 2; have d3 := HA16.out.2.2.2.2.1.cell 3; have d4 := HA16.out.2.2.2.2.1.cell 4; simp only [pmC, List.getElem?_cons_zero, List.getElem?_cons_succ] at d0 d1 d2 d3 d4; clear hb hbel hsz))
    go_ret
    exact ⟨by rw [HE.out]; rfl, HA16.out.2.2.1⟩
  have k4' : ((ql : Int) != (ql2 : Int)) = false := by rw [bne_eq_false_iff_eq]; omega
  by_cases k5 : gl = gl2
  rotate_left
  · have HE := Lib.hid (show R = false from by rw [← HR.out]; exact same_no (fun h => by simp only [PmD.mk.injEq] at h; exact k5 (by rw [← HLgl.out.1, ← HLgl.out.2, h.2.2.2.2])))
    have k5' : ((gl : Int) != (gl2 : Int)) = true := by rw [bne_iff_ne]; omega
    clear k5
    go_enter Try.func17, Try.ntmps17
    go_wp2_with (first
    | ((with_reducible refine wpList_box_blk w rfl 24 (.tmp 0) rfl (pmC o pe (Value.slice ra rl rc) (Value.slice qa ql qc) (Value.slice ga gl gc)) rfl ?_); intro a17 hb hbel hsz; have HA18 := Lib.hid (show PmS a17 ⟨o, pe, pr, pq, pg⟩ (Value.slice ra rl rc) (Value.slice qa ql qc) (Value.slice ga gl gc) ∧ PmS a17 ⟨o2, pe2, pr2, pq2, pg2⟩ (Value.slice ra2 rl2 rc2) (Value.slice qa2 ql2 qc2) (Value.slice ga2 gl2 gc2) ∧ Below w.heap.size w a17 ∧ Blk a17 w.heap.size 24 (pmC o pe (Value.slice ra rl rc) (Value.slice qa ql qc) (Value.slice ga gl gc)) from ⟨H0.out.1.below hbel, H0.out.2.1.below hbel, below_thn H0.out.2.2 hbel (Nat.le_refl _), hb⟩); clear hb hbel hsz)
    | ((with_reducible refine wpList_box_blk a17 rfl 24 (.tmp 1) rfl (pmC o2 pe2 (Value.slice ra2 rl2 rc2) (Value.slice qa2 ql2 qc2) (Value.slice ga2 gl2 gc2)) rfl ?_); intro a19 hb hbel hsz; have HA20 := Lib.hid (show PmS a19 ⟨o, pe, pr, pq, pg⟩ (Value.slice ra rl rc) (Value.slice qa ql qc) (Value.slice ga gl gc) ∧ PmS a19 ⟨o2, pe2, pr2, pq2, pg2⟩ (Value.slice ra2 rl2 rc2) (Value.slice qa2 ql2 qc2) (Value.slice ga2 gl2 gc2) ∧ Below w.heap.size w a19 ∧ Blk a19 w.heap.size 24 (pmC o pe (Value.slice ra rl rc) (Value.slice qa ql qc) (Value.slice ga gl gc)) ∧ Blk a19 a17.heap.size 24 (pmC o2 pe2 (Value.slice ra2 rl2 rc2) (Value.slice qa2 ql2 qc2) (Value.slice ga2 gl2 gc2)) ∧ w.heap.size ≤ a17.heap.size from ⟨HA18.out.1.below hbel, HA18.out.2.1.below hbel, below_thn HA18.out.2.2.1 hbel (Nat.le_refl _), HA18.out.2.2.2.below hbel HA18.out.2.2.2.lt, hb, HA18.out.2.2.1.size⟩); have c0 := HA20.out.2.2.2.1.cell 0; have c1 := HA20.out.2.2.2.1.cell 1; have c2 := HA20.out.2.2.2.1.cell 2; have c3 := HA20.out.2.2.2.1.cell 3; have c4 := HA20.out.2.2.2.1.cell 4; simp only [pmC, List.getElem?_cons_zero, List.getElem?_cons_succ] at c0 c1 c2 c3 c4; have d0 := HA20.out.2.2.2.2.1.cell 0; have d1 := HA20.out.2.2.2.2.1.cell 1; have d2 := HA20.out.2.2.2.2.1.cell 2; have d3 := HA20.out.2.2.2.2.1.cell 3; have d4 := HA20.out.2.2.2.2.1.cell 4; simp only [pmC, List.getElem?_cons_zero, List.getElem?_cons_succ] at d0 d1 d2 d3 d4; clear hb hbel hsz))
    go_ret
    exact ⟨by rw [HE.out]; rfl, HA20.out.2.2.1⟩
  have k5' : ((gl : Int) != (gl2 : Int)) = false := by rw [bne_eq_false_iff_eq]; omega
  have HK := Lib.hid (And.intro k1 k2)
  subst k3 k4 k5
  clear k1 k2
  go_enter Try.func17, Try.ntmps17
  go_wp2_with (first
    | ((with_reducible refine wpList_box_blk w rfl 24 (.tmp 0) rfl (pmC o pe (Value.slice ra rl rc) (Value.slice qa ql qc) (Value.slice ga gl gc)) rfl ?_); intro a21 hb hbel hsz; have HA22 := Lib.hid (show PmS a21 ⟨o, pe, pr, pq, pg⟩ (Value.slice ra rl rc) (Value.slice qa ql qc) (Value.slice ga gl gc) ∧ PmS a21 ⟨o2, pe2, pr2, pq2, pg2⟩ (Value.slice ra2 rl rc2) (Value.slice qa2 ql qc2) (Value.slice ga2 gl gc2) ∧ Below w.heap.size w a21 ∧ Blk a21 w.heap.size 24 (pmC o pe (Value.slice ra rl rc) (Value.slice qa ql qc) (Value.slice ga gl gc)) from ⟨H0.out.1.below hbel, H0.out.2.1.below hbel, below_thn H0.out.2.2 hbel (Nat.le_refl _), hb⟩); clear hb hbel hsz)
    | ((with_reducible refine wpList_box_blk a21 rfl 24 (.tmp 1) rfl (pmC o2 pe2 (Value.slice ra2 rl rc2) (Value.slice qa2 ql qc2) (Value.slice ga2 gl gc2)) rfl ?_); intro a23 hb hbel hsz; have HA24 := Lib.hid (show PmS a23 ⟨o, pe, pr, pq, pg⟩ (Value.slice ra rl rc) (Value.slice qa ql qc) (Value.slice ga gl gc) ∧ PmS a23 ⟨o2, pe2, pr2, pq2, pg2⟩ (Value.slice ra2 rl rc2) (Value.slice qa2 ql qc2) (Value.slice ga2 gl gc2) ∧ Below w.heap.size w a23 ∧ Blk a23 w.heap.size 24 (pmC o pe (Value.slice ra rl rc) (Value.slice qa ql qc) (Value.slice ga gl gc)) ∧ Blk a23 a21.heap.size 24 (pmC o2 pe2 (Value.slice ra2 rl rc2) (Value.slice qa2 ql qc2) (Value.slice ga2 gl gc2)) ∧ w.heap.size ≤ a21.heap.size from ⟨HA22.out.1.below hbel, HA22.out.2.1.below hbel, below_thn HA22.out.2.2.1 hbel (Nat.le_refl _), HA22.out.2.2.2.below hbel HA22.out.2.2.2.lt, hb, HA22.out.2.2.1.size⟩); have c0 := HA24.out.2.2.2.1.cell 0; have c1 := HA24.out.2.2.2.1.cell 1; have c2 := HA24.out.2.2.2.1.cell 2; have c3 := HA24.out.2.2.2.1.cell 3; have c4 := HA24.out.2.2.2.1.cell 4; simp only [pmC, List.getElem?_cons_zero, List.getElem?_cons_succ] at c0 c1 c2 c3 c4; have d0 := HA24.out.2.2.2.2.1.cell 0; have d1 := HA24.out.2.2.2.2.1.cell 1; have d2 := HA24.out.2.2.2.2.1.cell 2; have d3 := HA24.out.2.2.2.2.1.cell 3; have d4 := HA24.out.2.2.2.2.1.cell 4; simp only [pmC, List.getElem?_cons_zero, List.getElem?_cons_succ] at d0 d1 d2 d3 d4; clear hb hbel hsz))
  clear c0 c1 c2 c3 c4 d0 d1 d2 d3 d4 k1' k2' k3' k4' k5'
  go_loopw [5] (fun i wr => ∃ k : Nat, k ≤ rl ∧ i = .int .i64 k ∧ Hid (∀ j, j < k → pr.getD j 0 = pr2.getD j 0) ∧ Hid (Blk wr w.heap.size 24 (pmC o pe (Value.slice ra rl rc) (Value.slice qa ql qc) (Value.slice ga gl gc)) ∧ Blk wr a21.heap.size 24 (pmC o2 pe2 (Value.slice ra2 rl rc2) (Value.slice qa2 ql qc2) (Value.slice ga2 gl gc2)) ∧ PmS wr ⟨o, pe, pr, pq, pg⟩ (Value.slice ra rl rc) (Value.slice qa ql qc) (Value.slice ga gl gc) ∧ PmS wr ⟨o2, pe2, pr2, pq2, pg2⟩ (Value.slice ra2 rl rc2) (Value.slice qa2 ql qc2) (Value.slice ga2 gl gc2) ∧ Below w.heap.size w wr)) (fun i _ => rl - (intOf i).toNat)
  case atStart => exact ⟨0, Nat.zero_le _, rfl, Lib.hid (fun j hj => by omega), Lib.hid ⟨HA24.out.2.2.2.1, HA24.out.2.2.2.2.1, HA24.out.1, HA24.out.2.1, HA24.out.2.2.1⟩⟩
  case round =>
    clear HA24
    obtain ⟨k, hk, rfl, HT, HZ0⟩ := hrel
    have cx := HZ0.out.1.cell 2
    have dx := HZ0.out.2.1.cell 2
    simp only [pmC, List.getElem?_cons_zero, List.getElem?_cons_succ] at cx dx
    by_cases hlt : k < rl
    · have hkl : k < pr.length := by rw [HLrl.out.1]; exact hlt
      have hkl2 : k < pr2.length := by rw [HLrl.out.2]; exact hlt
      have hklz : (k : Int) < (rl : Int) := by omega
      have hk0 : (0 : Int) ≤ (k : Int) := by omega
      obtain ⟨ao', c', e0, a2, a3, hcl⟩ := HZ0.out.2.2.1.1.nums
      have hq63 : rl ≤ 9223372036854775807 := by have h := HLrl.out.1; have h2 : pr.length ≤ c' := a2; omega
      obtain ⟨b, oo, e1, -, hcell⟩ := hcl (show 0 < pr.length by omega)
      subst e1
      simp only [Value.slice.injEq] at e0
      obtain ⟨rfl, -, rfl⟩ := e0
      obtain ⟨ao', c', e0, -, -, hcl2⟩ := HZ0.out.2.2.2.1.1.nums
      obtain ⟨b', oo', e1, -, hcell2⟩ := hcl2 (show 0 < pr2.length by omega)
      subst e1
      simp only [Value.slice.injEq] at e0
      obtain ⟨rfl, -, rfl⟩ := e0
      have ce := hcell k hkl
      have de := hcell2 k hkl2
      have hat := getD_at hkl
      have hat2 := getD_at hkl2
      generalize pr[k] = y at ce hat
      generalize pr2[k] = y2 at de hat2
      have HAT := Lib.hid (And.intro hat hat2)
      clear hcell hcl hcell2 hcl2 hat hat2 hkl hkl2 a2 a3
      go_wp2_with fail
      have gx := fun q => cell_grew cx q
      have gy := fun q => cell_grew dx q
      have ge := fun q => cell_grew ce q
      have gf := fun q => cell_grew de q
      clear cx dx ce de
      obtain ⟨z, hz⟩ : ∃ z, (y != y2) = z := ⟨_, rfl⟩
      have HZZ := Lib.hid hz
      refine wp_region_grew (by kernel_rfl) (by kernel_rfl) ?_
      repeat (first | go_big_quiet_skip | (go_big_quiet_want; go_big_quiet_op; go_big_quiet_on))
      refine wpQuiet_nil ?_
      intro w2 hw2
      obtain ⟨qq, rfl⟩ := hw2
      have HB9 := Lib.hid (below_grew wr qq)
      clear gx gy ge gf
      cases z
      rotate_left
      · have HE := Lib.hid (show R = false from by
          rw [← HR.out]
          refine same_no (fun h => ?_)
          simp only [PmD.mk.injEq] at h
          have h9 := HZZ.out
          rw [bne_iff_ne] at h9
          exact h9 (by rw [← HAT.out.1, ← HAT.out.2, h.2.2.1]))
        go_wp2_with fail
        go_ret
        exact ⟨by rw [HE.out]; rfl, below_thn HZ0.out.2.2.2.2 HB9.out (Nat.le_refl _)⟩
      · go_wp2_with fail
        go_round
        case rel => exact ⟨k + 1, by omega, by go_num, Lib.hid (fun j hj => by
          rcases Nat.lt_or_ge j k with h | h
          · exact HT.out j h
          · obtain rfl : j = k := by omega
            have h9 := HZZ.out
            rw [bne_eq_false_iff_eq] at h9
            rw [HAT.out.1, HAT.out.2, h9]), Lib.hid ⟨HZ0.out.1.below HB9.out HZ0.out.1.lt, HZ0.out.2.1.below HB9.out HZ0.out.2.1.lt, HZ0.out.2.2.1.below HB9.out, HZ0.out.2.2.2.1.below HB9.out, below_thn HZ0.out.2.2.2.2 HB9.out (Nat.le_refl _)⟩⟩
        case measure => simp [intOf]; omega
    have hge : ¬ (k : Int) < (rl : Int) := by omega
    have HQ0 := Lib.hid (show pr = pr2 from list_same HLrl.out.1 HLrl.out.2 (fun j hj => HT.out j (by omega)))
    go_wp2_with fail
    clear cx dx hge hlt hk HT
    rename World => wr0
    go_loopw [6] (fun i wr => ∃ k : Nat, k ≤ ql ∧ i = .int .i64 k ∧ Hid (∀ j, j < k → pq.getD j 0 = pq2.getD j 0) ∧ Hid (Blk wr w.heap.size 24 (pmC o pe (Value.slice ra rl rc) (Value.slice qa ql qc) (Value.slice ga gl gc)) ∧ Blk wr a21.heap.size 24 (pmC o2 pe2 (Value.slice ra2 rl rc2) (Value.slice qa2 ql qc2) (Value.slice ga2 gl gc2)) ∧ PmS wr ⟨o, pe, pr, pq, pg⟩ (Value.slice ra rl rc) (Value.slice qa ql qc) (Value.slice ga gl gc) ∧ PmS wr ⟨o2, pe2, pr2, pq2, pg2⟩ (Value.slice ra2 rl rc2) (Value.slice qa2 ql qc2) (Value.slice ga2 gl gc2) ∧ Below w.heap.size w wr)) (fun i _ => ql - (intOf i).toNat)
    case atStart => exact ⟨0, Nat.zero_le _, rfl, Lib.hid (fun j hj => by omega), Lib.hid ⟨HZ0.out.1, HZ0.out.2.1, HZ0.out.2.2.1, HZ0.out.2.2.2.1, HZ0.out.2.2.2.2⟩⟩
    case round =>
      clear HZ0
      obtain ⟨k, hk, rfl, HT, HZ1⟩ := hrel
      have cx := HZ1.out.1.cell 3
      have dx := HZ1.out.2.1.cell 3
      simp only [pmC, List.getElem?_cons_zero, List.getElem?_cons_succ] at cx dx
      by_cases hlt : k < ql
      · have hkl : k < pq.length := by rw [HLql.out.1]; exact hlt
        have hkl2 : k < pq2.length := by rw [HLql.out.2]; exact hlt
        have hklz : (k : Int) < (ql : Int) := by omega
        have hk0 : (0 : Int) ≤ (k : Int) := by omega
        obtain ⟨ao', c', e0, a2, a3, hcl⟩ := HZ1.out.2.2.1.2.1.nums
        have hq63 : ql ≤ 9223372036854775807 := by have h := HLql.out.1; have h2 : pq.length ≤ c' := a2; omega
        obtain ⟨b, oo, e1, -, hcell⟩ := hcl (show 0 < pq.length by omega)
        subst e1
        simp only [Value.slice.injEq] at e0
        obtain ⟨rfl, -, rfl⟩ := e0
        obtain ⟨ao', c', e0, -, -, hcl2⟩ := HZ1.out.2.2.2.1.2.1.nums
        obtain ⟨b', oo', e1, -, hcell2⟩ := hcl2 (show 0 < pq2.length by omega)
        subst e1
        simp only [Value.slice.injEq] at e0
        obtain ⟨rfl, -, rfl⟩ := e0
        have ce := hcell k hkl
        have de := hcell2 k hkl2
        have hat := getD_at hkl
        have hat2 := getD_at hkl2
        generalize pq[k] = y at ce hat
        generalize pq2[k] = y2 at de hat2
        have HAT := Lib.hid (And.intro hat hat2)
        clear hcell hcl hcell2 hcl2 hat hat2 hkl hkl2 a2 a3
        go_wp2_with fail
        have gx := fun q => cell_grew cx q
        have gy := fun q => cell_grew dx q
        have ge := fun q => cell_grew ce q
        have gf := fun q => cell_grew de q
        clear cx dx ce de
        obtain ⟨z, hz⟩ : ∃ z, (y != y2) = z := ⟨_, rfl⟩
        have HZZ := Lib.hid hz
        refine wp_region_grew (by kernel_rfl) (by kernel_rfl) ?_
        repeat (first | go_big_quiet_skip | (go_big_quiet_want; go_big_quiet_op; go_big_quiet_on))
        refine wpQuiet_nil ?_
        intro w2 hw2
        obtain ⟨qq, rfl⟩ := hw2
        have HB9 := Lib.hid (below_grew wr qq)
        clear gx gy ge gf
        cases z
        rotate_left
        · have HE := Lib.hid (show R = false from by
            rw [← HR.out]
            refine same_no (fun h => ?_)
            simp only [PmD.mk.injEq] at h
            have h9 := HZZ.out
            rw [bne_iff_ne] at h9
            exact h9 (by rw [← HAT.out.1, ← HAT.out.2, h.2.2.2.1]))
          go_wp2_with fail
          go_ret
          exact ⟨by rw [HE.out]; rfl, below_thn HZ1.out.2.2.2.2 HB9.out (Nat.le_refl _)⟩
        · go_wp2_with fail
          go_round
          case rel => exact ⟨k + 1, by omega, by go_num, Lib.hid (fun j hj => by
            rcases Nat.lt_or_ge j k with h | h
            · exact HT.out j h
            · obtain rfl : j = k := by omega
              have h9 := HZZ.out
              rw [bne_eq_false_iff_eq] at h9
              rw [HAT.out.1, HAT.out.2, h9]), Lib.hid ⟨HZ1.out.1.below HB9.out HZ1.out.1.lt, HZ1.out.2.1.below HB9.out HZ1.out.2.1.lt, HZ1.out.2.2.1.below HB9.out, HZ1.out.2.2.2.1.below HB9.out, below_thn HZ1.out.2.2.2.2 HB9.out (Nat.le_refl _)⟩⟩
          case measure => simp [intOf]; omega
      have hge : ¬ (k : Int) < (ql : Int) := by omega
      have HQ1 := Lib.hid (show pq = pq2 from list_same HLql.out.1 HLql.out.2 (fun j hj => HT.out j (by omega)))
      go_wp2_with fail
      clear cx dx hge hlt hk HT
      rename World => wr1
      go_loopw [7] (fun i wr => ∃ k : Nat, k ≤ gl ∧ i = .int .i64 k ∧ Hid (∀ j, j < k → pg.getD j 0 = pg2.getD j 0) ∧ Hid (Blk wr w.heap.size 24 (pmC o pe (Value.slice ra rl rc) (Value.slice qa ql qc) (Value.slice ga gl gc)) ∧ Blk wr a21.heap.size 24 (pmC o2 pe2 (Value.slice ra2 rl rc2) (Value.slice qa2 ql qc2) (Value.slice ga2 gl gc2)) ∧ PmS wr ⟨o, pe, pr, pq, pg⟩ (Value.slice ra rl rc) (Value.slice qa ql qc) (Value.slice ga gl gc) ∧ PmS wr ⟨o2, pe2, pr2, pq2, pg2⟩ (Value.slice ra2 rl rc2) (Value.slice qa2 ql qc2) (Value.slice ga2 gl gc2) ∧ Below w.heap.size w wr)) (fun i _ => gl - (intOf i).toNat)
      case atStart => exact ⟨0, Nat.zero_le _, rfl, Lib.hid (fun j hj => by omega), Lib.hid ⟨HZ1.out.1, HZ1.out.2.1, HZ1.out.2.2.1, HZ1.out.2.2.2.1, HZ1.out.2.2.2.2⟩⟩
      case round =>
        clear HZ1
        obtain ⟨k, hk, rfl, HT, HZ2⟩ := hrel
        have cx := HZ2.out.1.cell 4
        have dx := HZ2.out.2.1.cell 4
        simp only [pmC, List.getElem?_cons_zero, List.getElem?_cons_succ] at cx dx
        by_cases hlt : k < gl
        · have hkl : k < pg.length := by rw [HLgl.out.1]; exact hlt
          have hkl2 : k < pg2.length := by rw [HLgl.out.2]; exact hlt
          have hklz : (k : Int) < (gl : Int) := by omega
          have hk0 : (0 : Int) ≤ (k : Int) := by omega
          obtain ⟨ao', c', e0, a2, a3, hcl⟩ := HZ2.out.2.2.1.2.2.nums
          have hq63 : gl ≤ 9223372036854775807 := by have h := HLgl.out.1; have h2 : pg.length ≤ c' := a2; omega
          obtain ⟨b, oo, e1, -, hcell⟩ := hcl (show 0 < pg.length by omega)
          subst e1
          simp only [Value.slice.injEq] at e0
          obtain ⟨rfl, -, rfl⟩ := e0
          obtain ⟨ao', c', e0, -, -, hcl2⟩ := HZ2.out.2.2.2.1.2.2.nums
          obtain ⟨b', oo', e1, -, hcell2⟩ := hcl2 (show 0 < pg2.length by omega)
          subst e1
          simp only [Value.slice.injEq] at e0
          obtain ⟨rfl, -, rfl⟩ := e0
          have ce := hcell k hkl
          have de := hcell2 k hkl2
          have hat := getD_at hkl
          have hat2 := getD_at hkl2
          generalize pg[k] = y at ce hat
          generalize pg2[k] = y2 at de hat2
          have HAT := Lib.hid (And.intro hat hat2)
          clear hcell hcl hcell2 hcl2 hat hat2 hkl hkl2 a2 a3
          go_wp2_with fail
          have gx := fun q => cell_grew cx q
          have gy := fun q => cell_grew dx q
          have ge := fun q => cell_grew ce q
          have gf := fun q => cell_grew de q
          clear cx dx ce de
          obtain ⟨z, hz⟩ : ∃ z, (y != y2) = z := ⟨_, rfl⟩
          have HZZ := Lib.hid hz
          refine wp_region_grew (by kernel_rfl) (by kernel_rfl) ?_
          repeat (first | go_big_quiet_skip | (go_big_quiet_want; go_big_quiet_op; go_big_quiet_on))
          refine wpQuiet_nil ?_
          intro w2 hw2
          obtain ⟨qq, rfl⟩ := hw2
          have HB9 := Lib.hid (below_grew wr qq)
          clear gx gy ge gf
          cases z
          rotate_left
          · have HE := Lib.hid (show R = false from by
              rw [← HR.out]
              refine same_no (fun h => ?_)
              simp only [PmD.mk.injEq] at h
              have h9 := HZZ.out
              rw [bne_iff_ne] at h9
              exact h9 (by rw [← HAT.out.1, ← HAT.out.2, h.2.2.2.2]))
            go_wp2_with fail
            go_ret
            exact ⟨by rw [HE.out]; rfl, below_thn HZ2.out.2.2.2.2 HB9.out (Nat.le_refl _)⟩
          · go_wp2_with fail
            go_round
            case rel => exact ⟨k + 1, by omega, by go_num, Lib.hid (fun j hj => by
              rcases Nat.lt_or_ge j k with h | h
              · exact HT.out j h
              · obtain rfl : j = k := by omega
                have h9 := HZZ.out
                rw [bne_eq_false_iff_eq] at h9
                rw [HAT.out.1, HAT.out.2, h9]), Lib.hid ⟨HZ2.out.1.below HB9.out HZ2.out.1.lt, HZ2.out.2.1.below HB9.out HZ2.out.2.1.lt, HZ2.out.2.2.1.below HB9.out, HZ2.out.2.2.2.1.below HB9.out, below_thn HZ2.out.2.2.2.2 HB9.out (Nat.le_refl _)⟩⟩
            case measure => simp [intOf]; omega
        have hge : ¬ (k : Int) < (gl : Int) := by omega
        have HQ2 := Lib.hid (show pg = pg2 from list_same HLgl.out.1 HLgl.out.2 (fun j hj => HT.out j (by omega)))
        have HE := Lib.hid (show R = true from by rw [← HR.out]; refine (samePB_iff _ _).2 ?_; rw [HK.out.1, HK.out.2, HQ0.out, HQ1.out, HQ2.out])
        go_wp2_with fail
        go_ret
        exact ⟨by rw [HE.out]; rfl, HZ2.out.2.2.2.2⟩


end Go.Proofs.Ytampheimonmggaa
