/-
  Layer 11's reference: Right, MayWrite, MayRead, walked. Conditions: none.
-/
import Derived.Test.YtampheimonmggaaPmW
namespace Go.Proofs.Ytampheimonmggaa
open Go Go.RowKit Go.Sort
set_option linter.unusedSimpArgs false
set_option linter.unusedVariables false


set_option maxRecDepth 100000 in
set_option maxHeartbeats 4000000 in
theorem rright_any (p : PmD) (vr vq vg : Value) (w : World) (hp : PmS w p vr vq vg) :
    Calls Try.prog 19 #[.agg (pmC p.o p.e vr vq vg).toArray] w (fun e w' => e = .returned (.bool (okB p)) ∧ Below w.heap.size w w') := by
  obtain ⟨ra, rc, rfl, -⟩ := hp.1.shape
  obtain ⟨qa, qc, rfl, -⟩ := hp.2.1.shape
  obtain ⟨ga, gc, rfl, -⟩ := hp.2.2.shape
  obtain ⟨o, pe, pr, pq, pg⟩ := p
  simp only at hp ⊢
  simp only [length_ofK] at hp ⊢
  obtain ⟨R, hR⟩ : ∃ R, okB ⟨o, pe, pr, pq, pg⟩ = R := ⟨_, rfl⟩
  have HR := Lib.hid hR
  rw [hR]
  generalize pr.length = rl at hp ⊢
  obtain ⟨ql, hql⟩ : ∃ n, pq.length = n := ⟨_, rfl⟩
  have HQL := Lib.hid hql
  rw [hql] at hp ⊢
  generalize pg.length = gl at hp ⊢
  have H0 := Lib.hid (show PmS w ⟨o, pe, pr, pq, pg⟩ (Value.slice ra rl rc) (Value.slice qa ql qc) (Value.slice ga gl gc) ∧ Below w.heap.size w w from ⟨hp, Below.refl _ _⟩)
  obtain ⟨b1, hb1⟩ : ∃ b, riseB (upB 6 o) pr = b := ⟨_, rfl⟩
  obtain ⟨b2, hb2⟩ : ∃ b, riseB (upB 6 o) pq = b := ⟨_, rfl⟩
  obtain ⟨b3, hb3⟩ : ∃ b, riseB (upB 3 0) pg = b := ⟨_, rfl⟩
  have HB1 := Lib.hid hb1
  have HB2 := Lib.hid hb2
  have HB3 := Lib.hid hb3
  clear hp hR hb1 hb2 hb3 hql
  by_cases h1 : 1 ≤ o
  rotate_left
  · have h1' : o < 1 := by omega
    have HE := Lib.hid (show R = false from by rw [← HR.out]; exact okB_no fun h => by have := h.o; simp [userB] at this; omega)
    go_enter Try.func19, Try.ntmps19
    go_wp2_with (first
    | ((with_reducible refine wpList_box_blk w rfl 24 (.tmp 0) rfl (pmC o pe (Value.slice ra rl rc) (Value.slice qa ql qc) (Value.slice ga gl gc)) rfl ?_); intro a1 hb hbel hsz; have HA2 := Lib.hid (show PmS a1 ⟨o, pe, pr, pq, pg⟩ (Value.slice ra rl rc) (Value.slice qa ql qc) (Value.slice ga gl gc) ∧ Below w.heap.size w a1 ∧ Blk a1 w.heap.size 24 (pmC o pe (Value.slice ra rl rc) (Value.slice qa ql qc) (Value.slice ga gl gc)) from ⟨H0.out.1.below hbel, below_thn H0.out.2 hbel (Nat.le_refl _), hb⟩); have c0 := HA2.out.2.2.cell 0; have c1 := HA2.out.2.2.cell 1; have c2 := HA2.out.2.2.cell 2; have c3 := HA2.out.2.2.cell 3; have c4 := HA2.out.2.2.cell 4; simp only [pmC, List.getElem?_cons_zero, List.getElem?_cons_succ] at c0 c1 c2 c3 c4; clear hb hbel hsz))
    go_ret
    exact ⟨by rw [HE.out]; rfl, HA2.out.2.1⟩
  have h1' : ¬ o < 1 := by omega
  by_cases h2 : o ≤ 6
  rotate_left
  · have h2' : 6 < o := by omega
    have HE := Lib.hid (show R = false from by rw [← HR.out]; exact okB_no fun h => by have := h.o; simp [userB] at this; omega)
    go_enter Try.func19, Try.ntmps19
    go_wp2_with (first
    | ((with_reducible refine wpList_box_blk w rfl 24 (.tmp 0) rfl (pmC o pe (Value.slice ra rl rc) (Value.slice qa ql qc) (Value.slice ga gl gc)) rfl ?_); intro a3 hb hbel hsz; have HA4 := Lib.hid (show PmS a3 ⟨o, pe, pr, pq, pg⟩ (Value.slice ra rl rc) (Value.slice qa ql qc) (Value.slice ga gl gc) ∧ Below w.heap.size w a3 ∧ Blk a3 w.heap.size 24 (pmC o pe (Value.slice ra rl rc) (Value.slice qa ql qc) (Value.slice ga gl gc)) from ⟨H0.out.1.below hbel, below_thn H0.out.2 hbel (Nat.le_refl _), hb⟩); have c0 := HA4.out.2.2.cell 0; have c1 := HA4.out.2.2.cell 1; have c2 := HA4.out.2.2.cell 2; have c3 := HA4.out.2.2.cell 3; have c4 := HA4.out.2.2.cell 4; simp only [pmC, List.getElem?_cons_zero, List.getElem?_cons_succ] at c0 c1 c2 c3 c4; clear hb hbel hsz))
    go_ret
    exact ⟨by rw [HE.out]; rfl, HA4.out.2.1⟩
  have h2' : ¬ 6 < o := by omega
  by_cases h3 : 1 ≤ pe
  rotate_left
  · have h3' : pe < 1 := by omega
    have HE := Lib.hid (show R = false from by rw [← HR.out]; exact okB_no fun h => by have := h.e; simp only at this; omega)
    go_enter Try.func19, Try.ntmps19
    go_wp2_with (first
    | ((with_reducible refine wpList_box_blk w rfl 24 (.tmp 0) rfl (pmC o pe (Value.slice ra rl rc) (Value.slice qa ql qc) (Value.slice ga gl gc)) rfl ?_); intro a5 hb hbel hsz; have HA6 := Lib.hid (show PmS a5 ⟨o, pe, pr, pq, pg⟩ (Value.slice ra rl rc) (Value.slice qa ql qc) (Value.slice ga gl gc) ∧ Below w.heap.size w a5 ∧ Blk a5 w.heap.size 24 (pmC o pe (Value.slice ra rl rc) (Value.slice qa ql qc) (Value.slice ga gl gc)) from ⟨H0.out.1.below hbel, below_thn H0.out.2 hbel (Nat.le_refl _), hb⟩); have c0 := HA6.out.2.2.cell 0; have c1 := HA6.out.2.2.cell 1; have c2 := HA6.out.2.2.cell 2; have c3 := HA6.out.2.2.cell 3; have c4 := HA6.out.2.2.cell 4; simp only [pmC, List.getElem?_cons_zero, List.getElem?_cons_succ] at c0 c1 c2 c3 c4; clear hb hbel hsz))
    go_ret
    exact ⟨by rw [HE.out]; rfl, HA6.out.2.1⟩
  have h3' : ¬ pe < 1 := by omega
  by_cases h4 : pe ≤ 8
  rotate_left
  · have h4' : 8 < pe := by omega
    have HE := Lib.hid (show R = false from by rw [← HR.out]; exact okB_no fun h => by have := h.e; simp only at this; omega)
    go_enter Try.func19, Try.ntmps19
    go_wp2_with (first
    | ((with_reducible refine wpList_box_blk w rfl 24 (.tmp 0) rfl (pmC o pe (Value.slice ra rl rc) (Value.slice qa ql qc) (Value.slice ga gl gc)) rfl ?_); intro a7 hb hbel hsz; have HA8 := Lib.hid (show PmS a7 ⟨o, pe, pr, pq, pg⟩ (Value.slice ra rl rc) (Value.slice qa ql qc) (Value.slice ga gl gc) ∧ Below w.heap.size w a7 ∧ Blk a7 w.heap.size 24 (pmC o pe (Value.slice ra rl rc) (Value.slice qa ql qc) (Value.slice ga gl gc)) from ⟨H0.out.1.below hbel, below_thn H0.out.2 hbel (Nat.le_refl _), hb⟩); have c0 := HA8.out.2.2.cell 0; have c1 := HA8.out.2.2.cell 1; have c2 := HA8.out.2.2.cell 2; have c3 := HA8.out.2.2.cell 3; have c4 := HA8.out.2.2.cell 4; simp only [pmC, List.getElem?_cons_zero, List.getElem?_cons_succ] at c0 c1 c2 c3 c4; clear hb hbel hsz))
    go_ret
    exact ⟨by rw [HE.out]; rfl, HA8.out.2.1⟩
  have h4' : ¬ 8 < pe := by omega
  have HO := Lib.hid (And.intro h1 (And.intro h2 (And.intro h3 h4)))
  clear h1 h2 h3 h4
  go_enter Try.func19, Try.ntmps19
  go_wp2_with (first
    | ((with_reducible refine wpList_box_blk w rfl 24 (.tmp 0) rfl (pmC o pe (Value.slice ra rl rc) (Value.slice qa ql qc) (Value.slice ga gl gc)) rfl ?_); intro a9 hb hbel hsz; have HA10 := Lib.hid (show PmS a9 ⟨o, pe, pr, pq, pg⟩ (Value.slice ra rl rc) (Value.slice qa ql qc) (Value.slice ga gl gc) ∧ Below w.heap.size w a9 ∧ Blk a9 w.heap.size 24 (pmC o pe (Value.slice ra rl rc) (Value.slice qa ql qc) (Value.slice ga gl gc)) from ⟨H0.out.1.below hbel, below_thn H0.out.2 hbel (Nat.le_refl _), hb⟩); have c0 := HA10.out.2.2.cell 0; have c1 := HA10.out.2.2.cell 1; have c2 := HA10.out.2.2.cell 2; have c3 := HA10.out.2.2.cell 3; have c4 := HA10.out.2.2.cell 4; simp only [pmC, List.getElem?_cons_zero, List.getElem?_cons_succ] at c0 c1 c2 c3 c4; clear hb hbel hsz))
  clear c0 c1 c2 c3 c4
  have hx := rrising_any (.slice ra rl rc) pr 6 o a9 HA10.out.1.1
  rw [HB1.out] at hx
  refine Calls.mono hx ?_
  clear hx
  rintro e' y0 ⟨rfl, hb⟩
  have HY0 := Lib.hid (show PmS y0 ⟨o, pe, pr, pq, pg⟩ (Value.slice ra rl rc) (Value.slice qa ql qc) (Value.slice ga gl gc) ∧ Below w.heap.size w y0 ∧ Blk y0 w.heap.size 24 (pmC o pe (Value.slice ra rl rc) (Value.slice qa ql qc) (Value.slice ga gl gc)) from ⟨HA10.out.1.below hb, below_thn HA10.out.2.1 hb (Nat.le_refl _), HA10.out.2.2.below hb HA10.out.2.2.lt⟩)
  clear hb
  cases b1
  · skip
    have HE := Lib.hid (show R = false from by rw [← HR.out]; exact okB_no fun h => absurd (show riseB (otherB o) pr = true from h.r) (by rw [show riseB (otherB o) pr = false from HB1.out]; simp))
    go_wp2_with fail
    go_ret
    exact ⟨by rw [HE.out]; rfl, HY0.out.2.1⟩
  have c0 := HY0.out.2.2.cell 0
  have c1 := HY0.out.2.2.cell 1
  have c2 := HY0.out.2.2.cell 2
  have c3 := HY0.out.2.2.cell 3
  have c4 := HY0.out.2.2.cell 4
  simp only [pmC, List.getElem?_cons_zero, List.getElem?_cons_succ] at c0 c1 c2 c3 c4
  go_wp2_with fail
  clear c0 c1 c2 c3 c4
  have hx := rrising_any (.slice qa ql qc) pq 6 o y0 HY0.out.1.2.1
  rw [HB2.out] at hx
  refine Calls.mono hx ?_
  clear hx
  rintro e' y1 ⟨rfl, hb⟩
  have HY1 := Lib.hid (show PmS y1 ⟨o, pe, pr, pq, pg⟩ (Value.slice ra rl rc) (Value.slice qa ql qc) (Value.slice ga gl gc) ∧ Below w.heap.size w y1 ∧ Blk y1 w.heap.size 24 (pmC o pe (Value.slice ra rl rc) (Value.slice qa ql qc) (Value.slice ga gl gc)) from ⟨HY0.out.1.below hb, below_thn HY0.out.2.1 hb (Nat.le_refl _), HY0.out.2.2.below hb HY0.out.2.2.lt⟩)
  clear hb
  cases b2
  · skip
    have HE := Lib.hid (show R = false from by rw [← HR.out]; exact okB_no fun h => absurd (show riseB (otherB o) pq = true from h.q) (by rw [show riseB (otherB o) pq = false from HB2.out]; simp))
    go_wp2_with fail
    go_ret
    exact ⟨by rw [HE.out]; rfl, HY1.out.2.1⟩
  have c0 := HY1.out.2.2.cell 0
  have c1 := HY1.out.2.2.cell 1
  have c2 := HY1.out.2.2.cell 2
  have c3 := HY1.out.2.2.cell 3
  have c4 := HY1.out.2.2.cell 4
  simp only [pmC, List.getElem?_cons_zero, List.getElem?_cons_succ] at c0 c1 c2 c3 c4
  go_wp2_with fail
  clear c0 c1 c2 c3 c4
  have hx := rrising_any (.slice ga gl gc) pg 3 0 y1 HY1.out.1.2.2
  rw [HB3.out] at hx
  refine Calls.mono hx ?_
  clear hx
  rintro e' y2 ⟨rfl, hb⟩
  have HY2 := Lib.hid (show PmS y2 ⟨o, pe, pr, pq, pg⟩ (Value.slice ra rl rc) (Value.slice qa ql qc) (Value.slice ga gl gc) ∧ Below w.heap.size w y2 ∧ Blk y2 w.heap.size 24 (pmC o pe (Value.slice ra rl rc) (Value.slice qa ql qc) (Value.slice ga gl gc)) from ⟨HY1.out.1.below hb, below_thn HY1.out.2.1 hb (Nat.le_refl _), HY1.out.2.2.below hb HY1.out.2.2.lt⟩)
  clear hb
  cases b3
  · skip
    have HE := Lib.hid (show R = false from by rw [← HR.out]; exact okB_no fun h => absurd (show riseB groupB pg = true from h.g) (by rw [← upB_group, HB3.out]; simp))
    go_wp2_with fail
    go_ret
    exact ⟨by rw [HE.out]; rfl, HY2.out.2.1⟩
  have c0 := HY2.out.2.2.cell 0
  have c1 := HY2.out.2.2.cell 1
  have c2 := HY2.out.2.2.cell 2
  have c3 := HY2.out.2.2.cell 3
  have c4 := HY2.out.2.2.cell 4
  simp only [pmC, List.getElem?_cons_zero, List.getElem?_cons_succ] at c0 c1 c2 c3 c4
  go_wp2_with fail
  clear c0 c1 c2 c3 c4
  go_loopw [3] (fun i wr => ∃ k : Nat, k ≤ ql ∧ i = .int .i64 k ∧ Hid (∀ j, j < k → inB pr (pq.getD j 0) = true) ∧ Hid (Blk wr w.heap.size 24 (pmC o pe (Value.slice ra rl rc) (Value.slice qa ql qc) (Value.slice ga gl gc)) ∧ PmS wr ⟨o, pe, pr, pq, pg⟩ (Value.slice ra rl rc) (Value.slice qa ql qc) (Value.slice ga gl gc) ∧ Below w.heap.size w wr)) (fun i _ => ql - (intOf i).toNat)
  case atStart => exact ⟨0, Nat.zero_le _, rfl, Lib.hid (fun j hj => by omega), Lib.hid ⟨HY2.out.2.2, HY2.out.1, HY2.out.2.1⟩⟩
  case round =>
    clear HY2
    obtain ⟨k, hk, rfl, HT, HZ⟩ := hrel
    have c2 := HZ.out.1.cell 2
    have c3 := HZ.out.1.cell 3
    simp only [pmC, List.getElem?_cons_zero, List.getElem?_cons_succ] at c2 c3
    by_cases hlt : k < ql
    · have hkl : k < pq.length := by rw [HQL.out]; exact hlt
      have hklz : (k : Int) < (ql : Int) := by omega
      have hk0 : (0 : Int) ≤ (k : Int) := by omega
      obtain ⟨ao', c', e0, a2, a3, hcl⟩ := HZ.out.2.1.2.1.nums
      have hq63 : ql ≤ 9223372036854775807 := by have h := HQL.out; have h2 : pq.length ≤ c' := a2; omega
      clear a2 a3
      obtain ⟨b, oo, e1, -, hcell⟩ := hcl (show 0 < pq.length by omega)
      subst e1
      simp only [Value.slice.injEq] at e0
      obtain ⟨rfl, -, rfl⟩ := e0
      have ce := hcell k hkl
      have hat := getD_at hkl
      have HMEM := Lib.hid (List.getElem_mem hkl)
      generalize pq[k] = y at ce hat HMEM
      have HAT := Lib.hid hat
      obtain ⟨z, hz⟩ : ∃ z, inB pr y = z := ⟨_, rfl⟩
      have HZZ := Lib.hid hz
      have C1 := Lib.hid (fun x => show Calls Try.prog 42 #[.slice ra rl rc, .int .i64 y] (grew wr x) (fun e w' => e = .returned (.bool z) ∧ w' = grew wr x) from by have h := rin_any (.slice ra rl rc) pr y (grew wr x) (HZ.out.2.1.1.below (below_grew wr x) (Nat.le_refl _)); rw [hz] at h; exact h.mono fun _ _ ⟨he, hm⟩ => ⟨he, hm.symm⟩)
      clear hcell hcl hat hz hkl
      go_wp2_with fail
      have g2 := fun q => cell_grew c2 q
      have g3 := fun q => cell_grew c3 q
      have ge := fun q => cell_grew ce q
      clear c2 c3 ce
      refine wp_region_grew (by kernel_rfl) (by kernel_rfl) ?_
      repeat (first | go_big_quiet_skip | (go_big_quiet_want; go_big_quiet_op; (first | go_big_quiet_on | (apply Exists.intro; refine ⟨fun _ => ?_, ?_⟩; (focus (go_at_call 42; with_reducible exact calls_grew_same (C1.out _))); go_big_quiet_on))))
      refine wpQuiet_nil ?_
      intro w2 hw2
      obtain ⟨qq, rfl⟩ := hw2
      have HB9 := Lib.hid (below_grew wr qq)
      clear g2 g3 ge C1
      cases z
      · have HE := Lib.hid (show R = false from by rw [← HR.out]; exact okB_no fun h => inB_no.1 HZZ.out (h.w y HMEM.out))
        go_wp2_with fail
        go_ret
        exact ⟨by rw [HE.out]; rfl, below_thn HZ.out.2.2 HB9.out (Nat.le_refl _)⟩
      · go_wp2_with fail
        go_round
        case rel => exact ⟨k + 1, by omega, by go_num, Lib.hid (fun j hj => by
          rcases Nat.lt_or_ge j k with h | h
          · exact HT.out j h
          · obtain rfl : j = k := by omega
            rw [HAT.out]; exact HZZ.out), Lib.hid ⟨HZ.out.1.below HB9.out HZ.out.1.lt, HZ.out.2.1.below HB9.out, below_thn HZ.out.2.2 HB9.out (Nat.le_refl _)⟩⟩
        case measure => simp [intOf]; omega
    · have hge : ¬ (k : Int) < (ql : Int) := by omega
      have HE := Lib.hid (show R = true from by
        rw [← HR.out]
        refine okB_iff.2 ⟨by show userB o = true; unfold userB; rw [Bool.and_eq_true, decide_eq_true_eq, decide_eq_true_eq]; exact ⟨HO.out.1, HO.out.2.1⟩, ⟨HO.out.2.2.1, HO.out.2.2.2⟩, HB1.out, HB2.out, by show riseB groupB pg = true; rw [← upB_group]; exact HB3.out, fun n hn => ?_⟩
        obtain ⟨j, hj, rfl⟩ := List.mem_iff_getElem.1 hn
        have h := HT.out j (by have h2 := HQL.out; have hj2 : j < pq.length := hj; omega)
        rw [getD_at hj] at h
        exact inB_iff.1 h)
      go_wp2_with fail
      go_ret
      exact ⟨by rw [HE.out]; rfl, HZ.out.2.2⟩


set_option maxRecDepth 100000 in
set_option maxHeartbeats 4000000 in
theorem rmayWrite_any (p : PmD) (n : Int) (vr vq vg : Value) (w : World) (hp : PmS w p vr vq vg) :
    Calls Try.prog 21 #[.agg (pmC p.o p.e vr vq vg).toArray, .int .i64 n] w (fun e w' => e = .returned (.bool (mayWB p n)) ∧ Below w.heap.size w w') := by
  obtain ⟨ra, rc, rfl, -⟩ := hp.1.shape
  obtain ⟨qa, qc, rfl, -⟩ := hp.2.1.shape
  obtain ⟨ga, gc, rfl, -⟩ := hp.2.2.shape
  obtain ⟨o, pe, pr, pq, pg⟩ := p
  simp only at hp ⊢
  simp only [length_ofK] at hp ⊢
  obtain ⟨R, hR⟩ : ∃ R, mayWB ⟨o, pe, pr, pq, pg⟩ n = R := ⟨_, rfl⟩
  have HR := Lib.hid (show (okB ⟨o, pe, pr, pq, pg⟩ && ((n == o) || inB pq n)) = R from hR)
  rw [hR]
  generalize pr.length = rl at hp ⊢
  generalize pq.length = ql at hp ⊢
  generalize pg.length = gl at hp ⊢
  have H0 := Lib.hid (show PmS w ⟨o, pe, pr, pq, pg⟩ (Value.slice ra rl rc) (Value.slice qa ql qc) (Value.slice ga gl gc) ∧ Below w.heap.size w w from ⟨hp, Below.refl _ _⟩)
  obtain ⟨b1, hb1⟩ : ∃ b, okB ⟨o, pe, pr, pq, pg⟩ = b := ⟨_, rfl⟩
  obtain ⟨b2, hb2⟩ : ∃ b, (n == o) = b := ⟨_, rfl⟩
  obtain ⟨b3, hb3⟩ : ∃ b, inB pq n = b := ⟨_, rfl⟩
  have HB1 := Lib.hid hb1
  have HB3 := Lib.hid hb3
  rw [hb1, hb2, hb3] at HR
  clear hp hR hb1 hb3
  go_enter Try.func21, Try.ntmps21
  go_wp2_with (first
    | ((with_reducible refine wpList_box_blk w rfl 24 (.tmp 0) rfl (pmC o pe (Value.slice ra rl rc) (Value.slice qa ql qc) (Value.slice ga gl gc)) rfl ?_); intro a11 hb hbel hsz; have HA12 := Lib.hid (show PmS a11 ⟨o, pe, pr, pq, pg⟩ (Value.slice ra rl rc) (Value.slice qa ql qc) (Value.slice ga gl gc) ∧ Below w.heap.size w a11 ∧ Blk a11 w.heap.size 24 (pmC o pe (Value.slice ra rl rc) (Value.slice qa ql qc) (Value.slice ga gl gc)) from ⟨H0.out.1.below hbel, below_thn H0.out.2 hbel (Nat.le_refl _), hb⟩); have c0 := HA12.out.2.2.cell 0; have c1 := HA12.out.2.2.cell 1; have c2 := HA12.out.2.2.cell 2; have c3 := HA12.out.2.2.cell 3; have c4 := HA12.out.2.2.cell 4; simp only [pmC, List.getElem?_cons_zero, List.getElem?_cons_succ] at c0 c1 c2 c3 c4; clear c0 c1 c2 c3 c4; clear hb hbel hsz)
    | (with_reducible refine wpList_load_any rfl 24 (.tmp 2) rfl w.heap.size 0 rfl (pmC o pe (Value.slice ra rl rc) (Value.slice qa ql qc) (Value.slice ga gl gc)) _ (rangeW_blk HA12.out.2.2) Try.underlying24 rfl (pmC_info _ _ _ _ _) ?_))
  have hx := rright_any ⟨o, pe, pr, pq, pg⟩ _ _ _ a11 HA12.out.1
  rw [HB1.out] at hx
  refine Calls.mono hx ?_
  clear hx
  rintro e' y1 ⟨rfl, hb⟩
  have HY1 := Lib.hid (show PmS y1 ⟨o, pe, pr, pq, pg⟩ (Value.slice ra rl rc) (Value.slice qa ql qc) (Value.slice ga gl gc) ∧ Below w.heap.size w y1 ∧ Blk y1 w.heap.size 24 (pmC o pe (Value.slice ra rl rc) (Value.slice qa ql qc) (Value.slice ga gl gc)) from ⟨HA12.out.1.below hb, below_thn HA12.out.2.1 hb (Nat.le_refl _), HA12.out.2.2.below hb HA12.out.2.2.lt⟩)
  clear hb
  have c0 := HY1.out.2.2.cell 0
  have c3 := HY1.out.2.2.cell 3
  simp only [pmC, List.getElem?_cons_zero, List.getElem?_cons_succ] at c0 c3
  cases b1
  · go_wp2_with fail
    go_ret
    exact ⟨by rw [← HR.out]; rfl, HY1.out.2.1⟩
  cases b2
  rotate_left
  · go_wp2_with fail
    go_ret
    exact ⟨by rw [← HR.out]; rfl, HY1.out.2.1⟩
  go_wp2_with fail
  have hx := rin_any (.slice qa ql qc) pq n y1 HY1.out.1.2.1
  rw [HB3.out] at hx
  refine Calls.mono hx ?_
  clear hx
  rintro e' y2 ⟨rfl, rfl⟩
  go_wp2_with fail
  go_ret
  exact ⟨by rw [← HR.out]; simp, HY1.out.2.1⟩


end Go.Proofs.Ytampheimonmggaa
