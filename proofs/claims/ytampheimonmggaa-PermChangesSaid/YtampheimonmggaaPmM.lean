/-
  slices.Equal at ints, perm.Same, perm.New, perm.MayWrite, walked. Conditions: lengths within the form's reach.
-/
import Derived.Test.YtampheimonmggaaPmL
namespace Go.Proofs.Ytampheimonmggaa
open Go Go.RowKit Go.Sort
set_option linter.unusedSimpArgs false
set_option linter.unusedVariables false

theorem take_snoc_eq {l k : List Int} {i : Nat} (h : l.take i = k.take i) (hl : i < l.length) (hk : i < k.length) (h2 : l[i] = k[i]) : l.take (i + 1) = k.take (i + 1) := by
  rw [List.take_succ_eq_append_getElem hl, List.take_succ_eq_append_getElem hk, h, h2]

set_option maxRecDepth 100000 in
set_option maxHeartbeats 2000000 in
theorem equal_any (v1 v2 : Value) (l k : List Int) (w : World) (h1 : Sl w v1 (ofK .i64 l)) (h2 : Sl w v2 (ofK .i64 k)) :
    Calls Try.prog 37 #[v1, v2] w (fun e w' => e = .returned (.bool (decide (l = k))) ∧ Sm w w') := by
  obtain ⟨ao, c, rfl, a2, a3, a4⟩ := h1.nums
  obtain ⟨bo, d, rfl, b2, b3, b4⟩ := h2.nums
  have H := Lib.hid (And.intro a4 b4)
  obtain ⟨L, hL⟩ : ∃ L, l.length = L := ⟨_, rfl⟩
  obtain ⟨M, hM⟩ : ∃ M, k.length = M := ⟨_, rfl⟩
  obtain ⟨R, hR⟩ : ∃ R, decide (l = k) = R := ⟨_, rfl⟩
  have HL := Lib.hid (And.intro hL (And.intro hM hR))
  rw [hL] at a2 ⊢
  rw [hM] at b2 ⊢
  rw [hR]
  clear h1 h2 a4 b4 hL hM hR
  by_cases hlm : L = M
  · subst hlm
    go_enter Try.func37, Try.ntmps37
    go_wp2_with fail
    go_loopw [5, 13] (fun u5 i wr => ∃ j : Nat, j ≤ L ∧ i = .int .i64 j ∧ Hid (l.take j = k.take j ∧ Sm w wr)) (fun _ i _ => L - (intOf i).toNat)
    case atStart => exact ⟨0, Nat.zero_le _, rfl, Lib.hid ⟨by simp, Sm.refl _⟩⟩
    case round =>
      obtain ⟨j, hj, rfl, HT⟩ := hrel
      by_cases hlt : j < L
      · have hjl : j < l.length := by rw [HL.out.1]; exact hlt
        have hjk : j < k.length := by rw [HL.out.2.1]; exact hlt
        have hjz : (j : Int) < (L : Int) := by omega
        have hj0 : (0 : Int) ≤ (j : Int) := by omega
        obtain ⟨b, o, rfl, -, hc1⟩ := H.out.1 (by omega)
        obtain ⟨b', o', rfl, -, hc2⟩ := H.out.2 (by omega)
        have c1 : wr.cell? ⟨b, o + j, none⟩ = some (.int .i64 l[j]) := (HT.out.2.cell _).trans (hc1 j hjl)
        have c2 : wr.cell? ⟨b', o' + j, none⟩ = some (.int .i64 k[j]) := (HT.out.2.cell _).trans (hc2 j hjk)
        have hno : l[j] ≠ k[j] → R = false := fun h => by
          rw [← HL.out.2.2, decide_eq_false]
          rintro rfl; exact h rfl
        have hyes := fun h => take_snoc_eq HT.out.1 hjl hjk h
        generalize l[j] = x at c1 hno hyes
        generalize k[j] = y at c2 hno hyes
        have HN := Lib.hid hno
        have HY := Lib.hid hyes
        clear hc1 hc2 hno hyes hjl hjk
        by_cases e : x = y
        · have e' : (x != y) = false := by simpa using e
          have HA := Lib.hid (HY.out e)
          clear e
          go_wp2_with fail
          go_quiet (fail)
          rename_i nq
          clear c1 c2
          go_wp2_with fail
          go_roundw
          case rel => exact ⟨j + 1, by omega, by go_num, Lib.hid ⟨HA.out, HT.out.2.drewN _⟩⟩
          case measure => simp [intOf]; omega
        · have e' : (x != y) = true := by simpa using e
          have HA := Lib.hid (HN.out e)
          clear e
          go_wp2_with fail
          go_quiet (fail)
          rename_i nq
          clear c1 c2
          go_wp2_with fail
          go_ret
          exact ⟨by rw [HA.out]; rfl, HT.out.2.drewN _⟩
      · have hge : ¬ (j : Int) < (L : Int) := by omega
        have HRR := Lib.hid (show R = true by
          have := HT.out.1
          rw [List.take_of_length_le (by rw [HL.out.1]; omega), List.take_of_length_le (by rw [HL.out.2.1]; omega)] at this
          rw [← HL.out.2.2, decide_eq_true this])
        go_wp2_with fail
        go_ret
        exact ⟨by rw [HRR.out]; rfl, HT.out.2⟩
  · have hne : ((L : Int) != (M : Int)) = true := by simp; omega
    have HRR := Lib.hid (show R = false by
      rw [← HL.out.2.2, decide_eq_false]
      rintro rfl
      exact hlm (HL.out.1.symm.trans HL.out.2.1))
    clear hlm
    go_enter Try.func37, Try.ntmps37
    go_wp2_with fail
    go_ret
    exact ⟨by rw [HRR.out]; rfl, Sm.refl _⟩

def samePB (p q : PmD) : Bool := decide (p.o = q.o) && (decide (p.e = q.e) && (decide (p.r = q.r) && (decide (p.q = q.q) && decide (p.g = q.g))))
theorem samePB_iff (p q : PmD) : samePB p q = true ↔ p = q := by
  obtain ⟨a, b, c, d, e⟩ := p
  obtain ⟨a', b', c', d', e'⟩ := q
  unfold samePB
  simp only [Bool.and_eq_true, decide_eq_true_eq, PmD.mk.injEq]


set_option maxRecDepth 100000 in
set_option maxHeartbeats 4000000 in
theorem psame_any (p q : PmD) (vr vq vg ur uq ug : Value) (w : World) (h1 : PmS w p vr vq vg) (h2 : PmS w q ur uq ug) :
    Calls Try.prog 12 #[.agg (pmC p.o p.e vr vq vg).toArray, .agg (pmC q.o q.e ur uq ug).toArray] w (fun e w' => e = .returned (.bool (samePB p q)) ∧ Below w.heap.size w w') := by
  have HS := Lib.hid (And.intro h1 h2)
  obtain ⟨F, hF⟩ : ∃ F, samePB p q = F := ⟨_, rfl⟩
  have HF := Lib.hid hF
  rw [hF]
  obtain ⟨ra, rc, rfl, -⟩ := h1.1.nums
  obtain ⟨qa, qc, rfl, -⟩ := h1.2.1.nums
  obtain ⟨ga, gc, rfl, -⟩ := h1.2.2.nums
  obtain ⟨xa, xc, rfl, -⟩ := h2.1.nums
  obtain ⟨ya, yc, rfl, -⟩ := h2.2.1.nums
  obtain ⟨za, zc, rfl, -⟩ := h2.2.2.nums
  obtain ⟨o, pe, r, q1, g⟩ := p
  obtain ⟨o2, pe2, r2, q2, g2⟩ := q
  obtain ⟨c0, h0⟩ : ∃ c, decide (r = r2) = c := ⟨_, rfl⟩
  obtain ⟨c1, h3⟩ : ∃ c, decide (q1 = q2) = c := ⟨_, rfl⟩
  obtain ⟨c2, h4⟩ : ∃ c, decide (g = g2) = c := ⟨_, rfl⟩
  have HB := Lib.hid (And.intro h0 (And.intro h3 h4))
  simp only at HS ⊢
  obtain ⟨rl, e1⟩ : ∃ n, r.length = n := ⟨_, rfl⟩
  obtain ⟨ql, e2⟩ : ∃ n, q1.length = n := ⟨_, rfl⟩
  obtain ⟨gl, e3⟩ : ∃ n, g.length = n := ⟨_, rfl⟩
  obtain ⟨xl, e4⟩ : ∃ n, r2.length = n := ⟨_, rfl⟩
  obtain ⟨yl, e5⟩ : ∃ n, q2.length = n := ⟨_, rfl⟩
  obtain ⟨zl, e6⟩ : ∃ n, g2.length = n := ⟨_, rfl⟩
  rw [e1, e2, e3, e4, e5, e6] at HS ⊢
  have hF2 : F = (decide (o = o2) && (decide (pe = pe2) && (c0 && (c1 && c2)))) := by rw [← hF, ← h0, ← h3, ← h4]; rfl
  clear h1 h2 hF HF h0 h3 h4 e1 e2 e3 e4 e5 e6
  by_cases ho : o = o2
  · subst ho
    by_cases he : pe = pe2
    · subst he
      rw [decide_eq_true rfl, decide_eq_true rfl, Bool.true_and, Bool.true_and] at hF2
      have HF := Lib.hid hF2
      clear hF2
      go_enter Try.func12, Try.ntmps12
      go_wp2_with (first
    | ((with_reducible refine wpList_box_blk w rfl 24 (.tmp 0) rfl (pmC o pe (.slice ra rl rc) (.slice qa ql qc) (.slice ga gl gc)) rfl ?_); intro w1 hb hbel hsz; have H1 := Lib.hid (show Blk w1 w.heap.size 24 (pmC o pe (.slice ra rl rc) (.slice qa ql qc) (.slice ga gl gc)) ∧ Below w.heap.size w w1 from ⟨hb, hbel⟩); clear hb hbel hsz)
    | ((with_reducible refine wpList_box_blk w1 rfl 24 (.tmp 1) rfl (pmC o pe (.slice xa xl xc) (.slice ya yl yc) (.slice za zl zc)) rfl ?_); intro w2 hb hbel hsz; have H2a := Lib.hid (show Blk w2 w.heap.size 24 (pmC o pe (.slice ra rl rc) (.slice qa ql qc) (.slice ga gl gc)) ∧ Below w.heap.size w w2 ∧ Blk w2 w1.heap.size 24 (pmC o pe (.slice xa xl xc) (.slice ya yl yc) (.slice za zl zc)) from ⟨H1.out.1.below hbel H1.out.1.lt, below_thn H1.out.2 hbel (Nat.le_refl _), hb⟩); clear hb hbel hsz; have H2 := Lib.hid (show Blk w2 w.heap.size 24 (pmC o pe (.slice ra rl rc) (.slice qa ql qc) (.slice ga gl gc)) ∧ Blk w2 w1.heap.size 24 (pmC o pe (.slice xa xl xc) (.slice ya yl yc) (.slice za zl zc)) ∧ Sl w2 (.slice ra rl rc) (ofK .i64 r) ∧ Sl w2 (.slice xa xl xc) (ofK .i64 r2) ∧ Sl w2 (.slice qa ql qc) (ofK .i64 q1) ∧ Sl w2 (.slice ya yl yc) (ofK .i64 q2) ∧ Sl w2 (.slice ga gl gc) (ofK .i64 g) ∧ Sl w2 (.slice za zl zc) (ofK .i64 g2) ∧ Below w.heap.size w w2 from ⟨H2a.out.1, H2a.out.2.2, HS.out.1.1.below H2a.out.2.1 (Nat.le_refl _), HS.out.2.1.below H2a.out.2.1 (Nat.le_refl _), HS.out.1.2.1.below H2a.out.2.1 (Nat.le_refl _), HS.out.2.2.1.below H2a.out.2.1 (Nat.le_refl _), HS.out.1.2.2.below H2a.out.2.1 (Nat.le_refl _), HS.out.2.2.2.below H2a.out.2.1 (Nat.le_refl _), H2a.out.2.1⟩); have a0 := H2.out.1.cell 0; have b0 := H2.out.2.1.cell 0; have a1 := H2.out.1.cell 1; have b1 := H2.out.2.1.cell 1; simp only [pmC, List.getElem?_cons_zero, List.getElem?_cons_succ] at a0 b0 a1 b1; have a2 := H2.out.1.cell 2; have b2 := H2.out.2.1.cell 2; have a3 := H2.out.1.cell 3; have b3 := H2.out.2.1.cell 3; have a4 := H2.out.1.cell 4; have b4 := H2.out.2.1.cell 4; simp only [pmC, List.getElem?_cons_zero, List.getElem?_cons_succ] at a2 b2 a3 b3 a4 b4))
      clear a0 b0 a1 b1 a2 b2 a3 b3 a4 b4
      have a0 := H2.out.1.cell 0
      have b0 := H2.out.2.1.cell 0
      have a1 := H2.out.1.cell 1
      have b1 := H2.out.2.1.cell 1
      have a2 := H2.out.1.cell 2
      have b2 := H2.out.2.1.cell 2
      have a3 := H2.out.1.cell 3
      have b3 := H2.out.2.1.cell 3
      have a4 := H2.out.1.cell 4
      have b4 := H2.out.2.1.cell 4
      simp only [pmC, List.getElem?_cons_zero, List.getElem?_cons_succ] at a0 a1 a2 a3 a4 b0 b1 b2 b3 b4
      go_wp2_with fail
      refine (equal_any _ _ _ _ w2 H2.out.2.2.1 H2.out.2.2.2.1).mono ?_
      rw [HB.out.1]
      rintro e' y1 ⟨rfl, sm⟩
      have HY2 := Lib.hid (show Blk y1 w.heap.size 24 (pmC o pe (.slice ra rl rc) (.slice qa ql qc) (.slice ga gl gc)) ∧ Blk y1 w1.heap.size 24 (pmC o pe (.slice xa xl xc) (.slice ya yl yc) (.slice za zl zc)) ∧ Sl y1 (.slice ra rl rc) (ofK .i64 r) ∧ Sl y1 (.slice xa xl xc) (ofK .i64 r2) ∧ Sl y1 (.slice qa ql qc) (ofK .i64 q1) ∧ Sl y1 (.slice ya yl yc) (ofK .i64 q2) ∧ Sl y1 (.slice ga gl gc) (ofK .i64 g) ∧ Sl y1 (.slice za zl zc) (ofK .i64 g2) ∧ Below w.heap.size w y1 from ⟨H2.out.1.below (sm.below _) H2.out.1.lt, H2.out.2.1.below (sm.below _) H2.out.2.1.lt, H2.out.2.2.1.below (sm.below _) (Nat.le_refl _), H2.out.2.2.2.1.below (sm.below _) (Nat.le_refl _), H2.out.2.2.2.2.1.below (sm.below _) (Nat.le_refl _), H2.out.2.2.2.2.2.1.below (sm.below _) (Nat.le_refl _), H2.out.2.2.2.2.2.2.1.below (sm.below _) (Nat.le_refl _), H2.out.2.2.2.2.2.2.2.1.below (sm.below _) (Nat.le_refl _), below_thn H2.out.2.2.2.2.2.2.2.2 (sm.below _) (Nat.le_refl _)⟩)
      clear sm a0 b0 a1 b1 a2 b2 a3 b3 a4 b4
      cases c0
      · skip
        have a0 := HY2.out.1.cell 0
        have b0 := HY2.out.2.1.cell 0
        have a1 := HY2.out.1.cell 1
        have b1 := HY2.out.2.1.cell 1
        have a2 := HY2.out.1.cell 2
        have b2 := HY2.out.2.1.cell 2
        have a3 := HY2.out.1.cell 3
        have b3 := HY2.out.2.1.cell 3
        have a4 := HY2.out.1.cell 4
        have b4 := HY2.out.2.1.cell 4
        simp only [pmC, List.getElem?_cons_zero, List.getElem?_cons_succ] at a0 a1 a2 a3 a4 b0 b1 b2 b3 b4
        go_wp2_with fail
        go_ret
        exact ⟨by rw [HF.out]; simp, HY2.out.2.2.2.2.2.2.2.2⟩
      · skip
        have a0 := HY2.out.1.cell 0
        have b0 := HY2.out.2.1.cell 0
        have a1 := HY2.out.1.cell 1
        have b1 := HY2.out.2.1.cell 1
        have a2 := HY2.out.1.cell 2
        have b2 := HY2.out.2.1.cell 2
        have a3 := HY2.out.1.cell 3
        have b3 := HY2.out.2.1.cell 3
        have a4 := HY2.out.1.cell 4
        have b4 := HY2.out.2.1.cell 4
        simp only [pmC, List.getElem?_cons_zero, List.getElem?_cons_succ] at a0 a1 a2 a3 a4 b0 b1 b2 b3 b4
        go_wp2_with fail
        refine (equal_any _ _ _ _ y1 HY2.out.2.2.2.2.1 HY2.out.2.2.2.2.2.1).mono ?_
        rw [HB.out.2.1]
        rintro e' y3 ⟨rfl, sm⟩
        have HY4 := Lib.hid (show Blk y3 w.heap.size 24 (pmC o pe (.slice ra rl rc) (.slice qa ql qc) (.slice ga gl gc)) ∧ Blk y3 w1.heap.size 24 (pmC o pe (.slice xa xl xc) (.slice ya yl yc) (.slice za zl zc)) ∧ Sl y3 (.slice ra rl rc) (ofK .i64 r) ∧ Sl y3 (.slice xa xl xc) (ofK .i64 r2) ∧ Sl y3 (.slice qa ql qc) (ofK .i64 q1) ∧ Sl y3 (.slice ya yl yc) (ofK .i64 q2) ∧ Sl y3 (.slice ga gl gc) (ofK .i64 g) ∧ Sl y3 (.slice za zl zc) (ofK .i64 g2) ∧ Below w.heap.size w y3 from ⟨HY2.out.1.below (sm.below _) HY2.out.1.lt, HY2.out.2.1.below (sm.below _) HY2.out.2.1.lt, HY2.out.2.2.1.below (sm.below _) (Nat.le_refl _), HY2.out.2.2.2.1.below (sm.below _) (Nat.le_refl _), HY2.out.2.2.2.2.1.below (sm.below _) (Nat.le_refl _), HY2.out.2.2.2.2.2.1.below (sm.below _) (Nat.le_refl _), HY2.out.2.2.2.2.2.2.1.below (sm.below _) (Nat.le_refl _), HY2.out.2.2.2.2.2.2.2.1.below (sm.below _) (Nat.le_refl _), below_thn HY2.out.2.2.2.2.2.2.2.2 (sm.below _) (Nat.le_refl _)⟩)
        clear sm a0 b0 a1 b1 a2 b2 a3 b3 a4 b4
        cases c1
        · skip
          have a0 := HY4.out.1.cell 0
          have b0 := HY4.out.2.1.cell 0
          have a1 := HY4.out.1.cell 1
          have b1 := HY4.out.2.1.cell 1
          have a2 := HY4.out.1.cell 2
          have b2 := HY4.out.2.1.cell 2
          have a3 := HY4.out.1.cell 3
          have b3 := HY4.out.2.1.cell 3
          have a4 := HY4.out.1.cell 4
          have b4 := HY4.out.2.1.cell 4
          simp only [pmC, List.getElem?_cons_zero, List.getElem?_cons_succ] at a0 a1 a2 a3 a4 b0 b1 b2 b3 b4
          go_wp2_with fail
          go_ret
          exact ⟨by rw [HF.out]; simp, HY4.out.2.2.2.2.2.2.2.2⟩
        · skip
          have a0 := HY4.out.1.cell 0
          have b0 := HY4.out.2.1.cell 0
          have a1 := HY4.out.1.cell 1
          have b1 := HY4.out.2.1.cell 1
          have a2 := HY4.out.1.cell 2
          have b2 := HY4.out.2.1.cell 2
          have a3 := HY4.out.1.cell 3
          have b3 := HY4.out.2.1.cell 3
          have a4 := HY4.out.1.cell 4
          have b4 := HY4.out.2.1.cell 4
          simp only [pmC, List.getElem?_cons_zero, List.getElem?_cons_succ] at a0 a1 a2 a3 a4 b0 b1 b2 b3 b4
          go_wp2_with fail
          refine (equal_any _ _ _ _ y3 HY4.out.2.2.2.2.2.2.1 HY4.out.2.2.2.2.2.2.2.1).mono ?_
          rw [HB.out.2.2]
          rintro e' y5 ⟨rfl, sm⟩
          have HY6 := Lib.hid (show Blk y5 w.heap.size 24 (pmC o pe (.slice ra rl rc) (.slice qa ql qc) (.slice ga gl gc)) ∧ Blk y5 w1.heap.size 24 (pmC o pe (.slice xa xl xc) (.slice ya yl yc) (.slice za zl zc)) ∧ Sl y5 (.slice ra rl rc) (ofK .i64 r) ∧ Sl y5 (.slice xa xl xc) (ofK .i64 r2) ∧ Sl y5 (.slice qa ql qc) (ofK .i64 q1) ∧ Sl y5 (.slice ya yl yc) (ofK .i64 q2) ∧ Sl y5 (.slice ga gl gc) (ofK .i64 g) ∧ Sl y5 (.slice za zl zc) (ofK .i64 g2) ∧ Below w.heap.size w y5 from ⟨HY4.out.1.below (sm.below _) HY4.out.1.lt, HY4.out.2.1.below (sm.below _) HY4.out.2.1.lt, HY4.out.2.2.1.below (sm.below _) (Nat.le_refl _), HY4.out.2.2.2.1.below (sm.below _) (Nat.le_refl _), HY4.out.2.2.2.2.1.below (sm.below _) (Nat.le_refl _), HY4.out.2.2.2.2.2.1.below (sm.below _) (Nat.le_refl _), HY4.out.2.2.2.2.2.2.1.below (sm.below _) (Nat.le_refl _), HY4.out.2.2.2.2.2.2.2.1.below (sm.below _) (Nat.le_refl _), below_thn HY4.out.2.2.2.2.2.2.2.2 (sm.below _) (Nat.le_refl _)⟩)
          clear sm a0 b0 a1 b1 a2 b2 a3 b3 a4 b4
          cases c2
          · skip
            have a0 := HY6.out.1.cell 0
            have b0 := HY6.out.2.1.cell 0
            have a1 := HY6.out.1.cell 1
            have b1 := HY6.out.2.1.cell 1
            have a2 := HY6.out.1.cell 2
            have b2 := HY6.out.2.1.cell 2
            have a3 := HY6.out.1.cell 3
            have b3 := HY6.out.2.1.cell 3
            have a4 := HY6.out.1.cell 4
            have b4 := HY6.out.2.1.cell 4
            simp only [pmC, List.getElem?_cons_zero, List.getElem?_cons_succ] at a0 a1 a2 a3 a4 b0 b1 b2 b3 b4
            go_wp2_with fail
            go_ret
            exact ⟨by rw [HF.out]; simp, HY6.out.2.2.2.2.2.2.2.2⟩
          · skip
            have a0 := HY6.out.1.cell 0
            have b0 := HY6.out.2.1.cell 0
            have a1 := HY6.out.1.cell 1
            have b1 := HY6.out.2.1.cell 1
            have a2 := HY6.out.1.cell 2
            have b2 := HY6.out.2.1.cell 2
            have a3 := HY6.out.1.cell 3
            have b3 := HY6.out.2.1.cell 3
            have a4 := HY6.out.1.cell 4
            have b4 := HY6.out.2.1.cell 4
            simp only [pmC, List.getElem?_cons_zero, List.getElem?_cons_succ] at a0 a1 a2 a3 a4 b0 b1 b2 b3 b4
            go_wp2_with fail
            go_ret
            exact ⟨by rw [HF.out]; simp, HY6.out.2.2.2.2.2.2.2.2⟩
    · have he2 : (pe == pe2) = false := by simpa using he
      rw [decide_eq_false he, Bool.false_and, Bool.and_false] at hF2
      have HF := Lib.hid hF2
      clear hF2 he
      go_enter Try.func12, Try.ntmps12
      go_wp2_with (first
    | ((with_reducible refine wpList_box_blk w rfl 24 (.tmp 0) rfl (pmC o pe (.slice ra rl rc) (.slice qa ql qc) (.slice ga gl gc)) rfl ?_); intro w1 hb hbel hsz; have H1 := Lib.hid (show Blk w1 w.heap.size 24 (pmC o pe (.slice ra rl rc) (.slice qa ql qc) (.slice ga gl gc)) ∧ Below w.heap.size w w1 from ⟨hb, hbel⟩); clear hb hbel hsz)
    | ((with_reducible refine wpList_box_blk w1 rfl 24 (.tmp 1) rfl (pmC o pe2 (.slice xa xl xc) (.slice ya yl yc) (.slice za zl zc)) rfl ?_); intro w2 hb hbel hsz; have H2a := Lib.hid (show Blk w2 w.heap.size 24 (pmC o pe (.slice ra rl rc) (.slice qa ql qc) (.slice ga gl gc)) ∧ Below w.heap.size w w2 ∧ Blk w2 w1.heap.size 24 (pmC o pe2 (.slice xa xl xc) (.slice ya yl yc) (.slice za zl zc)) from ⟨H1.out.1.below hbel H1.out.1.lt, below_thn H1.out.2 hbel (Nat.le_refl _), hb⟩); clear hb hbel hsz; have H2 := Lib.hid (show Blk w2 w.heap.size 24 (pmC o pe (.slice ra rl rc) (.slice qa ql qc) (.slice ga gl gc)) ∧ Blk w2 w1.heap.size 24 (pmC o pe2 (.slice xa xl xc) (.slice ya yl yc) (.slice za zl zc)) ∧ Sl w2 (.slice ra rl rc) (ofK .i64 r) ∧ Sl w2 (.slice xa xl xc) (ofK .i64 r2) ∧ Sl w2 (.slice qa ql qc) (ofK .i64 q1) ∧ Sl w2 (.slice ya yl yc) (ofK .i64 q2) ∧ Sl w2 (.slice ga gl gc) (ofK .i64 g) ∧ Sl w2 (.slice za zl zc) (ofK .i64 g2) ∧ Below w.heap.size w w2 from ⟨H2a.out.1, H2a.out.2.2, HS.out.1.1.below H2a.out.2.1 (Nat.le_refl _), HS.out.2.1.below H2a.out.2.1 (Nat.le_refl _), HS.out.1.2.1.below H2a.out.2.1 (Nat.le_refl _), HS.out.2.2.1.below H2a.out.2.1 (Nat.le_refl _), HS.out.1.2.2.below H2a.out.2.1 (Nat.le_refl _), HS.out.2.2.2.below H2a.out.2.1 (Nat.le_refl _), H2a.out.2.1⟩); have a0 := H2.out.1.cell 0; have b0 := H2.out.2.1.cell 0; have a1 := H2.out.1.cell 1; have b1 := H2.out.2.1.cell 1; simp only [pmC, List.getElem?_cons_zero, List.getElem?_cons_succ] at a0 b0 a1 b1; have a2 := H2.out.1.cell 2; have b2 := H2.out.2.1.cell 2; have a3 := H2.out.1.cell 3; have b3 := H2.out.2.1.cell 3; have a4 := H2.out.1.cell 4; have b4 := H2.out.2.1.cell 4; simp only [pmC, List.getElem?_cons_zero, List.getElem?_cons_succ] at a2 b2 a3 b3 a4 b4))
      go_ret
      exact ⟨by rw [HF.out]; rfl, H2.out.2.2.2.2.2.2.2.2⟩
  · have ho2 : (o == o2) = false := by simpa using ho
    rw [decide_eq_false ho, Bool.false_and] at hF2
    have HF := Lib.hid hF2
    clear hF2 ho
    go_enter Try.func12, Try.ntmps12
    go_wp2_with (first
    | ((with_reducible refine wpList_box_blk w rfl 24 (.tmp 0) rfl (pmC o pe (.slice ra rl rc) (.slice qa ql qc) (.slice ga gl gc)) rfl ?_); intro w1 hb hbel hsz; have H1 := Lib.hid (show Blk w1 w.heap.size 24 (pmC o pe (.slice ra rl rc) (.slice qa ql qc) (.slice ga gl gc)) ∧ Below w.heap.size w w1 from ⟨hb, hbel⟩); clear hb hbel hsz)
    | ((with_reducible refine wpList_box_blk w1 rfl 24 (.tmp 1) rfl (pmC o2 pe2 (.slice xa xl xc) (.slice ya yl yc) (.slice za zl zc)) rfl ?_); intro w2 hb hbel hsz; have H2a := Lib.hid (show Blk w2 w.heap.size 24 (pmC o pe (.slice ra rl rc) (.slice qa ql qc) (.slice ga gl gc)) ∧ Below w.heap.size w w2 ∧ Blk w2 w1.heap.size 24 (pmC o2 pe2 (.slice xa xl xc) (.slice ya yl yc) (.slice za zl zc)) from ⟨H1.out.1.below hbel H1.out.1.lt, below_thn H1.out.2 hbel (Nat.le_refl _), hb⟩); clear hb hbel hsz; have H2 := Lib.hid (show Blk w2 w.heap.size 24 (pmC o pe (.slice ra rl rc) (.slice qa ql qc) (.slice ga gl gc)) ∧ Blk w2 w1.heap.size 24 (pmC o2 pe2 (.slice xa xl xc) (.slice ya yl yc) (.slice za zl zc)) ∧ Sl w2 (.slice ra rl rc) (ofK .i64 r) ∧ Sl w2 (.slice xa xl xc) (ofK .i64 r2) ∧ Sl w2 (.slice qa ql qc) (ofK .i64 q1) ∧ Sl w2 (.slice ya yl yc) (ofK .i64 q2) ∧ Sl w2 (.slice ga gl gc) (ofK .i64 g) ∧ Sl w2 (.slice za zl zc) (ofK .i64 g2) ∧ Below w.heap.size w w2 from ⟨H2a.out.1, H2a.out.2.2, HS.out.1.1.below H2a.out.2.1 (Nat.le_refl _), HS.out.2.1.below H2a.out.2.1 (Nat.le_refl _), HS.out.1.2.1.below H2a.out.2.1 (Nat.le_refl _), HS.out.2.2.1.below H2a.out.2.1 (Nat.le_refl _), HS.out.1.2.2.below H2a.out.2.1 (Nat.le_refl _), HS.out.2.2.2.below H2a.out.2.1 (Nat.le_refl _), H2a.out.2.1⟩); have a0 := H2.out.1.cell 0; have b0 := H2.out.2.1.cell 0; have a1 := H2.out.1.cell 1; have b1 := H2.out.2.1.cell 1; simp only [pmC, List.getElem?_cons_zero, List.getElem?_cons_succ] at a0 b0 a1 b1; have a2 := H2.out.1.cell 2; have b2 := H2.out.2.1.cell 2; have a3 := H2.out.1.cell 3; have b3 := H2.out.2.1.cell 3; have a4 := H2.out.1.cell 4; have b4 := H2.out.2.1.cell 4; simp only [pmC, List.getElem?_cons_zero, List.getElem?_cons_succ] at a2 b2 a3 b3 a4 b4))
    go_ret
    exact ⟨by rw [HF.out]; rfl, H2.out.2.2.2.2.2.2.2.2⟩

end Go.Proofs.Ytampheimonmggaa
