/-
  perm.New, MayWrite, the law's large, walked. Conditions: lengths within the form's reach.
-/
import Derived.Test.YtampheimonmggaaPmM
namespace Go.Proofs.Ytampheimonmggaa
open Go Go.RowKit Go.Sort
set_option linter.unusedSimpArgs false
set_option linter.unusedVariables false

def newR (n : Int) : PmD × Int := if userB n = true then (⟨n, 1, [], [], []⟩, 0) else (noP, 2)
theorem Try.buildPm2 (o : Int) : ∀ w, (Instr.build 24 #[(0, .int .i64 o), (1, .int .i64 1)]).run Try.prog w = .ok (.agg (pmC o 1 (.slice none 0 0) (.slice none 0 0) (.slice none 0 0)).toArray) w := fun w => by kernel_rfl
theorem wpList_build_new {ops : Array Oper} {rest : List Oper} {op : Oper} {a : Act} {w : World} {Q : Exit → Act → World → Prop} (hgd : op.guard = none) (x0 : Operand) (ho : op.op = .build 24 #[(0, x0), (1, .const (.int .i64 1))]) (o : Int) (h0 : a.eval x0 = .int .i64 o)
    (h : wpList Try.prog ops Q rest (a.put op.dst (.agg (pmC o 1 (.slice none 0 0) (.slice none 0 0) (.slice none 0 0)).toArray)) w) : wpList Try.prog ops Q (op :: rest) a w := by
  refine wpList_plain hgd fun K hK => ?_
  have hrun : (execOp a.eval op).run Try.prog w = .ok (.value (.agg (pmC o 1 (.slice none 0 0) (.slice none 0 0) (.slice none 0 0)).toArray)) w := by
    unfold execOp
    simp only [ho]
    rw [show (#[((0 : Nat), x0), (1, .const (.int .i64 1))].map fun (i, x) => (i, a.eval x)) = #[(0, .int .i64 o), (1, .int .i64 1)] by simp only [List.map_toArray, List.map_cons, List.map_nil, h0]; rfl]
    simp [Try.buildPm2, Result.andThen]
  unfold Oper.wp
  rw [hrun]
  exact hK _ _ h

set_option maxRecDepth 100000 in
set_option maxHeartbeats 2000000 in
theorem new_any (n : Int) (w : World) : Calls Try.prog 18 #[.int .i64 n] w (PermP w (newR n)) := by
  have HU := Lib.hid (user_any n)
  obtain ⟨R, hR⟩ : ∃ R, newR n = R := ⟨_, rfl⟩
  obtain ⟨u, hu⟩ : ∃ u, userB n = u := ⟨_, rfl⟩
  have HR := Lib.hid (show R = if u = true then (⟨n, 1, [], [], []⟩, 0) else (noP, 2) by rw [← hR, ← hu]; rfl)
  rw [hR]
  rw [hu] at HU
  clear hR hu
  cases u
  · have HE := Lib.hid (show R = (noP, 2) from HR.out)
    go_enter Try.func18, Try.ntmps18
    go_wp2_with ((with_reducible refine wpList_alloc_blk w rfl 24 rfl (pmC 0 0 (.slice none 0 0) (.slice none 0 0) (.slice none 0 0)) Try.zeroPm ?_); intro w1 hb hbel hsz; have H1 := Lib.hid (And.intro hb hbel); clear hb hbel hsz)
    refine (HU.out w1).mono ?_
    rintro e w' ⟨rfl, rfl⟩
    go_wp2_with (first
    | ((with_reducible refine wpList_build_zeroPm rfl rfl ?_))
    | ((with_reducible refine wpList_store_blk w1 rfl 24 (.tmp 2) (.tmp 7) rfl w.heap.size 24 (pmC 0 0 (.slice none 0 0) (.slice none 0 0) (.slice none 0 0)) (pmC 0 0 (.slice none 0 0) (.slice none 0 0) (.slice none 0 0)) H1.out.1 rfl rfl rfl (pmC_info _ _ _ _ _) (pmC_one _ _ _ _ _ _ _ _ _ _ _) ?_); intro w2 hb hc hs; have H2 := Lib.hid (And.intro hb hc); clear hb hc hs))
    rw [HE.out]
    refine bodyPost_ret (results_cellTmp Try.results18 _ _ w.heap.size _ _ rfl H2.out.1 _ Try.underlying24 rfl (pmC_info _ _ _ _ _) _ rfl) rfl ?_
    exact ⟨_, _, _, rfl, ⟨Sl.nil _, Sl.nil _, Sl.nil _⟩, below_ch H1.out.2 H2.out.2 (Nat.le_refl _) (fun k hk => by have e : k = w.heap.size := hk; omega), AbvS.nil _⟩
  · have HE := Lib.hid (show R = (⟨n, 1, [], [], []⟩, 0) from HR.out)
    go_enter Try.func18, Try.ntmps18
    go_wp2_with ((with_reducible refine wpList_alloc_blk w rfl 24 rfl (pmC 0 0 (.slice none 0 0) (.slice none 0 0) (.slice none 0 0)) Try.zeroPm ?_); intro w1 hb hbel hsz; have H1 := Lib.hid (And.intro hb hbel); clear hb hbel hsz)
    refine (HU.out w1).mono ?_
    rintro e w' ⟨rfl, rfl⟩
    go_wp2_with (first
    | ((with_reducible refine wpList_build_new rfl (.tmp 8) rfl n rfl ?_))
    | ((with_reducible refine wpList_store_blk w1 rfl 24 (.tmp 2) (.tmp 9) rfl w.heap.size 24 (pmC 0 0 (.slice none 0 0) (.slice none 0 0) (.slice none 0 0)) (pmC n 1 (.slice none 0 0) (.slice none 0 0) (.slice none 0 0)) H1.out.1 rfl rfl rfl (pmC_info _ _ _ _ _) (pmC_one _ _ _ _ _ _ _ _ _ _ _) ?_); intro w2 hb hc hs; have H2 := Lib.hid (And.intro hb hc); clear hb hc hs))
    rw [HE.out]
    refine bodyPost_ret (results_cellTmp Try.results18 _ _ w.heap.size _ _ rfl H2.out.1 _ Try.underlying24 rfl (pmC_info _ _ _ _ _) _ rfl) rfl ?_
    exact ⟨_, _, _, rfl, ⟨Sl.nil _, Sl.nil _, Sl.nil _⟩, below_ch H1.out.2 H2.out.2 (Nat.le_refl _) (fun k hk => by have e : k = w.heap.size := hk; omega), AbvS.nil _⟩

def mayWB (p : PmD) (n : Int) : Bool := okB p && (n == p.o || p.q.any (n == ·))


set_option maxRecDepth 100000 in
set_option maxHeartbeats 2000000 in
theorem mayWrite_any (p : PmD) (n : Int) (vr vq vg : Value) (w : World) (hp : PmS w p vr vq vg) :
    Calls Try.prog 20 #[.agg (pmC p.o p.e vr vq vg).toArray, .int .i64 n] w (fun e w' => e = .returned (.bool (mayWB p n)) ∧ Below w.heap.size w w') := by
  have HP := Lib.hid hp
  obtain ⟨R, hR⟩ : ∃ R, mayWB p n = R := ⟨_, rfl⟩
  rw [hR]
  obtain ⟨b, hb⟩ : ∃ b, okB p = b := ⟨_, rfl⟩
  have HB := Lib.hid hb
  have hR2 : R = (b && (n == p.o || p.q.any (n == ·))) := by rw [← hR, ← hb]; rfl
  obtain ⟨ra, rc, rfl, -⟩ := hp.1.nums
  obtain ⟨qa, qc, rfl, -⟩ := hp.2.1.nums
  obtain ⟨ga, gc, rfl, -⟩ := hp.2.2.nums
  obtain ⟨o, pe, pr, pq, pg⟩ := p
  simp only at HP hb hR2 ⊢
  obtain ⟨rl, e1⟩ : ∃ n, pr.length = n := ⟨_, rfl⟩
  obtain ⟨ql, e2⟩ : ∃ n, pq.length = n := ⟨_, rfl⟩
  obtain ⟨gl, e3⟩ : ∃ n, pg.length = n := ⟨_, rfl⟩
  have HLN := Lib.hid (show pr.length = rl ∧ pq.length = ql ∧ pg.length = gl from ⟨e1, e2, e3⟩)
  rw [e1, e2, e3] at HP ⊢
  obtain ⟨m, hm⟩ : ∃ m, pq.any (n == ·) = m := ⟨_, rfl⟩
  have HM := Lib.hid hm
  rw [hm] at hR2
  have HR := Lib.hid hR2
  have HBB := Lib.hid hb
  clear hp hR hR2 hb hm e1 e2 e3
  go_enter Try.func20, Try.ntmps20
  go_wp2_with (first
    | ((with_reducible refine wpList_box_blk w rfl 24 (.tmp 0) rfl (pmC o pe (.slice ra rl rc) (.slice qa ql qc) (.slice ga gl gc)) rfl ?_); intro w1 hb hbel hsz; have H1 := Lib.hid (show Blk w1 w.heap.size 24 (pmC o pe (.slice ra rl rc) (.slice qa ql qc) (.slice ga gl gc)) ∧ PmS w1 ⟨o, pe, pr, pq, pg⟩ (.slice ra rl rc) (.slice qa ql qc) (.slice ga gl gc) ∧ Below w.heap.size w w1 from ⟨hb, HP.out.below hbel, hbel⟩); clear hb hbel hsz)
    | (with_reducible refine wpList_load_any rfl 24 (.tmp 2) rfl w.heap.size 0 rfl (pmC o pe (.slice ra rl rc) (.slice qa ql qc) (.slice ga gl gc)) _ (rangeW_blk H1.out.1) Try.underlying24 rfl (pmC_info _ _ _ _ _) ?_))
  have hck := check_of ⟨o, pe, pr, pq, pg⟩ b HBB.out _ _ _ w1 H1.out.2.1
  refine hck.mono ?_
  clear hck
  rintro e w2 ⟨rfl, hb2⟩
  have H2 := Lib.hid (show Blk w2 w.heap.size 24 (pmC o pe (.slice ra rl rc) (.slice qa ql qc) (.slice ga gl gc)) ∧ PmS w2 ⟨o, pe, pr, pq, pg⟩ (.slice ra rl rc) (.slice qa ql qc) (.slice ga gl gc) ∧ Below w.heap.size w w2 from ⟨H1.out.1.below hb2 H1.out.1.lt, H1.out.2.1.below hb2, below_thn H1.out.2.2 hb2 (Nat.le_refl _)⟩)
  clear hb2
  cases b
  · have HE := Lib.hid (show R = false from HR.out)
    go_wp2_with fail
    go_ret
    exact ⟨by rw [HE.out]; rfl, H2.out.2.2⟩
  · have HE := Lib.hid (show R = (n == o || m) from HR.out)
    have c0 := H2.out.1.cell 0
    have c3 := H2.out.1.cell 3
    simp only [pmC, List.getElem?_cons_zero, List.getElem?_cons_succ] at c0 c3
    obtain ⟨z, hz⟩ : ∃ z, (n == o) = z := ⟨_, rfl⟩
    rw [hz] at HE
    have hcc := contains_any n _ pq w2 H2.out.2.1.2.1
    rw [HM.out] at hcc
    have HCC := Lib.hid hcc
    clear hcc
    cases z
    · go_wp2_with fail
      refine HCC.out.mono ?_
      rintro e w' ⟨rfl, rfl⟩
      go_wp2_with fail
      go_ret
      exact ⟨by rw [HE.out]; rfl, H2.out.2.2⟩
    · go_wp2_with fail
      go_ret
      exact ⟨by rw [HE.out]; rfl, H2.out.2.2⟩

def largeB (p : PmD) : Bool := decide (100 < p.r.length) || (decide (100 < p.q.length) || decide (100 < p.g.length))


set_option maxRecDepth 100000 in
set_option maxHeartbeats 2000000 in
theorem large_any (p : PmD) (vr vq vg : Value) (w : World) (hp : PmS w p vr vq vg) :
    Calls Try.prog 8 #[.agg (pmC p.o p.e vr vq vg).toArray] w (fun e w' => e = .returned (.bool (largeB p)) ∧ Below w.heap.size w w') := by
  obtain ⟨R, hR⟩ : ∃ R, largeB p = R := ⟨_, rfl⟩
  rw [hR]
  have hR2 : R = (decide (100 < p.r.length) || (decide (100 < p.q.length) || decide (100 < p.g.length))) := by rw [← hR]; rfl
  obtain ⟨ra, rc, rfl, -⟩ := hp.1.nums
  obtain ⟨qa, qc, rfl, -⟩ := hp.2.1.nums
  obtain ⟨ga, gc, rfl, -⟩ := hp.2.2.nums
  obtain ⟨o, pe, pr, pq, pg⟩ := p
  simp only at hR2 ⊢
  generalize pr.length = rl at hR2 ⊢
  generalize pq.length = ql at hR2 ⊢
  generalize pg.length = gl at hR2 ⊢
  clear hp hR

  by_cases h1 : 100 < rl
  · have h1z : (100 : Int) < (rl : Int) := by omega
    have HE := Lib.hid (show R = true from by rw [hR2]; simp [*])
    clear hR2
    go_enter Try.func8, Try.ntmps8
    go_wp2_with ((with_reducible refine wpList_box_blk w rfl 24 (.tmp 0) rfl (pmC o pe (.slice ra rl rc) (.slice qa ql qc) (.slice ga gl gc)) rfl ?_); intro w1 hb hbel hsz; have c2 := hb.cell 2; have c3 := hb.cell 3; have c4 := hb.cell 4; simp only [pmC, List.getElem?_cons_zero, List.getElem?_cons_succ] at c2 c3 c4; have H1 := Lib.hid hbel; clear hb hbel hsz)
    go_ret
    exact ⟨by rw [HE.out]; rfl, H1.out⟩
  · have h1z : ¬ (100 : Int) < (rl : Int) := by omega
    by_cases h2 : 100 < ql
    · have h2z : (100 : Int) < (ql : Int) := by omega
      have HE := Lib.hid (show R = true from by rw [hR2]; simp [*])
      clear hR2
      go_enter Try.func8, Try.ntmps8
      go_wp2_with ((with_reducible refine wpList_box_blk w rfl 24 (.tmp 0) rfl (pmC o pe (.slice ra rl rc) (.slice qa ql qc) (.slice ga gl gc)) rfl ?_); intro w1 hb hbel hsz; have c2 := hb.cell 2; have c3 := hb.cell 3; have c4 := hb.cell 4; simp only [pmC, List.getElem?_cons_zero, List.getElem?_cons_succ] at c2 c3 c4; have H1 := Lib.hid hbel; clear hb hbel hsz)
      go_ret
      exact ⟨by rw [HE.out]; rfl, H1.out⟩
    · have h2z : ¬ (100 : Int) < (ql : Int) := by omega
      by_cases h3 : 100 < gl
      · have h3z : (100 : Int) < (gl : Int) := by omega
        have HE := Lib.hid (show R = true from by rw [hR2]; simp [*])
        clear hR2
        go_enter Try.func8, Try.ntmps8
        go_wp2_with ((with_reducible refine wpList_box_blk w rfl 24 (.tmp 0) rfl (pmC o pe (.slice ra rl rc) (.slice qa ql qc) (.slice ga gl gc)) rfl ?_); intro w1 hb hbel hsz; have c2 := hb.cell 2; have c3 := hb.cell 3; have c4 := hb.cell 4; simp only [pmC, List.getElem?_cons_zero, List.getElem?_cons_succ] at c2 c3 c4; have H1 := Lib.hid hbel; clear hb hbel hsz)
        go_ret
        exact ⟨by rw [HE.out]; rfl, H1.out⟩
      · have h3z : ¬ (100 : Int) < (gl : Int) := by omega
        have HE := Lib.hid (show R = false from by rw [hR2]; simp [*])
        clear hR2
        go_enter Try.func8, Try.ntmps8
        go_wp2_with ((with_reducible refine wpList_box_blk w rfl 24 (.tmp 0) rfl (pmC o pe (.slice ra rl rc) (.slice qa ql qc) (.slice ga gl gc)) rfl ?_); intro w1 hb hbel hsz; have c2 := hb.cell 2; have c3 := hb.cell 3; have c4 := hb.cell 4; simp only [pmC, List.getElem?_cons_zero, List.getElem?_cons_succ] at c2 c3 c4; have H1 := Lib.hid hbel; clear hb hbel hsz)
        go_ret
        exact ⟨by rw [HE.out]; rfl, H1.out⟩

end Go.Proofs.Ytampheimonmggaa
