/-
  perm.turn, walked. Conditions: at most a million in each list.
-/
import Derived.Test.YtampheimonmggaaPmH
namespace Go.Proofs.Ytampheimonmggaa
open Go Go.RowKit Go.Sort
set_option linter.unusedSimpArgs false

theorem Try.buildPm : ∀ w, (Instr.build 24 #[]).run Try.prog w = .ok (.agg (pmC 0 0 (.slice none 0 0) (.slice none 0 0) (.slice none 0 0)).toArray) w := fun w => by kernel_rfl
theorem wpList_build_zeroPm {ops : Array Oper} {rest : List Oper} {o : Oper} {a : Act} {w : World} {Q : Exit → Act → World → Prop} (hgd : o.guard = none) (ho : o.op = .build 24 #[])
    (h : wpList Try.prog ops Q rest (a.put o.dst (.agg (pmC 0 0 (.slice none 0 0) (.slice none 0 0) (.slice none 0 0)).toArray)) w) : wpList Try.prog ops Q (o :: rest) a w := by
  refine wpList_plain hgd fun K hK => ?_
  have hrun : (execOp a.eval o).run Try.prog w = .ok (.value (.agg (pmC 0 0 (.slice none 0 0) (.slice none 0 0) (.slice none 0 0)).toArray)) w := by
    unfold execOp
    simp [ho, Try.buildPm, Result.andThen]
  unfold Oper.wp
  rw [hrun]
  exact hK _ _ h

theorem Try.buildPm5 (o e : Int) (ra qa ga : Option Addr) (rn rc qn qc gn gc : Nat) : ∀ w, (Instr.build 24 #[(0, .int .i64 o), (1, .int .i64 e), (2, .slice ra rn rc), (3, .slice qa qn qc), (4, .slice ga gn gc)]).run Try.prog w = .ok (.agg (pmC o e (.slice ra rn rc) (.slice qa qn qc) (.slice ga gn gc)).toArray) w := fun w => by kernel_rfl
theorem wpList_build_pm {ops : Array Oper} {rest : List Oper} {op : Oper} {a : Act} {w : World} {Q : Exit → Act → World → Prop} (hgd : op.guard = none) (x0 x1 x2 x3 x4 : Operand) (ho : op.op = .build 24 #[(0, x0), (1, x1), (2, x2), (3, x3), (4, x4)])
    (o e : Int) (ra qa ga : Option Addr) (rn rc qn qc gn gc : Nat) (h0 : a.eval x0 = .int .i64 o) (h1 : a.eval x1 = .int .i64 e) (h2 : a.eval x2 = .slice ra rn rc) (h3 : a.eval x3 = .slice qa qn qc) (h4 : a.eval x4 = .slice ga gn gc)
    (h : wpList Try.prog ops Q rest (a.put op.dst (.agg (pmC o e (.slice ra rn rc) (.slice qa qn qc) (.slice ga gn gc)).toArray)) w) : wpList Try.prog ops Q (op :: rest) a w := by
  refine wpList_plain hgd fun K hK => ?_
  have hrun : (execOp a.eval op).run Try.prog w = .ok (.value (.agg (pmC o e (.slice ra rn rc) (.slice qa qn qc) (.slice ga gn gc)).toArray)) w := by
    unfold execOp
    simp only [ho]
    rw [show (#[((0 : Nat), x0), (1, x1), (2, x2), (3, x3), (4, x4)].map fun (i, x) => (i, a.eval x)) = #[(0, .int .i64 o), (1, .int .i64 e), (2, .slice ra rn rc), (3, .slice qa qn qc), (4, .slice ga gn gc)] by simp [h0, h1, h2, h3, h4]]
    simp [Try.buildPm5, Result.andThen]
  unfold Oper.wp
  rw [hrun]
  exact hK _ _ h

def noP : PmD := ⟨0, 0, [], [], []⟩
theorem AbvS.nil (B : Nat) : AbvS B (.slice none 0 0) (.slice none 0 0) (.slice none 0 0) := ⟨fun _ h => (by cases h), fun _ h => (by cases h), fun _ h => (by cases h)⟩
theorem AbvS.mono {A B : Nat} {vr vq vg : Value} (h : AbvS B vr vq vg) (hA : A ≤ B) : AbvS A vr vq vg := ⟨fun k hk => Nat.le_trans hA (h.1 k hk), fun k hk => Nat.le_trans hA (h.2.1 k hk), fun k hk => Nat.le_trans hA (h.2.2 k hk)⟩
theorem PmS.nil (w : World) : PmS w noP (.slice none 0 0) (.slice none 0 0) (.slice none 0 0) := ⟨Sl.nil w, Sl.nil w, Sl.nil w⟩
/-- what comes of a change -/
def turnR (p : PmD) (r : Int × PmD) : PmD × Int := if okB p = true then (if r.1 = 0 then (r.2, 0) else (noP, r.1)) else (noP, 210)
/-- permissions and an error, answered -/
def PermP (w : World) (r : PmD × Int) (e : Ending) (w' : World) : Prop := ∃ vr vq vg, e = .returned (.tuple #[.agg (pmC r.1.o r.1.e vr vq vg).toArray, .int .i64 r.2]) ∧ PmS w' r.1 vr vq vg ∧ Below w.heap.size w w' ∧ AbvS w.heap.size vr vq vg
def PmL (p : PmD) : Prop := p.r.length ≤ 1000000 ∧ p.q.length ≤ 1000000 ∧ p.g.length ≤ 1000000

set_option maxRecDepth 100000 in
set_option maxHeartbeats 4000000 in
theorem turn_any (p : PmD) (r : Int × PmD) (gf : Nat) (lb : List Value) (vr vq vg : Value) (w : World) (hp : PmS w p vr vq vg) (hl : PmL p)
    (hcf : ∀ args w1, Sem.run Try.prog (callFunc gf args) w1 = .ok (.enter gf args) w1)
    (hst : okB p = true → ∀ (w1 : World) (g B : Nat) (vr vq vg : Value), Below w.heap.size w w1 → w.heap.size ≤ g → B ≤ w1.heap.size → AbvS B vr vq vg → Blk w1 g 24 (pmC p.o p.e vr vq vg) → PmS w1 p vr vq vg → Off g vr vq vg → Calls Try.prog gf (.pointer (some ⟨g, 0, none⟩) :: lb).toArray w1 (DoneP w1 g B r)) :
    Calls Try.prog 24 #[.agg (pmC p.o p.e vr vq vg).toArray, .func (.func gf) #[] lb.toArray] w (PermP w (turnR p r)) := by
  have HC := Lib.hid (fun (b : Bool) (hb : okB p = b) w1 h => check_of p b hb vr vq vg w1 h)
  have HP := Lib.hid (And.intro hp hl)
  have HS := Lib.hid hst
  obtain ⟨b, hb⟩ : ∃ b, okB p = b := ⟨_, rfl⟩
  have HB := Lib.hid hb
  have HR := Lib.hid (show turnR p r = if b = true then (if r.1 = 0 then (r.2, 0) else (noP, r.1)) else (noP, 210) by unfold turnR; rw [hb])
  obtain ⟨R, hR⟩ : ∃ R, turnR p r = R := ⟨_, rfl⟩
  rw [hR] at HR ⊢
  obtain ⟨o, pe, pr, pq, pg⟩ := p
  obtain ⟨ra, rc, rfl, -⟩ := hp.1.nums
  obtain ⟨qa, qc, rfl, -⟩ := hp.2.1.nums
  obtain ⟨ga, gc, rfl, -⟩ := hp.2.2.nums
  simp only at HC HP HS ⊢
  obtain ⟨rl, hrl⟩ : ∃ n, pr.length = n := ⟨_, rfl⟩
  obtain ⟨ql, hql⟩ : ∃ n, pq.length = n := ⟨_, rfl⟩
  obtain ⟨gl, hgl⟩ : ∃ n, pg.length = n := ⟨_, rfl⟩
  have HLN := Lib.hid (show pr.length = rl ∧ pq.length = ql ∧ pg.length = gl from ⟨hrl, hql, hgl⟩)
  rw [hrl, hql, hgl] at HC HP ⊢
  have hcf' := hcf
  clear hp hl hst hb hR hrl hql hgl
  go_enter Try.func24, Try.ntmps24
  go_wp2_with (first
    | ((with_reducible refine wpList_box_blk w rfl 24 (.tmp 0) rfl (pmC o pe (.slice ra rl rc) (.slice qa ql qc) (.slice ga gl gc)) rfl ?_); intro w1 hb hbel hsz; have H1 := Lib.hid (And.intro hb hbel); clear hb hbel hsz)
    | ((with_reducible refine wpList_alloc_blk w1 rfl 24 rfl (pmC 0 0 (.slice none 0 0) (.slice none 0 0) (.slice none 0 0)) Try.zeroPm ?_); intro w2 hb hbel hsz; have H2 := Lib.hid (show Blk w2 w.heap.size 24 (pmC o pe (.slice ra rl rc) (.slice qa ql qc) (.slice ga gl gc)) ∧ Blk w2 w1.heap.size 24 (pmC 0 0 (.slice none 0 0) (.slice none 0 0) (.slice none 0 0)) ∧ Below w.heap.size w w2 from ⟨H1.out.1.below hbel H1.out.1.lt, hb, below_thn H1.out.2 hbel (Nat.le_refl _)⟩); clear hb hbel hsz)
    | (with_reducible refine wpList_load_any rfl 24 (.tmp 2) rfl w.heap.size 0 rfl (pmC o pe (.slice ra rl rc) (.slice qa ql qc) (.slice ga gl gc)) _ (rangeW_blk H2.out.1) Try.underlying24 rfl (pmC_info _ _ _ _ _) ?_))
  refine (HC.out b HB.out w2 (HP.out.1.below H2.out.2.2)).mono ?_
  rintro e w3 ⟨rfl, hb3⟩
  have H3 := Lib.hid (show Blk w3 w.heap.size 24 (pmC o pe (.slice ra rl rc) (.slice qa ql qc) (.slice ga gl gc)) ∧ Below w.heap.size w w3 from ⟨H2.out.1.below hb3 H2.out.1.lt, below_thn H2.out.2.2 hb3 (Nat.le_refl _)⟩)
  have HZ := Lib.hid (show Blk w3 w1.heap.size 24 (pmC 0 0 (.slice none 0 0) (.slice none 0 0) (.slice none 0 0)) ∧ Below w.heap.size w w3 from ⟨H2.out.2.1.below hb3 H2.out.2.1.lt, H3.out.2⟩)
  have HSZ := Lib.hid (show w1.heap.size < w3.heap.size from Nat.lt_of_lt_of_le H2.out.2.1.lt hb3.size)
  clear hb3
  cases b
  · have HRE := Lib.hid (show R = (noP, 210) from HR.out)
    go_wp2_with (first
    | ((with_reducible refine wpList_build_zeroPm rfl rfl ?_))
    | ((with_reducible refine wpList_store_blk w3 rfl 24 (.tmp 4) (.tmp 11) rfl w1.heap.size 24 (pmC 0 0 (.slice none 0 0) (.slice none 0 0) (.slice none 0 0)) (pmC 0 0 (.slice none 0 0) (.slice none 0 0) (.slice none 0 0)) HZ.out.1 rfl rfl rfl (pmC_info _ _ _ _ _) (pmC_one _ _ _ _ _ _ _ _ _ _ _) ?_); intro w9 hb hc hs; have H9 := Lib.hid (And.intro hb (below_ch HZ.out.2 hc (Nat.le_refl _) (fun k hk => by have e : k = w1.heap.size := hk; have := H1.out.2.size; omega))); clear hb hc hs))
    refine bodyPost_ret (results_cellTmp Try.results24 _ _ w1.heap.size _ _ rfl H9.out.1 _ Try.underlying24 rfl (pmC_info _ _ _ _ _) _ rfl) rfl ?_
    rw [HRE.out]
    exact ⟨_, _, _, rfl, PmS.nil _, H9.out.2, AbvS.nil _⟩
  · have HRE := Lib.hid (show R = if r.1 = 0 then (r.2, 0) else (noP, r.1) from HR.out)
    have HSL := Lib.hid (HP.out.1.below H3.out.2)
    obtain ⟨e1, e2, e3, e4, e5⟩ : w3.cell? ⟨w.heap.size, 0, none⟩ = some (.int .i64 o) ∧ w3.cell? ⟨w.heap.size, 1, none⟩ = some (.int .i64 pe) ∧ w3.cell? ⟨w.heap.size, 2, none⟩ = some (.slice ra rl rc) ∧ w3.cell? ⟨w.heap.size, 3, none⟩ = some (.slice qa ql qc) ∧ w3.cell? ⟨w.heap.size, 4, none⟩ = some (.slice ga gl gc) := ⟨H3.out.1.cell 0, H3.out.1.cell 1, H3.out.1.cell 2, H3.out.1.cell 3, H3.out.1.cell 4⟩
    go_wp2_with fail
    refine wp_region_takes (fun w' => w'.cell? ⟨w.heap.size, 0, none⟩ = some (.int .i64 o) ∧ w'.cell? ⟨w.heap.size, 1, none⟩ = some (.int .i64 pe) ∧ w'.cell? ⟨w.heap.size, 2, none⟩ = some (.slice ra rl rc) ∧ w'.cell? ⟨w.heap.size, 3, none⟩ = some (.slice qa ql qc) ∧ w'.cell? ⟨w.heap.size, 4, none⟩ = some (.slice ga gl gc)) [0, 1, 2, 3, 4, 5, 7, 8, 10, 11] 6 (by kernel_rfl) rfl (by kernel_rfl) (by kernel_rfl) ⟨e1, e2, e3, e4, e5⟩ ?_
    clear e1 e2 e3 e4 e5
    iterate 10 (refine' HeldL.run ?_ ?_ ?_ ?_; rotate_left 2; (simp only [List.getElem?_toArray, List.getElem?_cons_zero, List.getElem?_cons_succ]; rfl); rfl; (rintro w' ⟨k0, k1, k2, k3, k4⟩; go_simp; with_reducible rfl); simp only [Act.put, List.setIfInBounds_toArray, List.set_cons_zero, List.set_cons_succ])
    have HD := Lib.hid (Below.refl w3.heap.size w3).drew
    have H3a := Lib.hid (show Blk w3 w.heap.size 24 (pmC o pe (.slice ra rl rc) (.slice qa ql qc) (.slice ga gl gc)) ∧ Blk w3 w1.heap.size 24 (pmC 0 0 (.slice none 0 0) (.slice none 0 0) (.slice none 0 0)) ∧ PmS w3 ⟨o, pe, pr, pq, pg⟩ (.slice ra rl rc) (.slice qa ql qc) (.slice ga gl gc) ∧ Below w.heap.size w w3 ∧ Below w3.heap.size w3 w3 from ⟨H3.out.1, HZ.out.1, HSL.out, H3.out.2, Below.refl _ _⟩)
    have H4a := Lib.hid (show Blk w3.drew w.heap.size 24 (pmC o pe (.slice ra rl rc) (.slice qa ql qc) (.slice ga gl gc)) ∧ Blk w3.drew w1.heap.size 24 (pmC 0 0 (.slice none 0 0) (.slice none 0 0) (.slice none 0 0)) ∧ PmS w3.drew ⟨o, pe, pr, pq, pg⟩ (.slice ra rl rc) (.slice qa ql qc) (.slice ga gl gc) ∧ Below w.heap.size w w3.drew ∧ Below w3.heap.size w3 w3.drew from ⟨H3a.out.1.below HD.out H3a.out.1.lt, H3a.out.2.1.below HD.out H3a.out.2.1.lt, H3a.out.2.2.1.below HD.out, below_thn H3a.out.2.2.2.1 HD.out (Nat.le_refl _), below_thn H3a.out.2.2.2.2 HD.out (Nat.le_refl _)⟩)
    generalize w3.drew = u0 at H4a ⊢
    refine' wpAnyH_two 6 14 (by kernel_rfl) ?_ ?_ ?_ ?_; rotate_left 2; (simp only [List.getElem?_toArray, List.getElem?_cons_zero, List.getElem?_cons_succ]; rfl); (simp only [List.getElem?_toArray, List.getElem?_cons_zero, List.getElem?_cons_succ]; rfl)
    · skip
      try simp only [Act.put]
      go_wp2_with fail
      refine (clone_any (.slice ra rl rc) pr u0 H4a.out.2.2.1.1 (by have := HP.out.2.1; simp only at this; omega)).mono ?_
      rintro e' u1 ⟨v1, rfl, hown, hb⟩
      obtain ⟨ao1, cp1, rfl⟩ := own_shape hown
      rw [HLN.out.1] at hown ⊢
      have HU1 := Lib.hid (show Blk u1 w.heap.size 24 (pmC o pe (.slice ra rl rc) (.slice qa ql qc) (.slice ga gl gc)) ∧ Blk u1 w1.heap.size 24 (pmC 0 0 (.slice none 0 0) (.slice none 0 0) (.slice none 0 0)) ∧ PmS u1 ⟨o, pe, pr, pq, pg⟩ (.slice ra rl rc) (.slice qa ql qc) (.slice ga gl gc) ∧ Below w.heap.size w u1 ∧ Below w3.heap.size w3 u1 ∧ u1.ownsRow u0.heap.size 3 1 (.slice ao1 rl cp1) rl (ofK .i64 pr) ∧ w3.heap.size ≤ u0.heap.size from ⟨H4a.out.1.below hb H4a.out.1.lt, H4a.out.2.1.below hb H4a.out.2.1.lt, H4a.out.2.2.1.below hb, below_thn H4a.out.2.2.2.1 hb (Nat.le_refl _), below_thn H4a.out.2.2.2.2 hb (Nat.le_refl _), hown, H4a.out.2.2.2.2.size⟩)
      clear hown hb
      go_wp2_with fail
      refine QK.normal ⟨⟨HU1.out.1.cell 0, HU1.out.1.cell 1, HU1.out.1.cell 2, HU1.out.1.cell 3, HU1.out.1.cell 4⟩, ?_⟩
      refine' wpAnyH_two 9 14 (by kernel_rfl) ?_ ?_ ?_ ?_; rotate_left 2; (simp only [List.getElem?_toArray, List.getElem?_cons_zero, List.getElem?_cons_succ]; rfl); (simp only [List.getElem?_toArray, List.getElem?_cons_zero, List.getElem?_cons_succ]; rfl)
      · skip
        try simp only [Act.put]
        go_wp2_with fail
        refine (clone_any (.slice qa ql qc) pq u1 HU1.out.2.2.1.2.1 (by have := HP.out.2.2.1; simp only at this; omega)).mono ?_
        rintro e' u2 ⟨v2, rfl, hown, hb⟩
        obtain ⟨ao2, cp2, rfl⟩ := own_shape hown
        rw [HLN.out.2.1] at hown ⊢
        have HU2 := Lib.hid (show Blk u2 w.heap.size 24 (pmC o pe (.slice ra rl rc) (.slice qa ql qc) (.slice ga gl gc)) ∧ Blk u2 w1.heap.size 24 (pmC 0 0 (.slice none 0 0) (.slice none 0 0) (.slice none 0 0)) ∧ PmS u2 ⟨o, pe, pr, pq, pg⟩ (.slice ra rl rc) (.slice qa ql qc) (.slice ga gl gc) ∧ Below w.heap.size w u2 ∧ Below w3.heap.size w3 u2 ∧ u2.ownsRow u0.heap.size 3 1 (.slice ao1 rl cp1) rl (ofK .i64 pr) ∧ w3.heap.size ≤ u0.heap.size ∧ u2.ownsRow u1.heap.size 3 1 (.slice ao2 ql cp2) ql (ofK .i64 pq) ∧ w3.heap.size ≤ u1.heap.size from ⟨HU1.out.1.below hb HU1.out.1.lt, HU1.out.2.1.below hb HU1.out.2.1.lt, HU1.out.2.2.1.below hb, below_thn HU1.out.2.2.2.1 hb (Nat.le_refl _), below_thn HU1.out.2.2.2.2.1 hb (Nat.le_refl _), own_ch HU1.out.2.2.2.2.2.1 (Ch.of_below (S := fun _ => False) hb (Nat.le_refl _)) (fun _ _ h => h), HU1.out.2.2.2.2.2.2, hown, HU1.out.2.2.2.2.1.size⟩)
        clear hown hb
        go_wp2_with fail
        refine QK.normal ⟨⟨HU2.out.1.cell 0, HU2.out.1.cell 1, HU2.out.1.cell 2, HU2.out.1.cell 3, HU2.out.1.cell 4⟩, ?_⟩
        refine' wpAnyH_two 12 14 (by kernel_rfl) ?_ ?_ ?_ ?_; rotate_left 2; (simp only [List.getElem?_toArray, List.getElem?_cons_zero, List.getElem?_cons_succ]; rfl); (simp only [List.getElem?_toArray, List.getElem?_cons_zero, List.getElem?_cons_succ]; rfl)
        · skip
          try simp only [Act.put]
          go_wp2_with fail
          refine (clone_any (.slice ga gl gc) pg u2 HU2.out.2.2.1.2.2 (by have := HP.out.2.2.2; simp only at this; omega)).mono ?_
          rintro e' u3 ⟨v3, rfl, hown, hb⟩
          obtain ⟨ao3, cp3, rfl⟩ := own_shape hown
          rw [HLN.out.2.2] at hown ⊢
          have HU3 := Lib.hid (show Blk u3 w.heap.size 24 (pmC o pe (.slice ra rl rc) (.slice qa ql qc) (.slice ga gl gc)) ∧ Blk u3 w1.heap.size 24 (pmC 0 0 (.slice none 0 0) (.slice none 0 0) (.slice none 0 0)) ∧ PmS u3 ⟨o, pe, pr, pq, pg⟩ (.slice ra rl rc) (.slice qa ql qc) (.slice ga gl gc) ∧ Below w.heap.size w u3 ∧ Below w3.heap.size w3 u3 ∧ u3.ownsRow u0.heap.size 3 1 (.slice ao1 rl cp1) rl (ofK .i64 pr) ∧ w3.heap.size ≤ u0.heap.size ∧ u3.ownsRow u1.heap.size 3 1 (.slice ao2 ql cp2) ql (ofK .i64 pq) ∧ w3.heap.size ≤ u1.heap.size ∧ u3.ownsRow u2.heap.size 3 1 (.slice ao3 gl cp3) gl (ofK .i64 pg) ∧ w3.heap.size ≤ u2.heap.size from ⟨HU2.out.1.below hb HU2.out.1.lt, HU2.out.2.1.below hb HU2.out.2.1.lt, HU2.out.2.2.1.below hb, below_thn HU2.out.2.2.2.1 hb (Nat.le_refl _), below_thn HU2.out.2.2.2.2.1 hb (Nat.le_refl _), own_ch HU2.out.2.2.2.2.2.1 (Ch.of_below (S := fun _ => False) hb (Nat.le_refl _)) (fun _ _ h => h), HU2.out.2.2.2.2.2.2.1, own_ch HU2.out.2.2.2.2.2.2.2.1 (Ch.of_below (S := fun _ => False) hb (Nat.le_refl _)) (fun _ _ h => h), HU2.out.2.2.2.2.2.2.2.2, hown, HU2.out.2.2.2.2.1.size⟩)
          clear hown hb
          go_wp2_with fail
          refine QK.normal ⟨⟨HU3.out.1.cell 0, HU3.out.1.cell 1, HU3.out.1.cell 2, HU3.out.1.cell 3, HU3.out.1.cell 4⟩, ?_⟩
          refine' wpAnyH_two 13 14 (by kernel_rfl) ?_ ?_ ?_ ?_; rotate_left 2; (simp only [List.getElem?_toArray, List.getElem?_cons_zero, List.getElem?_cons_succ]; rfl); (simp only [List.getElem?_toArray, List.getElem?_cons_zero, List.getElem?_cons_succ]; rfl)
          · skip
            refine wpList_build_pm rfl (.tmp 13) (.tmp 15) (.tmp 18) (.tmp 21) (.tmp 24) rfl o pe ao1 ao2 ao3 rl cp1 ql cp2 gl cp3 rfl rfl rfl rfl rfl ?_
            simp only [Act.put, List.setIfInBounds_toArray, List.set_cons_zero, List.set_cons_succ]
            refine QK.normal ⟨⟨HU3.out.1.cell 0, HU3.out.1.cell 1, HU3.out.1.cell 2, HU3.out.1.cell 3, HU3.out.1.cell 4⟩, ?_⟩
            refine' wpAnyH_one 14 (by kernel_rfl) ?_ ?_; rotate_left; (simp only [List.getElem?_toArray, List.getElem?_cons_zero, List.getElem?_cons_succ]; rfl)
            refine wpList_alloc_blk u3 rfl 24 rfl (pmC 0 0 (.slice none 0 0) (.slice none 0 0) (.slice none 0 0)) Try.zeroPm ?_
            intro u5 hb hbel hsz
            have HU5 := Lib.hid (show Blk u5 w.heap.size 24 (pmC o pe (.slice ra rl rc) (.slice qa ql qc) (.slice ga gl gc)) ∧ Blk u5 w1.heap.size 24 (pmC 0 0 (.slice none 0 0) (.slice none 0 0) (.slice none 0 0)) ∧ PmS u5 ⟨o, pe, pr, pq, pg⟩ (.slice ra rl rc) (.slice qa ql qc) (.slice ga gl gc) ∧ Below w.heap.size w u5 ∧ Below w3.heap.size w3 u5 ∧ u5.ownsRow u0.heap.size 3 1 (.slice ao1 rl cp1) rl (ofK .i64 pr) ∧ w3.heap.size ≤ u0.heap.size ∧ u5.ownsRow u1.heap.size 3 1 (.slice ao2 ql cp2) ql (ofK .i64 pq) ∧ w3.heap.size ≤ u1.heap.size ∧ u5.ownsRow u2.heap.size 3 1 (.slice ao3 gl cp3) gl (ofK .i64 pg) ∧ w3.heap.size ≤ u2.heap.size ∧ Blk u5 u3.heap.size 24 (pmC 0 0 (.slice none 0 0) (.slice none 0 0) (.slice none 0 0)) ∧ w.heap.size ≤ u3.heap.size ∧ w1.heap.size < u3.heap.size ∧ w.heap.size < u3.heap.size ∧ (∀ k, (Value.slice ao1 rl cp1).ownBlock = some k → k ≠ u3.heap.size) ∧ (∀ k, (Value.slice ao2 ql cp2).ownBlock = some k → k ≠ u3.heap.size) ∧ (∀ k, (Value.slice ao3 gl cp3).ownBlock = some k → k ≠ u3.heap.size) from ⟨HU3.out.1.below hbel HU3.out.1.lt, HU3.out.2.1.below hbel HU3.out.2.1.lt, HU3.out.2.2.1.below hbel, below_thn HU3.out.2.2.2.1 hbel (Nat.le_refl _), below_thn HU3.out.2.2.2.2.1 hbel (Nat.le_refl _), own_ch HU3.out.2.2.2.2.2.1 (Ch.of_below (S := fun _ => False) hbel (Nat.le_refl _)) (fun _ _ h => h), HU3.out.2.2.2.2.2.2.1, own_ch HU3.out.2.2.2.2.2.2.2.1 (Ch.of_below (S := fun _ => False) hbel (Nat.le_refl _)) (fun _ _ h => h), HU3.out.2.2.2.2.2.2.2.2.1, own_ch HU3.out.2.2.2.2.2.2.2.2.2.1 (Ch.of_below (S := fun _ => False) hbel (Nat.le_refl _)) (fun _ _ h => h), HU3.out.2.2.2.2.2.2.2.2.2.2, hb, Nat.le_trans (Nat.le_refl _) HU3.out.2.2.2.1.size, HU3.out.2.1.lt, HU3.out.1.lt, fun k hk e => by have := (HU3.out.2.2.2.2.2.1.lt k hk).2; omega, fun k hk e => by have := (HU3.out.2.2.2.2.2.2.2.1.lt k hk).2; omega, fun k hk e => by have := (HU3.out.2.2.2.2.2.2.2.2.2.1.lt k hk).2; omega⟩)
            clear hb hbel hsz
            simp only [Act.put, List.setIfInBounds_toArray, List.set_cons_zero, List.set_cons_succ]
            refine QK.normal ⟨⟨HU5.out.1.cell 0, HU5.out.1.cell 1, HU5.out.1.cell 2, HU5.out.1.cell 3, HU5.out.1.cell 4⟩, ?_⟩
            refine' wpAnyH_one 15 (by kernel_rfl) ?_ ?_; rotate_left; (simp only [List.getElem?_toArray, List.getElem?_cons_zero, List.getElem?_cons_succ]; rfl)
            refine wpList_store_blk u5 rfl 24 (.tmp 6) (.tmp 25) rfl u3.heap.size 24 (pmC 0 0 (.slice none 0 0) (.slice none 0 0) (.slice none 0 0)) (pmC o pe (.slice ao1 rl cp1) (.slice ao2 ql cp2) (.slice ao3 gl cp3)) HU5.out.2.2.2.2.2.2.2.2.2.2.2.1 rfl rfl rfl (pmC_info _ _ _ _ _) (pmC_one _ _ _ _ _ _ _ _ _ _ _) ?_
            intro u6 hb hc hs
            have HW := Lib.hid (show Blk u6 u3.heap.size 24 (pmC o pe (.slice ao1 rl cp1) (.slice ao2 ql cp2) (.slice ao3 gl cp3)) ∧ PmS u6 ⟨o, pe, pr, pq, pg⟩ (.slice ao1 rl cp1) (.slice ao2 ql cp2) (.slice ao3 gl cp3) ∧ Off u3.heap.size (.slice ao1 rl cp1) (.slice ao2 ql cp2) (.slice ao3 gl cp3) ∧ w.heap.size ≤ u3.heap.size ∧ Below w.heap.size w u6 ∧ Blk u6 w1.heap.size 24 (pmC 0 0 (.slice none 0 0) (.slice none 0 0) (.slice none 0 0)) ∧ AbvS w3.heap.size (.slice ao1 rl cp1) (.slice ao2 ql cp2) (.slice ao3 gl cp3) ∧ w3.heap.size ≤ u6.heap.size from ⟨hb, ⟨Sl.of_owns (own_ch HU5.out.2.2.2.2.2.1 hc (fun k hk e => HU5.out.2.2.2.2.2.2.2.2.2.2.2.2.2.2.2.1 k hk e)), Sl.of_owns (own_ch HU5.out.2.2.2.2.2.2.2.1 hc (fun k hk e => HU5.out.2.2.2.2.2.2.2.2.2.2.2.2.2.2.2.2.1 k hk e)), Sl.of_owns (own_ch HU5.out.2.2.2.2.2.2.2.2.2.1 hc (fun k hk e => HU5.out.2.2.2.2.2.2.2.2.2.2.2.2.2.2.2.2.2 k hk e))⟩, ⟨HU5.out.2.2.2.2.2.2.2.2.2.2.2.2.2.2.2.1, HU5.out.2.2.2.2.2.2.2.2.2.2.2.2.2.2.2.2.1, HU5.out.2.2.2.2.2.2.2.2.2.2.2.2.2.2.2.2.2⟩, HU5.out.2.2.2.2.2.2.2.2.2.2.2.2.1, below_ch HU5.out.2.2.2.1 hc (Nat.le_refl _) (fun k hk => by have e : k = u3.heap.size := hk; have := HU5.out.2.2.2.2.2.2.2.2.2.2.2.2.1; omega), HU5.out.2.1.keep hc (fun e => by have e : w1.heap.size = u3.heap.size := e; have := HU5.out.2.2.2.2.2.2.2.2.2.2.2.2.2.1; omega), ⟨fun k hk => Nat.le_trans HU5.out.2.2.2.2.2.2.1 (HU5.out.2.2.2.2.2.1.lt k hk).1, fun k hk => Nat.le_trans HU5.out.2.2.2.2.2.2.2.2.1 (HU5.out.2.2.2.2.2.2.2.1.lt k hk).1, fun k hk => Nat.le_trans HU5.out.2.2.2.2.2.2.2.2.2.2.1 (HU5.out.2.2.2.2.2.2.2.2.2.1.lt k hk).1⟩, Nat.le_trans HU5.out.2.2.2.2.1.size hc.size⟩)
            have HWG := Lib.hid (show w1.heap.size ≠ u3.heap.size from by have := HU5.out.2.2.2.2.2.2.2.2.2.2.2.2.2.1; omega)
            have HK := Lib.hid (show u6.cell? ⟨w.heap.size, 0, none⟩ = some (.int .i64 o) ∧ u6.cell? ⟨w.heap.size, 1, none⟩ = some (.int .i64 pe) ∧ u6.cell? ⟨w.heap.size, 2, none⟩ = some (.slice ra rl rc) ∧ u6.cell? ⟨w.heap.size, 3, none⟩ = some (.slice qa ql qc) ∧ u6.cell? ⟨w.heap.size, 4, none⟩ = some (.slice ga gl gc) from by have hk := HU5.out.1.keep hc (fun e => by have e : w.heap.size = u3.heap.size := e; have := HU5.out.2.2.2.2.2.2.2.2.2.2.2.2.2.2.1; omega); exact ⟨hk.cell 0, hk.cell 1, hk.cell 2, hk.cell 3, hk.cell 4⟩)
            clear hb hc hs
            simp only [Act.put, List.setIfInBounds_toArray, List.set_cons_zero, List.set_cons_succ]
            refine QK.normal ⟨HK.out, ?_⟩
            clear HK
            refine wpAnyH_done (by kernel_rfl) ?_ _
            refine NoPanic.normal ?_
            go_wp2_with fail
            refine (HS.out HB.out u6 u3.heap.size w3.heap.size _ _ _ HW.out.2.2.2.2.1 HW.out.2.2.2.1 HW.out.2.2.2.2.2.2.2 HW.out.2.2.2.2.2.2.1 HW.out.1 HW.out.2.1 HW.out.2.2.1).mono ?_
            rintro e u7 ⟨rfl, xr, xq, xg, hb, hs, hc, hab⟩
            obtain ⟨xa, xc, rfl, -⟩ := hs.1.shape
            obtain ⟨ya, yc, rfl, -⟩ := hs.2.1.shape
            obtain ⟨za, zc, rfl, -⟩ := hs.2.2.shape
            generalize (ofK .i64 r.2.r).length = xl at hb hs hab
            generalize (ofK .i64 r.2.q).length = yl at hb hs hab
            generalize (ofK .i64 r.2.g).length = zl at hb hs hab
            have HV := Lib.hid (show Blk u7 u3.heap.size 24 (pmC r.2.o r.2.e (.slice xa xl xc) (.slice ya yl yc) (.slice za zl zc)) ∧ PmS u7 r.2 (.slice xa xl xc) (.slice ya yl yc) (.slice za zl zc) ∧ Blk u7 w1.heap.size 24 (pmC 0 0 (.slice none 0 0) (.slice none 0 0) (.slice none 0 0)) ∧ Below w.heap.size w u7 from ⟨hb, hs, HW.out.2.2.2.2.2.1.keep hc (fun e => HWG.out e), below_ch HW.out.2.2.2.2.1 hc (Nat.le_refl _) (fun k hk => by have e : k = u3.heap.size := hk; have := HW.out.2.2.2.1; omega)⟩)
            have HVN := Lib.hid (show Off w1.heap.size (.slice xa xl xc) (.slice ya yl yc) (.slice za zl zc) from ⟨fun k hk e => by have := hab.1 k hk; have := HSZ.out; omega, fun k hk e => by have := hab.2.1 k hk; have := HSZ.out; omega, fun k hk e => by have := hab.2.2 k hk; have := HSZ.out; omega⟩)
            have HAB := Lib.hid (hab.mono H3.out.2.size)
            clear hb hs hc hab
            by_cases h0 : r.1 = 0
            · have HRQ := Lib.hid (show R = (r.2, 0) from by rw [HRE.out, if_pos h0])
              rw [h0]
              clear h0
              go_wp2_with (first
    | (with_reducible refine wpList_load_any rfl 24 (.tmp 6) rfl u3.heap.size 0 rfl (pmC r.2.o r.2.e (.slice xa xl xc) (.slice ya yl yc) (.slice za zl zc)) _ (rangeW_blk HV.out.1) Try.underlying24 rfl (pmC_info _ _ _ _ _) ?_)
    | ((with_reducible refine wpList_store_blk u7 rfl 24 (.tmp 4) (.tmp 32) rfl w1.heap.size 24 (pmC 0 0 (.slice none 0 0) (.slice none 0 0) (.slice none 0 0)) ((pmC r.2.o r.2.e (.slice xa xl xc) (.slice ya yl yc) (.slice za zl zc))) HV.out.2.2.1 rfl rfl rfl (pmC_info _ _ _ _ _) (pmC_one _ _ _ _ _ _ _ _ _ _ _) ?_); intro w9 hb hc hs; have H9 := Lib.hid (show Blk w9 w1.heap.size 24 ((pmC r.2.o r.2.e (.slice xa xl xc) (.slice ya yl yc) (.slice za zl zc))) ∧ Ch (· = w1.heap.size) u7 w9 ∧ Below w.heap.size w w9 from ⟨hb, hc, below_ch HV.out.2.2.2 hc (Nat.le_refl _) (fun k hk => by have e : k = w1.heap.size := hk; have := H1.out.2.size; omega)⟩); clear hb hc hs))
              refine bodyPost_ret (results_cellTmp Try.results24 _ _ w1.heap.size _ _ rfl H9.out.1 _ Try.underlying24 rfl (pmC_info _ _ _ _ _) _ rfl) rfl ?_
              rw [HRQ.out]
              exact ⟨_, _, _, rfl, HV.out.2.1.ch H9.out.2.1 HVN.out, H9.out.2.2, HAB.out⟩
            · have HRQ := Lib.hid (show R = (noP, r.1) from by rw [HRE.out, if_neg h0])
              have hk1 : (r.1 == 0) = false := by simpa using h0
              have hk2 : (r.1 != 0) = true := by simpa using h0
              generalize r.1 = k at hk1 hk2 HRQ ⊢
              clear h0
              go_wp2_with (first
    | ((with_reducible refine wpList_build_zeroPm rfl rfl ?_))
    | ((with_reducible refine wpList_store_blk u7 rfl 24 (.tmp 4) (.tmp 30) rfl w1.heap.size 24 (pmC 0 0 (.slice none 0 0) (.slice none 0 0) (.slice none 0 0)) (pmC 0 0 (.slice none 0 0) (.slice none 0 0) (.slice none 0 0)) HV.out.2.2.1 rfl rfl rfl (pmC_info _ _ _ _ _) (pmC_one _ _ _ _ _ _ _ _ _ _ _) ?_); intro w9 hb hc hs; have H9 := Lib.hid (show Blk w9 w1.heap.size 24 (pmC 0 0 (.slice none 0 0) (.slice none 0 0) (.slice none 0 0)) ∧ Ch (· = w1.heap.size) u7 w9 ∧ Below w.heap.size w w9 from ⟨hb, hc, below_ch HV.out.2.2.2 hc (Nat.le_refl _) (fun k hk => by have e : k = w1.heap.size := hk; have := H1.out.2.size; omega)⟩); clear hb hc hs))
              refine bodyPost_ret (results_cellTmp Try.results24 _ _ w1.heap.size _ _ rfl H9.out.1 _ Try.underlying24 rfl (pmC_info _ _ _ _ _) _ rfl) rfl ?_
              rw [HRQ.out]
              exact ⟨_, _, _, rfl, PmS.nil _, H9.out.2.2, AbvS.nil _⟩
          · skip
            refine wpList_alloc_blk u3 rfl 24 rfl (pmC 0 0 (.slice none 0 0) (.slice none 0 0) (.slice none 0 0)) Try.zeroPm ?_
            intro u8 hb hbel hsz
            have HU8 := Lib.hid (show Blk u8 w.heap.size 24 (pmC o pe (.slice ra rl rc) (.slice qa ql qc) (.slice ga gl gc)) ∧ Blk u8 w1.heap.size 24 (pmC 0 0 (.slice none 0 0) (.slice none 0 0) (.slice none 0 0)) ∧ PmS u8 ⟨o, pe, pr, pq, pg⟩ (.slice ra rl rc) (.slice qa ql qc) (.slice ga gl gc) ∧ Below w.heap.size w u8 ∧ Below w3.heap.size w3 u8 ∧ u8.ownsRow u0.heap.size 3 1 (.slice ao1 rl cp1) rl (ofK .i64 pr) ∧ w3.heap.size ≤ u0.heap.size ∧ u8.ownsRow u1.heap.size 3 1 (.slice ao2 ql cp2) ql (ofK .i64 pq) ∧ w3.heap.size ≤ u1.heap.size ∧ u8.ownsRow u2.heap.size 3 1 (.slice ao3 gl cp3) gl (ofK .i64 pg) ∧ w3.heap.size ≤ u2.heap.size ∧ Blk u8 u3.heap.size 24 (pmC 0 0 (.slice none 0 0) (.slice none 0 0) (.slice none 0 0)) ∧ w.heap.size ≤ u3.heap.size ∧ w1.heap.size < u3.heap.size ∧ w.heap.size < u3.heap.size ∧ (∀ k, (Value.slice ao1 rl cp1).ownBlock = some k → k ≠ u3.heap.size) ∧ (∀ k, (Value.slice ao2 ql cp2).ownBlock = some k → k ≠ u3.heap.size) ∧ (∀ k, (Value.slice ao3 gl cp3).ownBlock = some k → k ≠ u3.heap.size) from ⟨HU3.out.1.below hbel HU3.out.1.lt, HU3.out.2.1.below hbel HU3.out.2.1.lt, HU3.out.2.2.1.below hbel, below_thn HU3.out.2.2.2.1 hbel (Nat.le_refl _), below_thn HU3.out.2.2.2.2.1 hbel (Nat.le_refl _), own_ch HU3.out.2.2.2.2.2.1 (Ch.of_below (S := fun _ => False) hbel (Nat.le_refl _)) (fun _ _ h => h), HU3.out.2.2.2.2.2.2.1, own_ch HU3.out.2.2.2.2.2.2.2.1 (Ch.of_below (S := fun _ => False) hbel (Nat.le_refl _)) (fun _ _ h => h), HU3.out.2.2.2.2.2.2.2.2.1, own_ch HU3.out.2.2.2.2.2.2.2.2.2.1 (Ch.of_below (S := fun _ => False) hbel (Nat.le_refl _)) (fun _ _ h => h), HU3.out.2.2.2.2.2.2.2.2.2.2, hb, Nat.le_trans (Nat.le_refl _) HU3.out.2.2.2.1.size, HU3.out.2.1.lt, HU3.out.1.lt, fun k hk e => by have := (HU3.out.2.2.2.2.2.1.lt k hk).2; omega, fun k hk e => by have := (HU3.out.2.2.2.2.2.2.2.1.lt k hk).2; omega, fun k hk e => by have := (HU3.out.2.2.2.2.2.2.2.2.2.1.lt k hk).2; omega⟩)
            clear hb hbel hsz
            simp only [Act.put, List.setIfInBounds_toArray, List.set_cons_zero, List.set_cons_succ]
            refine QK.normal ⟨⟨HU8.out.1.cell 0, HU8.out.1.cell 1, HU8.out.1.cell 2, HU8.out.1.cell 3, HU8.out.1.cell 4⟩, ?_⟩
            refine' wpAnyH_one 13 (by kernel_rfl) ?_ ?_; rotate_left; (simp only [List.getElem?_toArray, List.getElem?_cons_zero, List.getElem?_cons_succ]; rfl)
            refine wpList_build_pm rfl (.tmp 13) (.tmp 15) (.tmp 18) (.tmp 21) (.tmp 24) rfl o pe ao1 ao2 ao3 rl cp1 ql cp2 gl cp3 rfl rfl rfl rfl rfl ?_
            simp only [Act.put, List.setIfInBounds_toArray, List.set_cons_zero, List.set_cons_succ]
            refine QK.normal ⟨⟨HU8.out.1.cell 0, HU8.out.1.cell 1, HU8.out.1.cell 2, HU8.out.1.cell 3, HU8.out.1.cell 4⟩, ?_⟩
            refine' wpAnyH_one 15 (by kernel_rfl) ?_ ?_; rotate_left; (simp only [List.getElem?_toArray, List.getElem?_cons_zero, List.getElem?_cons_succ]; rfl)
            refine wpList_store_blk u8 rfl 24 (.tmp 6) (.tmp 25) rfl u3.heap.size 24 (pmC 0 0 (.slice none 0 0) (.slice none 0 0) (.slice none 0 0)) (pmC o pe (.slice ao1 rl cp1) (.slice ao2 ql cp2) (.slice ao3 gl cp3)) HU8.out.2.2.2.2.2.2.2.2.2.2.2.1 rfl rfl rfl (pmC_info _ _ _ _ _) (pmC_one _ _ _ _ _ _ _ _ _ _ _) ?_
            intro u10 hb hc hs
            have HW := Lib.hid (show Blk u10 u3.heap.size 24 (pmC o pe (.slice ao1 rl cp1) (.slice ao2 ql cp2) (.slice ao3 gl cp3)) ∧ PmS u10 ⟨o, pe, pr, pq, pg⟩ (.slice ao1 rl cp1) (.slice ao2 ql cp2) (.slice ao3 gl cp3) ∧ Off u3.heap.size (.slice ao1 rl cp1) (.slice ao2 ql cp2) (.slice ao3 gl cp3) ∧ w.heap.size ≤ u3.heap.size ∧ Below w.heap.size w u10 ∧ Blk u10 w1.heap.size 24 (pmC 0 0 (.slice none 0 0) (.slice none 0 0) (.slice none 0 0)) ∧ AbvS w3.heap.size (.slice ao1 rl cp1) (.slice ao2 ql cp2) (.slice ao3 gl cp3) ∧ w3.heap.size ≤ u10.heap.size from ⟨hb, ⟨Sl.of_owns (own_ch HU8.out.2.2.2.2.2.1 hc (fun k hk e => HU8.out.2.2.2.2.2.2.2.2.2.2.2.2.2.2.2.1 k hk e)), Sl.of_owns (own_ch HU8.out.2.2.2.2.2.2.2.1 hc (fun k hk e => HU8.out.2.2.2.2.2.2.2.2.2.2.2.2.2.2.2.2.1 k hk e)), Sl.of_owns (own_ch HU8.out.2.2.2.2.2.2.2.2.2.1 hc (fun k hk e => HU8.out.2.2.2.2.2.2.2.2.2.2.2.2.2.2.2.2.2 k hk e))⟩, ⟨HU8.out.2.2.2.2.2.2.2.2.2.2.2.2.2.2.2.1, HU8.out.2.2.2.2.2.2.2.2.2.2.2.2.2.2.2.2.1, HU8.out.2.2.2.2.2.2.2.2.2.2.2.2.2.2.2.2.2⟩, HU8.out.2.2.2.2.2.2.2.2.2.2.2.2.1, below_ch HU8.out.2.2.2.1 hc (Nat.le_refl _) (fun k hk => by have e : k = u3.heap.size := hk; have := HU8.out.2.2.2.2.2.2.2.2.2.2.2.2.1; omega), HU8.out.2.1.keep hc (fun e => by have e : w1.heap.size = u3.heap.size := e; have := HU8.out.2.2.2.2.2.2.2.2.2.2.2.2.2.1; omega), ⟨fun k hk => Nat.le_trans HU8.out.2.2.2.2.2.2.1 (HU8.out.2.2.2.2.2.1.lt k hk).1, fun k hk => Nat.le_trans HU8.out.2.2.2.2.2.2.2.2.1 (HU8.out.2.2.2.2.2.2.2.1.lt k hk).1, fun k hk => Nat.le_trans HU8.out.2.2.2.2.2.2.2.2.2.2.1 (HU8.out.2.2.2.2.2.2.2.2.2.1.lt k hk).1⟩, Nat.le_trans HU8.out.2.2.2.2.1.size hc.size⟩)
            have HWG := Lib.hid (show w1.heap.size ≠ u3.heap.size from by have := HU8.out.2.2.2.2.2.2.2.2.2.2.2.2.2.1; omega)
            have HK := Lib.hid (show u10.cell? ⟨w.heap.size, 0, none⟩ = some (.int .i64 o) ∧ u10.cell? ⟨w.heap.size, 1, none⟩ = some (.int .i64 pe) ∧ u10.cell? ⟨w.heap.size, 2, none⟩ = some (.slice ra rl rc) ∧ u10.cell? ⟨w.heap.size, 3, none⟩ = some (.slice qa ql qc) ∧ u10.cell? ⟨w.heap.size, 4, none⟩ = some (.slice ga gl gc) from by have hk := HU8.out.1.keep hc (fun e => by have e : w.heap.size = u3.heap.size := e; have := HU8.out.2.2.2.2.2.2.2.2.2.2.2.2.2.2.1; omega); exact ⟨hk.cell 0, hk.cell 1, hk.cell 2, hk.cell 3, hk.cell 4⟩)
            clear hb hc hs
            simp only [Act.put, List.setIfInBounds_toArray, List.set_cons_zero, List.set_cons_succ]
            refine QK.normal ⟨HK.out, ?_⟩
            clear HK
            refine wpAnyH_done (by kernel_rfl) ?_ _
            refine NoPanic.normal ?_
            go_wp2_with fail
            refine (HS.out HB.out u10 u3.heap.size w3.heap.size _ _ _ HW.out.2.2.2.2.1 HW.out.2.2.2.1 HW.out.2.2.2.2.2.2.2 HW.out.2.2.2.2.2.2.1 HW.out.1 HW.out.2.1 HW.out.2.2.1).mono ?_
            rintro e u11 ⟨rfl, xr, xq, xg, hb, hs, hc, hab⟩
            obtain ⟨xa, xc, rfl, -⟩ := hs.1.shape
            obtain ⟨ya, yc, rfl, -⟩ := hs.2.1.shape
            obtain ⟨za, zc, rfl, -⟩ := hs.2.2.shape
            generalize (ofK .i64 r.2.r).length = xl at hb hs hab
            generalize (ofK .i64 r.2.q).length = yl at hb hs hab
            generalize (ofK .i64 r.2.g).length = zl at hb hs hab
            have HV := Lib.hid (show Blk u11 u3.heap.size 24 (pmC r.2.o r.2.e (.slice xa xl xc) (.slice ya yl yc) (.slice za zl zc)) ∧ PmS u11 r.2 (.slice xa xl xc) (.slice ya yl yc) (.slice za zl zc) ∧ Blk u11 w1.heap.size 24 (pmC 0 0 (.slice none 0 0) (.slice none 0 0) (.slice none 0 0)) ∧ Below w.heap.size w u11 from ⟨hb, hs, HW.out.2.2.2.2.2.1.keep hc (fun e => HWG.out e), below_ch HW.out.2.2.2.2.1 hc (Nat.le_refl _) (fun k hk => by have e : k = u3.heap.size := hk; have := HW.out.2.2.2.1; omega)⟩)
            have HVN := Lib.hid (show Off w1.heap.size (.slice xa xl xc) (.slice ya yl yc) (.slice za zl zc) from ⟨fun k hk e => by have := hab.1 k hk; have := HSZ.out; omega, fun k hk e => by have := hab.2.1 k hk; have := HSZ.out; omega, fun k hk e => by have := hab.2.2 k hk; have := HSZ.out; omega⟩)
            have HAB := Lib.hid (hab.mono H3.out.2.size)
            clear hb hs hc hab
            by_cases h0 : r.1 = 0
            · have HRQ := Lib.hid (show R = (r.2, 0) from by rw [HRE.out, if_pos h0])
              rw [h0]
              clear h0
              go_wp2_with (first
    | (with_reducible refine wpList_load_any rfl 24 (.tmp 6) rfl u3.heap.size 0 rfl (pmC r.2.o r.2.e (.slice xa xl xc) (.slice ya yl yc) (.slice za zl zc)) _ (rangeW_blk HV.out.1) Try.underlying24 rfl (pmC_info _ _ _ _ _) ?_)
    | ((with_reducible refine wpList_store_blk u11 rfl 24 (.tmp 4) (.tmp 32) rfl w1.heap.size 24 (pmC 0 0 (.slice none 0 0) (.slice none 0 0) (.slice none 0 0)) ((pmC r.2.o r.2.e (.slice xa xl xc) (.slice ya yl yc) (.slice za zl zc))) HV.out.2.2.1 rfl rfl rfl (pmC_info _ _ _ _ _) (pmC_one _ _ _ _ _ _ _ _ _ _ _) ?_); intro w9 hb hc hs; have H9 := Lib.hid (show Blk w9 w1.heap.size 24 ((pmC r.2.o r.2.e (.slice xa xl xc) (.slice ya yl yc) (.slice za zl zc))) ∧ Ch (· = w1.heap.size) u11 w9 ∧ Below w.heap.size w w9 from ⟨hb, hc, below_ch HV.out.2.2.2 hc (Nat.le_refl _) (fun k hk => by have e : k = w1.heap.size := hk; have := H1.out.2.size; omega)⟩); clear hb hc hs))
              refine bodyPost_ret (results_cellTmp Try.results24 _ _ w1.heap.size _ _ rfl H9.out.1 _ Try.underlying24 rfl (pmC_info _ _ _ _ _) _ rfl) rfl ?_
              rw [HRQ.out]
              exact ⟨_, _, _, rfl, HV.out.2.1.ch H9.out.2.1 HVN.out, H9.out.2.2, HAB.out⟩
            · have HRQ := Lib.hid (show R = (noP, r.1) from by rw [HRE.out, if_neg h0])
              have hk1 : (r.1 == 0) = false := by simpa using h0
              have hk2 : (r.1 != 0) = true := by simpa using h0
              generalize r.1 = k at hk1 hk2 HRQ ⊢
              clear h0
              go_wp2_with (first
    | ((with_reducible refine wpList_build_zeroPm rfl rfl ?_))
    | ((with_reducible refine wpList_store_blk u11 rfl 24 (.tmp 4) (.tmp 30) rfl w1.heap.size 24 (pmC 0 0 (.slice none 0 0) (.slice none 0 0) (.slice none 0 0)) (pmC 0 0 (.slice none 0 0) (.slice none 0 0) (.slice none 0 0)) HV.out.2.2.1 rfl rfl rfl (pmC_info _ _ _ _ _) (pmC_one _ _ _ _ _ _ _ _ _ _ _) ?_); intro w9 hb hc hs; have H9 := Lib.hid (show Blk w9 w1.heap.size 24 (pmC 0 0 (.slice none 0 0) (.slice none 0 0) (.slice none 0 0)) ∧ Ch (· = w1.heap.size) u11 w9 ∧ Below w.heap.size w w9 from ⟨hb, hc, below_ch HV.out.2.2.2 hc (Nat.le_refl _) (fun k hk => by have e : k = w1.heap.size := hk; have := H1.out.2.size; omega)⟩); clear hb hc hs))
              refine bodyPost_ret (results_cellTmp Try.results24 _ _ w1.heap.size _ _ rfl H9.out.1 _ Try.underlying24 rfl (pmC_info _ _ _ _ _) _ rfl) rfl ?_
              rw [HRQ.out]
              exact ⟨_, _, _, rfl, PmS.nil _, H9.out.2.2, AbvS.nil _⟩
        · skip
          refine wpList_alloc_blk u2 rfl 24 rfl (pmC 0 0 (.slice none 0 0) (.slice none 0 0) (.slice none 0 0)) Try.zeroPm ?_
          intro u12 hb hbel hsz
          have HU12 := Lib.hid (show Blk u12 w.heap.size 24 (pmC o pe (.slice ra rl rc) (.slice qa ql qc) (.slice ga gl gc)) ∧ Blk u12 w1.heap.size 24 (pmC 0 0 (.slice none 0 0) (.slice none 0 0) (.slice none 0 0)) ∧ PmS u12 ⟨o, pe, pr, pq, pg⟩ (.slice ra rl rc) (.slice qa ql qc) (.slice ga gl gc) ∧ Below w.heap.size w u12 ∧ Below w3.heap.size w3 u12 ∧ u12.ownsRow u0.heap.size 3 1 (.slice ao1 rl cp1) rl (ofK .i64 pr) ∧ w3.heap.size ≤ u0.heap.size ∧ u12.ownsRow u1.heap.size 3 1 (.slice ao2 ql cp2) ql (ofK .i64 pq) ∧ w3.heap.size ≤ u1.heap.size ∧ Blk u12 u2.heap.size 24 (pmC 0 0 (.slice none 0 0) (.slice none 0 0) (.slice none 0 0)) ∧ w.heap.size ≤ u2.heap.size ∧ w1.heap.size < u2.heap.size ∧ w.heap.size < u2.heap.size ∧ (∀ k, (Value.slice ao1 rl cp1).ownBlock = some k → k ≠ u2.heap.size) ∧ (∀ k, (Value.slice ao2 ql cp2).ownBlock = some k → k ≠ u2.heap.size) from ⟨HU2.out.1.below hbel HU2.out.1.lt, HU2.out.2.1.below hbel HU2.out.2.1.lt, HU2.out.2.2.1.below hbel, below_thn HU2.out.2.2.2.1 hbel (Nat.le_refl _), below_thn HU2.out.2.2.2.2.1 hbel (Nat.le_refl _), own_ch HU2.out.2.2.2.2.2.1 (Ch.of_below (S := fun _ => False) hbel (Nat.le_refl _)) (fun _ _ h => h), HU2.out.2.2.2.2.2.2.1, own_ch HU2.out.2.2.2.2.2.2.2.1 (Ch.of_below (S := fun _ => False) hbel (Nat.le_refl _)) (fun _ _ h => h), HU2.out.2.2.2.2.2.2.2.2, hb, Nat.le_trans (Nat.le_refl _) HU2.out.2.2.2.1.size, HU2.out.2.1.lt, HU2.out.1.lt, fun k hk e => by have := (HU2.out.2.2.2.2.2.1.lt k hk).2; omega, fun k hk e => by have := (HU2.out.2.2.2.2.2.2.2.1.lt k hk).2; omega⟩)
          clear hb hbel hsz
          simp only [Act.put, List.setIfInBounds_toArray, List.set_cons_zero, List.set_cons_succ]
          refine QK.normal ⟨⟨HU12.out.1.cell 0, HU12.out.1.cell 1, HU12.out.1.cell 2, HU12.out.1.cell 3, HU12.out.1.cell 4⟩, ?_⟩
          refine' wpAnyH_one 12 (by kernel_rfl) ?_ ?_; rotate_left; (simp only [List.getElem?_toArray, List.getElem?_cons_zero, List.getElem?_cons_succ]; rfl)
          try simp only [Act.put]
          go_wp2_with fail
          refine (clone_any (.slice ga gl gc) pg u12 HU12.out.2.2.1.2.2 (by have := HP.out.2.2.2; simp only at this; omega)).mono ?_
          rintro e' u13 ⟨v13, rfl, hown, hb⟩
          obtain ⟨ao3, cp3, rfl⟩ := own_shape hown
          rw [HLN.out.2.2] at hown ⊢
          have HU13 := Lib.hid (show Blk u13 w.heap.size 24 (pmC o pe (.slice ra rl rc) (.slice qa ql qc) (.slice ga gl gc)) ∧ Blk u13 w1.heap.size 24 (pmC 0 0 (.slice none 0 0) (.slice none 0 0) (.slice none 0 0)) ∧ PmS u13 ⟨o, pe, pr, pq, pg⟩ (.slice ra rl rc) (.slice qa ql qc) (.slice ga gl gc) ∧ Below w.heap.size w u13 ∧ Below w3.heap.size w3 u13 ∧ u13.ownsRow u0.heap.size 3 1 (.slice ao1 rl cp1) rl (ofK .i64 pr) ∧ w3.heap.size ≤ u0.heap.size ∧ u13.ownsRow u1.heap.size 3 1 (.slice ao2 ql cp2) ql (ofK .i64 pq) ∧ w3.heap.size ≤ u1.heap.size ∧ Blk u13 u2.heap.size 24 (pmC 0 0 (.slice none 0 0) (.slice none 0 0) (.slice none 0 0)) ∧ w.heap.size ≤ u2.heap.size ∧ w1.heap.size < u2.heap.size ∧ w.heap.size < u2.heap.size ∧ (∀ k, (Value.slice ao1 rl cp1).ownBlock = some k → k ≠ u2.heap.size) ∧ (∀ k, (Value.slice ao2 ql cp2).ownBlock = some k → k ≠ u2.heap.size) ∧ u13.ownsRow u12.heap.size 3 1 (.slice ao3 gl cp3) gl (ofK .i64 pg) ∧ w3.heap.size ≤ u12.heap.size ∧ (∀ k, (Value.slice ao3 gl cp3).ownBlock = some k → k ≠ u2.heap.size) from ⟨HU12.out.1.below hb HU12.out.1.lt, HU12.out.2.1.below hb HU12.out.2.1.lt, HU12.out.2.2.1.below hb, below_thn HU12.out.2.2.2.1 hb (Nat.le_refl _), below_thn HU12.out.2.2.2.2.1 hb (Nat.le_refl _), own_ch HU12.out.2.2.2.2.2.1 (Ch.of_below (S := fun _ => False) hb (Nat.le_refl _)) (fun _ _ h => h), HU12.out.2.2.2.2.2.2.1, own_ch HU12.out.2.2.2.2.2.2.2.1 (Ch.of_below (S := fun _ => False) hb (Nat.le_refl _)) (fun _ _ h => h), HU12.out.2.2.2.2.2.2.2.2.1, HU12.out.2.2.2.2.2.2.2.2.2.1.below hb HU12.out.2.2.2.2.2.2.2.2.2.1.lt, HU12.out.2.2.2.2.2.2.2.2.2.2.1, HU12.out.2.2.2.2.2.2.2.2.2.2.2.1, HU12.out.2.2.2.2.2.2.2.2.2.2.2.2.1, HU12.out.2.2.2.2.2.2.2.2.2.2.2.2.2.1, HU12.out.2.2.2.2.2.2.2.2.2.2.2.2.2.2, hown, HU12.out.2.2.2.2.1.size, fun k hk e => by have := (hown.lt k hk).1; have := HU12.out.2.2.2.2.2.2.2.2.2.1.lt; omega⟩)
          clear hown hb
          go_wp2_with fail
          refine QK.normal ⟨⟨HU13.out.1.cell 0, HU13.out.1.cell 1, HU13.out.1.cell 2, HU13.out.1.cell 3, HU13.out.1.cell 4⟩, ?_⟩
          refine' wpAnyH_one 13 (by kernel_rfl) ?_ ?_; rotate_left; (simp only [List.getElem?_toArray, List.getElem?_cons_zero, List.getElem?_cons_succ]; rfl)
          refine wpList_build_pm rfl (.tmp 13) (.tmp 15) (.tmp 18) (.tmp 21) (.tmp 24) rfl o pe ao1 ao2 ao3 rl cp1 ql cp2 gl cp3 rfl rfl rfl rfl rfl ?_
          simp only [Act.put, List.setIfInBounds_toArray, List.set_cons_zero, List.set_cons_succ]
          refine QK.normal ⟨⟨HU13.out.1.cell 0, HU13.out.1.cell 1, HU13.out.1.cell 2, HU13.out.1.cell 3, HU13.out.1.cell 4⟩, ?_⟩
          refine' wpAnyH_one 15 (by kernel_rfl) ?_ ?_; rotate_left; (simp only [List.getElem?_toArray, List.getElem?_cons_zero, List.getElem?_cons_succ]; rfl)
          refine wpList_store_blk u13 rfl 24 (.tmp 6) (.tmp 25) rfl u2.heap.size 24 (pmC 0 0 (.slice none 0 0) (.slice none 0 0) (.slice none 0 0)) (pmC o pe (.slice ao1 rl cp1) (.slice ao2 ql cp2) (.slice ao3 gl cp3)) HU13.out.2.2.2.2.2.2.2.2.2.1 rfl rfl rfl (pmC_info _ _ _ _ _) (pmC_one _ _ _ _ _ _ _ _ _ _ _) ?_
          intro u15 hb hc hs
          have HW := Lib.hid (show Blk u15 u2.heap.size 24 (pmC o pe (.slice ao1 rl cp1) (.slice ao2 ql cp2) (.slice ao3 gl cp3)) ∧ PmS u15 ⟨o, pe, pr, pq, pg⟩ (.slice ao1 rl cp1) (.slice ao2 ql cp2) (.slice ao3 gl cp3) ∧ Off u2.heap.size (.slice ao1 rl cp1) (.slice ao2 ql cp2) (.slice ao3 gl cp3) ∧ w.heap.size ≤ u2.heap.size ∧ Below w.heap.size w u15 ∧ Blk u15 w1.heap.size 24 (pmC 0 0 (.slice none 0 0) (.slice none 0 0) (.slice none 0 0)) ∧ AbvS w3.heap.size (.slice ao1 rl cp1) (.slice ao2 ql cp2) (.slice ao3 gl cp3) ∧ w3.heap.size ≤ u15.heap.size from ⟨hb, ⟨Sl.of_owns (own_ch HU13.out.2.2.2.2.2.1 hc (fun k hk e => HU13.out.2.2.2.2.2.2.2.2.2.2.2.2.2.1 k hk e)), Sl.of_owns (own_ch HU13.out.2.2.2.2.2.2.2.1 hc (fun k hk e => HU13.out.2.2.2.2.2.2.2.2.2.2.2.2.2.2.1 k hk e)), Sl.of_owns (own_ch HU13.out.2.2.2.2.2.2.2.2.2.2.2.2.2.2.2.1 hc (fun k hk e => HU13.out.2.2.2.2.2.2.2.2.2.2.2.2.2.2.2.2.2 k hk e))⟩, ⟨HU13.out.2.2.2.2.2.2.2.2.2.2.2.2.2.1, HU13.out.2.2.2.2.2.2.2.2.2.2.2.2.2.2.1, HU13.out.2.2.2.2.2.2.2.2.2.2.2.2.2.2.2.2.2⟩, HU13.out.2.2.2.2.2.2.2.2.2.2.1, below_ch HU13.out.2.2.2.1 hc (Nat.le_refl _) (fun k hk => by have e : k = u2.heap.size := hk; have := HU13.out.2.2.2.2.2.2.2.2.2.2.1; omega), HU13.out.2.1.keep hc (fun e => by have e : w1.heap.size = u2.heap.size := e; have := HU13.out.2.2.2.2.2.2.2.2.2.2.2.1; omega), ⟨fun k hk => Nat.le_trans HU13.out.2.2.2.2.2.2.1 (HU13.out.2.2.2.2.2.1.lt k hk).1, fun k hk => Nat.le_trans HU13.out.2.2.2.2.2.2.2.2.1 (HU13.out.2.2.2.2.2.2.2.1.lt k hk).1, fun k hk => Nat.le_trans HU13.out.2.2.2.2.2.2.2.2.2.2.2.2.2.2.2.2.1 (HU13.out.2.2.2.2.2.2.2.2.2.2.2.2.2.2.2.1.lt k hk).1⟩, Nat.le_trans HU13.out.2.2.2.2.1.size hc.size⟩)
          have HWG := Lib.hid (show w1.heap.size ≠ u2.heap.size from by have := HU13.out.2.2.2.2.2.2.2.2.2.2.2.1; omega)
          have HK := Lib.hid (show u15.cell? ⟨w.heap.size, 0, none⟩ = some (.int .i64 o) ∧ u15.cell? ⟨w.heap.size, 1, none⟩ = some (.int .i64 pe) ∧ u15.cell? ⟨w.heap.size, 2, none⟩ = some (.slice ra rl rc) ∧ u15.cell? ⟨w.heap.size, 3, none⟩ = some (.slice qa ql qc) ∧ u15.cell? ⟨w.heap.size, 4, none⟩ = some (.slice ga gl gc) from by have hk := HU13.out.1.keep hc (fun e => by have e : w.heap.size = u2.heap.size := e; have := HU13.out.2.2.2.2.2.2.2.2.2.2.2.2.1; omega); exact ⟨hk.cell 0, hk.cell 1, hk.cell 2, hk.cell 3, hk.cell 4⟩)
          clear hb hc hs
          simp only [Act.put, List.setIfInBounds_toArray, List.set_cons_zero, List.set_cons_succ]
          refine QK.normal ⟨HK.out, ?_⟩
          clear HK
          refine wpAnyH_done (by kernel_rfl) ?_ _
          refine NoPanic.normal ?_
          go_wp2_with fail
          refine (HS.out HB.out u15 u2.heap.size w3.heap.size _ _ _ HW.out.2.2.2.2.1 HW.out.2.2.2.1 HW.out.2.2.2.2.2.2.2 HW.out.2.2.2.2.2.2.1 HW.out.1 HW.out.2.1 HW.out.2.2.1).mono ?_
          rintro e u16 ⟨rfl, xr, xq, xg, hb, hs, hc, hab⟩
          obtain ⟨xa, xc, rfl, -⟩ := hs.1.shape
          obtain ⟨ya, yc, rfl, -⟩ := hs.2.1.shape
          obtain ⟨za, zc, rfl, -⟩ := hs.2.2.shape
          generalize (ofK .i64 r.2.r).length = xl at hb hs hab
          generalize (ofK .i64 r.2.q).length = yl at hb hs hab
          generalize (ofK .i64 r.2.g).length = zl at hb hs hab
          have HV := Lib.hid (show Blk u16 u2.heap.size 24 (pmC r.2.o r.2.e (.slice xa xl xc) (.slice ya yl yc) (.slice za zl zc)) ∧ PmS u16 r.2 (.slice xa xl xc) (.slice ya yl yc) (.slice za zl zc) ∧ Blk u16 w1.heap.size 24 (pmC 0 0 (.slice none 0 0) (.slice none 0 0) (.slice none 0 0)) ∧ Below w.heap.size w u16 from ⟨hb, hs, HW.out.2.2.2.2.2.1.keep hc (fun e => HWG.out e), below_ch HW.out.2.2.2.2.1 hc (Nat.le_refl _) (fun k hk => by have e : k = u2.heap.size := hk; have := HW.out.2.2.2.1; omega)⟩)
          have HVN := Lib.hid (show Off w1.heap.size (.slice xa xl xc) (.slice ya yl yc) (.slice za zl zc) from ⟨fun k hk e => by have := hab.1 k hk; have := HSZ.out; omega, fun k hk e => by have := hab.2.1 k hk; have := HSZ.out; omega, fun k hk e => by have := hab.2.2 k hk; have := HSZ.out; omega⟩)
          have HAB := Lib.hid (hab.mono H3.out.2.size)
          clear hb hs hc hab
          by_cases h0 : r.1 = 0
          · have HRQ := Lib.hid (show R = (r.2, 0) from by rw [HRE.out, if_pos h0])
            rw [h0]
            clear h0
            go_wp2_with (first
    | (with_reducible refine wpList_load_any rfl 24 (.tmp 6) rfl u2.heap.size 0 rfl (pmC r.2.o r.2.e (.slice xa xl xc) (.slice ya yl yc) (.slice za zl zc)) _ (rangeW_blk HV.out.1) Try.underlying24 rfl (pmC_info _ _ _ _ _) ?_)
    | ((with_reducible refine wpList_store_blk u16 rfl 24 (.tmp 4) (.tmp 32) rfl w1.heap.size 24 (pmC 0 0 (.slice none 0 0) (.slice none 0 0) (.slice none 0 0)) ((pmC r.2.o r.2.e (.slice xa xl xc) (.slice ya yl yc) (.slice za zl zc))) HV.out.2.2.1 rfl rfl rfl (pmC_info _ _ _ _ _) (pmC_one _ _ _ _ _ _ _ _ _ _ _) ?_); intro w9 hb hc hs; have H9 := Lib.hid (show Blk w9 w1.heap.size 24 ((pmC r.2.o r.2.e (.slice xa xl xc) (.slice ya yl yc) (.slice za zl zc))) ∧ Ch (· = w1.heap.size) u16 w9 ∧ Below w.heap.size w w9 from ⟨hb, hc, below_ch HV.out.2.2.2 hc (Nat.le_refl _) (fun k hk => by have e : k = w1.heap.size := hk; have := H1.out.2.size; omega)⟩); clear hb hc hs))
            refine bodyPost_ret (results_cellTmp Try.results24 _ _ w1.heap.size _ _ rfl H9.out.1 _ Try.underlying24 rfl (pmC_info _ _ _ _ _) _ rfl) rfl ?_
            rw [HRQ.out]
            exact ⟨_, _, _, rfl, HV.out.2.1.ch H9.out.2.1 HVN.out, H9.out.2.2, HAB.out⟩
          · have HRQ := Lib.hid (show R = (noP, r.1) from by rw [HRE.out, if_neg h0])
            have hk1 : (r.1 == 0) = false := by simpa using h0
            have hk2 : (r.1 != 0) = true := by simpa using h0
            generalize r.1 = k at hk1 hk2 HRQ ⊢
            clear h0
            go_wp2_with (first
    | ((with_reducible refine wpList_build_zeroPm rfl rfl ?_))
    | ((with_reducible refine wpList_store_blk u16 rfl 24 (.tmp 4) (.tmp 30) rfl w1.heap.size 24 (pmC 0 0 (.slice none 0 0) (.slice none 0 0) (.slice none 0 0)) (pmC 0 0 (.slice none 0 0) (.slice none 0 0) (.slice none 0 0)) HV.out.2.2.1 rfl rfl rfl (pmC_info _ _ _ _ _) (pmC_one _ _ _ _ _ _ _ _ _ _ _) ?_); intro w9 hb hc hs; have H9 := Lib.hid (show Blk w9 w1.heap.size 24 (pmC 0 0 (.slice none 0 0) (.slice none 0 0) (.slice none 0 0)) ∧ Ch (· = w1.heap.size) u16 w9 ∧ Below w.heap.size w w9 from ⟨hb, hc, below_ch HV.out.2.2.2 hc (Nat.le_refl _) (fun k hk => by have e : k = w1.heap.size := hk; have := H1.out.2.size; omega)⟩); clear hb hc hs))
            refine bodyPost_ret (results_cellTmp Try.results24 _ _ w1.heap.size _ _ rfl H9.out.1 _ Try.underlying24 rfl (pmC_info _ _ _ _ _) _ rfl) rfl ?_
            rw [HRQ.out]
            exact ⟨_, _, _, rfl, PmS.nil _, H9.out.2.2, AbvS.nil _⟩
      · skip
        refine wpList_alloc_blk u1 rfl 24 rfl (pmC 0 0 (.slice none 0 0) (.slice none 0 0) (.slice none 0 0)) Try.zeroPm ?_
        intro u17 hb hbel hsz
        have HU17 := Lib.hid (show Blk u17 w.heap.size 24 (pmC o pe (.slice ra rl rc) (.slice qa ql qc) (.slice ga gl gc)) ∧ Blk u17 w1.heap.size 24 (pmC 0 0 (.slice none 0 0) (.slice none 0 0) (.slice none 0 0)) ∧ PmS u17 ⟨o, pe, pr, pq, pg⟩ (.slice ra rl rc) (.slice qa ql qc) (.slice ga gl gc) ∧ Below w.heap.size w u17 ∧ Below w3.heap.size w3 u17 ∧ u17.ownsRow u0.heap.size 3 1 (.slice ao1 rl cp1) rl (ofK .i64 pr) ∧ w3.heap.size ≤ u0.heap.size ∧ Blk u17 u1.heap.size 24 (pmC 0 0 (.slice none 0 0) (.slice none 0 0) (.slice none 0 0)) ∧ w.heap.size ≤ u1.heap.size ∧ w1.heap.size < u1.heap.size ∧ w.heap.size < u1.heap.size ∧ (∀ k, (Value.slice ao1 rl cp1).ownBlock = some k → k ≠ u1.heap.size) from ⟨HU1.out.1.below hbel HU1.out.1.lt, HU1.out.2.1.below hbel HU1.out.2.1.lt, HU1.out.2.2.1.below hbel, below_thn HU1.out.2.2.2.1 hbel (Nat.le_refl _), below_thn HU1.out.2.2.2.2.1 hbel (Nat.le_refl _), own_ch HU1.out.2.2.2.2.2.1 (Ch.of_below (S := fun _ => False) hbel (Nat.le_refl _)) (fun _ _ h => h), HU1.out.2.2.2.2.2.2, hb, Nat.le_trans (Nat.le_refl _) HU1.out.2.2.2.1.size, HU1.out.2.1.lt, HU1.out.1.lt, fun k hk e => by have := (HU1.out.2.2.2.2.2.1.lt k hk).2; omega⟩)
        clear hb hbel hsz
        simp only [Act.put, List.setIfInBounds_toArray, List.set_cons_zero, List.set_cons_succ]
        refine QK.normal ⟨⟨HU17.out.1.cell 0, HU17.out.1.cell 1, HU17.out.1.cell 2, HU17.out.1.cell 3, HU17.out.1.cell 4⟩, ?_⟩
        refine' wpAnyH_one 9 (by kernel_rfl) ?_ ?_; rotate_left; (simp only [List.getElem?_toArray, List.getElem?_cons_zero, List.getElem?_cons_succ]; rfl)
        try simp only [Act.put]
        go_wp2_with fail
        refine (clone_any (.slice qa ql qc) pq u17 HU17.out.2.2.1.2.1 (by have := HP.out.2.2.1; simp only at this; omega)).mono ?_
        rintro e' u18 ⟨v18, rfl, hown, hb⟩
        obtain ⟨ao2, cp2, rfl⟩ := own_shape hown
        rw [HLN.out.2.1] at hown ⊢
        have HU18 := Lib.hid (show Blk u18 w.heap.size 24 (pmC o pe (.slice ra rl rc) (.slice qa ql qc) (.slice ga gl gc)) ∧ Blk u18 w1.heap.size 24 (pmC 0 0 (.slice none 0 0) (.slice none 0 0) (.slice none 0 0)) ∧ PmS u18 ⟨o, pe, pr, pq, pg⟩ (.slice ra rl rc) (.slice qa ql qc) (.slice ga gl gc) ∧ Below w.heap.size w u18 ∧ Below w3.heap.size w3 u18 ∧ u18.ownsRow u0.heap.size 3 1 (.slice ao1 rl cp1) rl (ofK .i64 pr) ∧ w3.heap.size ≤ u0.heap.size ∧ Blk u18 u1.heap.size 24 (pmC 0 0 (.slice none 0 0) (.slice none 0 0) (.slice none 0 0)) ∧ w.heap.size ≤ u1.heap.size ∧ w1.heap.size < u1.heap.size ∧ w.heap.size < u1.heap.size ∧ (∀ k, (Value.slice ao1 rl cp1).ownBlock = some k → k ≠ u1.heap.size) ∧ u18.ownsRow u17.heap.size 3 1 (.slice ao2 ql cp2) ql (ofK .i64 pq) ∧ w3.heap.size ≤ u17.heap.size ∧ (∀ k, (Value.slice ao2 ql cp2).ownBlock = some k → k ≠ u1.heap.size) from ⟨HU17.out.1.below hb HU17.out.1.lt, HU17.out.2.1.below hb HU17.out.2.1.lt, HU17.out.2.2.1.below hb, below_thn HU17.out.2.2.2.1 hb (Nat.le_refl _), below_thn HU17.out.2.2.2.2.1 hb (Nat.le_refl _), own_ch HU17.out.2.2.2.2.2.1 (Ch.of_below (S := fun _ => False) hb (Nat.le_refl _)) (fun _ _ h => h), HU17.out.2.2.2.2.2.2.1, HU17.out.2.2.2.2.2.2.2.1.below hb HU17.out.2.2.2.2.2.2.2.1.lt, HU17.out.2.2.2.2.2.2.2.2.1, HU17.out.2.2.2.2.2.2.2.2.2.1, HU17.out.2.2.2.2.2.2.2.2.2.2.1, HU17.out.2.2.2.2.2.2.2.2.2.2.2, hown, HU17.out.2.2.2.2.1.size, fun k hk e => by have := (hown.lt k hk).1; have := HU17.out.2.2.2.2.2.2.2.1.lt; omega⟩)
        clear hown hb
        go_wp2_with fail
        refine QK.normal ⟨⟨HU18.out.1.cell 0, HU18.out.1.cell 1, HU18.out.1.cell 2, HU18.out.1.cell 3, HU18.out.1.cell 4⟩, ?_⟩
        refine' wpAnyH_one 12 (by kernel_rfl) ?_ ?_; rotate_left; (simp only [List.getElem?_toArray, List.getElem?_cons_zero, List.getElem?_cons_succ]; rfl)
        try simp only [Act.put]
        go_wp2_with fail
        refine (clone_any (.slice ga gl gc) pg u18 HU18.out.2.2.1.2.2 (by have := HP.out.2.2.2; simp only at this; omega)).mono ?_
        rintro e' u19 ⟨v19, rfl, hown, hb⟩
        obtain ⟨ao3, cp3, rfl⟩ := own_shape hown
        rw [HLN.out.2.2] at hown ⊢
        have HU19 := Lib.hid (show Blk u19 w.heap.size 24 (pmC o pe (.slice ra rl rc) (.slice qa ql qc) (.slice ga gl gc)) ∧ Blk u19 w1.heap.size 24 (pmC 0 0 (.slice none 0 0) (.slice none 0 0) (.slice none 0 0)) ∧ PmS u19 ⟨o, pe, pr, pq, pg⟩ (.slice ra rl rc) (.slice qa ql qc) (.slice ga gl gc) ∧ Below w.heap.size w u19 ∧ Below w3.heap.size w3 u19 ∧ u19.ownsRow u0.heap.size 3 1 (.slice ao1 rl cp1) rl (ofK .i64 pr) ∧ w3.heap.size ≤ u0.heap.size ∧ Blk u19 u1.heap.size 24 (pmC 0 0 (.slice none 0 0) (.slice none 0 0) (.slice none 0 0)) ∧ w.heap.size ≤ u1.heap.size ∧ w1.heap.size < u1.heap.size ∧ w.heap.size < u1.heap.size ∧ (∀ k, (Value.slice ao1 rl cp1).ownBlock = some k → k ≠ u1.heap.size) ∧ u19.ownsRow u17.heap.size 3 1 (.slice ao2 ql cp2) ql (ofK .i64 pq) ∧ w3.heap.size ≤ u17.heap.size ∧ (∀ k, (Value.slice ao2 ql cp2).ownBlock = some k → k ≠ u1.heap.size) ∧ u19.ownsRow u18.heap.size 3 1 (.slice ao3 gl cp3) gl (ofK .i64 pg) ∧ w3.heap.size ≤ u18.heap.size ∧ (∀ k, (Value.slice ao3 gl cp3).ownBlock = some k → k ≠ u1.heap.size) from ⟨HU18.out.1.below hb HU18.out.1.lt, HU18.out.2.1.below hb HU18.out.2.1.lt, HU18.out.2.2.1.below hb, below_thn HU18.out.2.2.2.1 hb (Nat.le_refl _), below_thn HU18.out.2.2.2.2.1 hb (Nat.le_refl _), own_ch HU18.out.2.2.2.2.2.1 (Ch.of_below (S := fun _ => False) hb (Nat.le_refl _)) (fun _ _ h => h), HU18.out.2.2.2.2.2.2.1, HU18.out.2.2.2.2.2.2.2.1.below hb HU18.out.2.2.2.2.2.2.2.1.lt, HU18.out.2.2.2.2.2.2.2.2.1, HU18.out.2.2.2.2.2.2.2.2.2.1, HU18.out.2.2.2.2.2.2.2.2.2.2.1, HU18.out.2.2.2.2.2.2.2.2.2.2.2.1, own_ch HU18.out.2.2.2.2.2.2.2.2.2.2.2.2.1 (Ch.of_below (S := fun _ => False) hb (Nat.le_refl _)) (fun _ _ h => h), HU18.out.2.2.2.2.2.2.2.2.2.2.2.2.2.1, HU18.out.2.2.2.2.2.2.2.2.2.2.2.2.2.2, hown, HU18.out.2.2.2.2.1.size, fun k hk e => by have := (hown.lt k hk).1; have := HU18.out.2.2.2.2.2.2.2.1.lt; omega⟩)
        clear hown hb
        go_wp2_with fail
        refine QK.normal ⟨⟨HU19.out.1.cell 0, HU19.out.1.cell 1, HU19.out.1.cell 2, HU19.out.1.cell 3, HU19.out.1.cell 4⟩, ?_⟩
        refine' wpAnyH_one 13 (by kernel_rfl) ?_ ?_; rotate_left; (simp only [List.getElem?_toArray, List.getElem?_cons_zero, List.getElem?_cons_succ]; rfl)
        refine wpList_build_pm rfl (.tmp 13) (.tmp 15) (.tmp 18) (.tmp 21) (.tmp 24) rfl o pe ao1 ao2 ao3 rl cp1 ql cp2 gl cp3 rfl rfl rfl rfl rfl ?_
        simp only [Act.put, List.setIfInBounds_toArray, List.set_cons_zero, List.set_cons_succ]
        refine QK.normal ⟨⟨HU19.out.1.cell 0, HU19.out.1.cell 1, HU19.out.1.cell 2, HU19.out.1.cell 3, HU19.out.1.cell 4⟩, ?_⟩
        refine' wpAnyH_one 15 (by kernel_rfl) ?_ ?_; rotate_left; (simp only [List.getElem?_toArray, List.getElem?_cons_zero, List.getElem?_cons_succ]; rfl)
        refine wpList_store_blk u19 rfl 24 (.tmp 6) (.tmp 25) rfl u1.heap.size 24 (pmC 0 0 (.slice none 0 0) (.slice none 0 0) (.slice none 0 0)) (pmC o pe (.slice ao1 rl cp1) (.slice ao2 ql cp2) (.slice ao3 gl cp3)) HU19.out.2.2.2.2.2.2.2.1 rfl rfl rfl (pmC_info _ _ _ _ _) (pmC_one _ _ _ _ _ _ _ _ _ _ _) ?_
        intro u21 hb hc hs
        have HW := Lib.hid (show Blk u21 u1.heap.size 24 (pmC o pe (.slice ao1 rl cp1) (.slice ao2 ql cp2) (.slice ao3 gl cp3)) ∧ PmS u21 ⟨o, pe, pr, pq, pg⟩ (.slice ao1 rl cp1) (.slice ao2 ql cp2) (.slice ao3 gl cp3) ∧ Off u1.heap.size (.slice ao1 rl cp1) (.slice ao2 ql cp2) (.slice ao3 gl cp3) ∧ w.heap.size ≤ u1.heap.size ∧ Below w.heap.size w u21 ∧ Blk u21 w1.heap.size 24 (pmC 0 0 (.slice none 0 0) (.slice none 0 0) (.slice none 0 0)) ∧ AbvS w3.heap.size (.slice ao1 rl cp1) (.slice ao2 ql cp2) (.slice ao3 gl cp3) ∧ w3.heap.size ≤ u21.heap.size from ⟨hb, ⟨Sl.of_owns (own_ch HU19.out.2.2.2.2.2.1 hc (fun k hk e => HU19.out.2.2.2.2.2.2.2.2.2.2.2.1 k hk e)), Sl.of_owns (own_ch HU19.out.2.2.2.2.2.2.2.2.2.2.2.2.1 hc (fun k hk e => HU19.out.2.2.2.2.2.2.2.2.2.2.2.2.2.2.1 k hk e)), Sl.of_owns (own_ch HU19.out.2.2.2.2.2.2.2.2.2.2.2.2.2.2.2.1 hc (fun k hk e => HU19.out.2.2.2.2.2.2.2.2.2.2.2.2.2.2.2.2.2 k hk e))⟩, ⟨HU19.out.2.2.2.2.2.2.2.2.2.2.2.1, HU19.out.2.2.2.2.2.2.2.2.2.2.2.2.2.2.1, HU19.out.2.2.2.2.2.2.2.2.2.2.2.2.2.2.2.2.2⟩, HU19.out.2.2.2.2.2.2.2.2.1, below_ch HU19.out.2.2.2.1 hc (Nat.le_refl _) (fun k hk => by have e : k = u1.heap.size := hk; have := HU19.out.2.2.2.2.2.2.2.2.1; omega), HU19.out.2.1.keep hc (fun e => by have e : w1.heap.size = u1.heap.size := e; have := HU19.out.2.2.2.2.2.2.2.2.2.1; omega), ⟨fun k hk => Nat.le_trans HU19.out.2.2.2.2.2.2.1 (HU19.out.2.2.2.2.2.1.lt k hk).1, fun k hk => Nat.le_trans HU19.out.2.2.2.2.2.2.2.2.2.2.2.2.2.1 (HU19.out.2.2.2.2.2.2.2.2.2.2.2.2.1.lt k hk).1, fun k hk => Nat.le_trans HU19.out.2.2.2.2.2.2.2.2.2.2.2.2.2.2.2.2.1 (HU19.out.2.2.2.2.2.2.2.2.2.2.2.2.2.2.2.1.lt k hk).1⟩, Nat.le_trans HU19.out.2.2.2.2.1.size hc.size⟩)
        have HWG := Lib.hid (show w1.heap.size ≠ u1.heap.size from by have := HU19.out.2.2.2.2.2.2.2.2.2.1; omega)
        have HK := Lib.hid (show u21.cell? ⟨w.heap.size, 0, none⟩ = some (.int .i64 o) ∧ u21.cell? ⟨w.heap.size, 1, none⟩ = some (.int .i64 pe) ∧ u21.cell? ⟨w.heap.size, 2, none⟩ = some (.slice ra rl rc) ∧ u21.cell? ⟨w.heap.size, 3, none⟩ = some (.slice qa ql qc) ∧ u21.cell? ⟨w.heap.size, 4, none⟩ = some (.slice ga gl gc) from by have hk := HU19.out.1.keep hc (fun e => by have e : w.heap.size = u1.heap.size := e; have := HU19.out.2.2.2.2.2.2.2.2.2.2.1; omega); exact ⟨hk.cell 0, hk.cell 1, hk.cell 2, hk.cell 3, hk.cell 4⟩)
        clear hb hc hs
        simp only [Act.put, List.setIfInBounds_toArray, List.set_cons_zero, List.set_cons_succ]
        refine QK.normal ⟨HK.out, ?_⟩
        clear HK
        refine wpAnyH_done (by kernel_rfl) ?_ _
        refine NoPanic.normal ?_
        go_wp2_with fail
        refine (HS.out HB.out u21 u1.heap.size w3.heap.size _ _ _ HW.out.2.2.2.2.1 HW.out.2.2.2.1 HW.out.2.2.2.2.2.2.2 HW.out.2.2.2.2.2.2.1 HW.out.1 HW.out.2.1 HW.out.2.2.1).mono ?_
        rintro e u22 ⟨rfl, xr, xq, xg, hb, hs, hc, hab⟩
        obtain ⟨xa, xc, rfl, -⟩ := hs.1.shape
        obtain ⟨ya, yc, rfl, -⟩ := hs.2.1.shape
        obtain ⟨za, zc, rfl, -⟩ := hs.2.2.shape
        generalize (ofK .i64 r.2.r).length = xl at hb hs hab
        generalize (ofK .i64 r.2.q).length = yl at hb hs hab
        generalize (ofK .i64 r.2.g).length = zl at hb hs hab
        have HV := Lib.hid (show Blk u22 u1.heap.size 24 (pmC r.2.o r.2.e (.slice xa xl xc) (.slice ya yl yc) (.slice za zl zc)) ∧ PmS u22 r.2 (.slice xa xl xc) (.slice ya yl yc) (.slice za zl zc) ∧ Blk u22 w1.heap.size 24 (pmC 0 0 (.slice none 0 0) (.slice none 0 0) (.slice none 0 0)) ∧ Below w.heap.size w u22 from ⟨hb, hs, HW.out.2.2.2.2.2.1.keep hc (fun e => HWG.out e), below_ch HW.out.2.2.2.2.1 hc (Nat.le_refl _) (fun k hk => by have e : k = u1.heap.size := hk; have := HW.out.2.2.2.1; omega)⟩)
        have HVN := Lib.hid (show Off w1.heap.size (.slice xa xl xc) (.slice ya yl yc) (.slice za zl zc) from ⟨fun k hk e => by have := hab.1 k hk; have := HSZ.out; omega, fun k hk e => by have := hab.2.1 k hk; have := HSZ.out; omega, fun k hk e => by have := hab.2.2 k hk; have := HSZ.out; omega⟩)
        have HAB := Lib.hid (hab.mono H3.out.2.size)
        clear hb hs hc hab
        by_cases h0 : r.1 = 0
        · have HRQ := Lib.hid (show R = (r.2, 0) from by rw [HRE.out, if_pos h0])
          rw [h0]
          clear h0
          go_wp2_with (first
    | (with_reducible refine wpList_load_any rfl 24 (.tmp 6) rfl u1.heap.size 0 rfl (pmC r.2.o r.2.e (.slice xa xl xc) (.slice ya yl yc) (.slice za zl zc)) _ (rangeW_blk HV.out.1) Try.underlying24 rfl (pmC_info _ _ _ _ _) ?_)
    | ((with_reducible refine wpList_store_blk u22 rfl 24 (.tmp 4) (.tmp 32) rfl w1.heap.size 24 (pmC 0 0 (.slice none 0 0) (.slice none 0 0) (.slice none 0 0)) ((pmC r.2.o r.2.e (.slice xa xl xc) (.slice ya yl yc) (.slice za zl zc))) HV.out.2.2.1 rfl rfl rfl (pmC_info _ _ _ _ _) (pmC_one _ _ _ _ _ _ _ _ _ _ _) ?_); intro w9 hb hc hs; have H9 := Lib.hid (show Blk w9 w1.heap.size 24 ((pmC r.2.o r.2.e (.slice xa xl xc) (.slice ya yl yc) (.slice za zl zc))) ∧ Ch (· = w1.heap.size) u22 w9 ∧ Below w.heap.size w w9 from ⟨hb, hc, below_ch HV.out.2.2.2 hc (Nat.le_refl _) (fun k hk => by have e : k = w1.heap.size := hk; have := H1.out.2.size; omega)⟩); clear hb hc hs))
          refine bodyPost_ret (results_cellTmp Try.results24 _ _ w1.heap.size _ _ rfl H9.out.1 _ Try.underlying24 rfl (pmC_info _ _ _ _ _) _ rfl) rfl ?_
          rw [HRQ.out]
          exact ⟨_, _, _, rfl, HV.out.2.1.ch H9.out.2.1 HVN.out, H9.out.2.2, HAB.out⟩
        · have HRQ := Lib.hid (show R = (noP, r.1) from by rw [HRE.out, if_neg h0])
          have hk1 : (r.1 == 0) = false := by simpa using h0
          have hk2 : (r.1 != 0) = true := by simpa using h0
          generalize r.1 = k at hk1 hk2 HRQ ⊢
          clear h0
          go_wp2_with (first
    | ((with_reducible refine wpList_build_zeroPm rfl rfl ?_))
    | ((with_reducible refine wpList_store_blk u22 rfl 24 (.tmp 4) (.tmp 30) rfl w1.heap.size 24 (pmC 0 0 (.slice none 0 0) (.slice none 0 0) (.slice none 0 0)) (pmC 0 0 (.slice none 0 0) (.slice none 0 0) (.slice none 0 0)) HV.out.2.2.1 rfl rfl rfl (pmC_info _ _ _ _ _) (pmC_one _ _ _ _ _ _ _ _ _ _ _) ?_); intro w9 hb hc hs; have H9 := Lib.hid (show Blk w9 w1.heap.size 24 (pmC 0 0 (.slice none 0 0) (.slice none 0 0) (.slice none 0 0)) ∧ Ch (· = w1.heap.size) u22 w9 ∧ Below w.heap.size w w9 from ⟨hb, hc, below_ch HV.out.2.2.2 hc (Nat.le_refl _) (fun k hk => by have e : k = w1.heap.size := hk; have := H1.out.2.size; omega)⟩); clear hb hc hs))
          refine bodyPost_ret (results_cellTmp Try.results24 _ _ w1.heap.size _ _ rfl H9.out.1 _ Try.underlying24 rfl (pmC_info _ _ _ _ _) _ rfl) rfl ?_
          rw [HRQ.out]
          exact ⟨_, _, _, rfl, PmS.nil _, H9.out.2.2, AbvS.nil _⟩
    · skip
      refine wpList_alloc_blk u0 rfl 24 rfl (pmC 0 0 (.slice none 0 0) (.slice none 0 0) (.slice none 0 0)) Try.zeroPm ?_
      intro u23 hb hbel hsz
      have HU23 := Lib.hid (show Blk u23 w.heap.size 24 (pmC o pe (.slice ra rl rc) (.slice qa ql qc) (.slice ga gl gc)) ∧ Blk u23 w1.heap.size 24 (pmC 0 0 (.slice none 0 0) (.slice none 0 0) (.slice none 0 0)) ∧ PmS u23 ⟨o, pe, pr, pq, pg⟩ (.slice ra rl rc) (.slice qa ql qc) (.slice ga gl gc) ∧ Below w.heap.size w u23 ∧ Below w3.heap.size w3 u23 ∧ Blk u23 u0.heap.size 24 (pmC 0 0 (.slice none 0 0) (.slice none 0 0) (.slice none 0 0)) ∧ w.heap.size ≤ u0.heap.size ∧ w1.heap.size < u0.heap.size ∧ w.heap.size < u0.heap.size from ⟨H4a.out.1.below hbel H4a.out.1.lt, H4a.out.2.1.below hbel H4a.out.2.1.lt, H4a.out.2.2.1.below hbel, below_thn H4a.out.2.2.2.1 hbel (Nat.le_refl _), below_thn H4a.out.2.2.2.2 hbel (Nat.le_refl _), hb, Nat.le_trans (Nat.le_refl _) H4a.out.2.2.2.1.size, H4a.out.2.1.lt, H4a.out.1.lt⟩)
      clear hb hbel hsz
      simp only [Act.put, List.setIfInBounds_toArray, List.set_cons_zero, List.set_cons_succ]
      refine QK.normal ⟨⟨HU23.out.1.cell 0, HU23.out.1.cell 1, HU23.out.1.cell 2, HU23.out.1.cell 3, HU23.out.1.cell 4⟩, ?_⟩
      refine' wpAnyH_one 6 (by kernel_rfl) ?_ ?_; rotate_left; (simp only [List.getElem?_toArray, List.getElem?_cons_zero, List.getElem?_cons_succ]; rfl)
      try simp only [Act.put]
      go_wp2_with fail
      refine (clone_any (.slice ra rl rc) pr u23 HU23.out.2.2.1.1 (by have := HP.out.2.1; simp only at this; omega)).mono ?_
      rintro e' u24 ⟨v24, rfl, hown, hb⟩
      obtain ⟨ao1, cp1, rfl⟩ := own_shape hown
      rw [HLN.out.1] at hown ⊢
      have HU24 := Lib.hid (show Blk u24 w.heap.size 24 (pmC o pe (.slice ra rl rc) (.slice qa ql qc) (.slice ga gl gc)) ∧ Blk u24 w1.heap.size 24 (pmC 0 0 (.slice none 0 0) (.slice none 0 0) (.slice none 0 0)) ∧ PmS u24 ⟨o, pe, pr, pq, pg⟩ (.slice ra rl rc) (.slice qa ql qc) (.slice ga gl gc) ∧ Below w.heap.size w u24 ∧ Below w3.heap.size w3 u24 ∧ Blk u24 u0.heap.size 24 (pmC 0 0 (.slice none 0 0) (.slice none 0 0) (.slice none 0 0)) ∧ w.heap.size ≤ u0.heap.size ∧ w1.heap.size < u0.heap.size ∧ w.heap.size < u0.heap.size ∧ u24.ownsRow u23.heap.size 3 1 (.slice ao1 rl cp1) rl (ofK .i64 pr) ∧ w3.heap.size ≤ u23.heap.size ∧ (∀ k, (Value.slice ao1 rl cp1).ownBlock = some k → k ≠ u0.heap.size) from ⟨HU23.out.1.below hb HU23.out.1.lt, HU23.out.2.1.below hb HU23.out.2.1.lt, HU23.out.2.2.1.below hb, below_thn HU23.out.2.2.2.1 hb (Nat.le_refl _), below_thn HU23.out.2.2.2.2.1 hb (Nat.le_refl _), HU23.out.2.2.2.2.2.1.below hb HU23.out.2.2.2.2.2.1.lt, HU23.out.2.2.2.2.2.2.1, HU23.out.2.2.2.2.2.2.2.1, HU23.out.2.2.2.2.2.2.2.2, hown, HU23.out.2.2.2.2.1.size, fun k hk e => by have := (hown.lt k hk).1; have := HU23.out.2.2.2.2.2.1.lt; omega⟩)
      clear hown hb
      go_wp2_with fail
      refine QK.normal ⟨⟨HU24.out.1.cell 0, HU24.out.1.cell 1, HU24.out.1.cell 2, HU24.out.1.cell 3, HU24.out.1.cell 4⟩, ?_⟩
      refine' wpAnyH_one 9 (by kernel_rfl) ?_ ?_; rotate_left; (simp only [List.getElem?_toArray, List.getElem?_cons_zero, List.getElem?_cons_succ]; rfl)
      try simp only [Act.put]
      go_wp2_with fail
      refine (clone_any (.slice qa ql qc) pq u24 HU24.out.2.2.1.2.1 (by have := HP.out.2.2.1; simp only at this; omega)).mono ?_
      rintro e' u25 ⟨v25, rfl, hown, hb⟩
      obtain ⟨ao2, cp2, rfl⟩ := own_shape hown
      rw [HLN.out.2.1] at hown ⊢
      have HU25 := Lib.hid (show Blk u25 w.heap.size 24 (pmC o pe (.slice ra rl rc) (.slice qa ql qc) (.slice ga gl gc)) ∧ Blk u25 w1.heap.size 24 (pmC 0 0 (.slice none 0 0) (.slice none 0 0) (.slice none 0 0)) ∧ PmS u25 ⟨o, pe, pr, pq, pg⟩ (.slice ra rl rc) (.slice qa ql qc) (.slice ga gl gc) ∧ Below w.heap.size w u25 ∧ Below w3.heap.size w3 u25 ∧ Blk u25 u0.heap.size 24 (pmC 0 0 (.slice none 0 0) (.slice none 0 0) (.slice none 0 0)) ∧ w.heap.size ≤ u0.heap.size ∧ w1.heap.size < u0.heap.size ∧ w.heap.size < u0.heap.size ∧ u25.ownsRow u23.heap.size 3 1 (.slice ao1 rl cp1) rl (ofK .i64 pr) ∧ w3.heap.size ≤ u23.heap.size ∧ (∀ k, (Value.slice ao1 rl cp1).ownBlock = some k → k ≠ u0.heap.size) ∧ u25.ownsRow u24.heap.size 3 1 (.slice ao2 ql cp2) ql (ofK .i64 pq) ∧ w3.heap.size ≤ u24.heap.size ∧ (∀ k, (Value.slice ao2 ql cp2).ownBlock = some k → k ≠ u0.heap.size) from ⟨HU24.out.1.below hb HU24.out.1.lt, HU24.out.2.1.below hb HU24.out.2.1.lt, HU24.out.2.2.1.below hb, below_thn HU24.out.2.2.2.1 hb (Nat.le_refl _), below_thn HU24.out.2.2.2.2.1 hb (Nat.le_refl _), HU24.out.2.2.2.2.2.1.below hb HU24.out.2.2.2.2.2.1.lt, HU24.out.2.2.2.2.2.2.1, HU24.out.2.2.2.2.2.2.2.1, HU24.out.2.2.2.2.2.2.2.2.1, own_ch HU24.out.2.2.2.2.2.2.2.2.2.1 (Ch.of_below (S := fun _ => False) hb (Nat.le_refl _)) (fun _ _ h => h), HU24.out.2.2.2.2.2.2.2.2.2.2.1, HU24.out.2.2.2.2.2.2.2.2.2.2.2, hown, HU24.out.2.2.2.2.1.size, fun k hk e => by have := (hown.lt k hk).1; have := HU24.out.2.2.2.2.2.1.lt; omega⟩)
      clear hown hb
      go_wp2_with fail
      refine QK.normal ⟨⟨HU25.out.1.cell 0, HU25.out.1.cell 1, HU25.out.1.cell 2, HU25.out.1.cell 3, HU25.out.1.cell 4⟩, ?_⟩
      refine' wpAnyH_one 12 (by kernel_rfl) ?_ ?_; rotate_left; (simp only [List.getElem?_toArray, List.getElem?_cons_zero, List.getElem?_cons_succ]; rfl)
      try simp only [Act.put]
      go_wp2_with fail
      refine (clone_any (.slice ga gl gc) pg u25 HU25.out.2.2.1.2.2 (by have := HP.out.2.2.2; simp only at this; omega)).mono ?_
      rintro e' u26 ⟨v26, rfl, hown, hb⟩
      obtain ⟨ao3, cp3, rfl⟩ := own_shape hown
      rw [HLN.out.2.2] at hown ⊢
      have HU26 := Lib.hid (show Blk u26 w.heap.size 24 (pmC o pe (.slice ra rl rc) (.slice qa ql qc) (.slice ga gl gc)) ∧ Blk u26 w1.heap.size 24 (pmC 0 0 (.slice none 0 0) (.slice none 0 0) (.slice none 0 0)) ∧ PmS u26 ⟨o, pe, pr, pq, pg⟩ (.slice ra rl rc) (.slice qa ql qc) (.slice ga gl gc) ∧ Below w.heap.size w u26 ∧ Below w3.heap.size w3 u26 ∧ Blk u26 u0.heap.size 24 (pmC 0 0 (.slice none 0 0) (.slice none 0 0) (.slice none 0 0)) ∧ w.heap.size ≤ u0.heap.size ∧ w1.heap.size < u0.heap.size ∧ w.heap.size < u0.heap.size ∧ u26.ownsRow u23.heap.size 3 1 (.slice ao1 rl cp1) rl (ofK .i64 pr) ∧ w3.heap.size ≤ u23.heap.size ∧ (∀ k, (Value.slice ao1 rl cp1).ownBlock = some k → k ≠ u0.heap.size) ∧ u26.ownsRow u24.heap.size 3 1 (.slice ao2 ql cp2) ql (ofK .i64 pq) ∧ w3.heap.size ≤ u24.heap.size ∧ (∀ k, (Value.slice ao2 ql cp2).ownBlock = some k → k ≠ u0.heap.size) ∧ u26.ownsRow u25.heap.size 3 1 (.slice ao3 gl cp3) gl (ofK .i64 pg) ∧ w3.heap.size ≤ u25.heap.size ∧ (∀ k, (Value.slice ao3 gl cp3).ownBlock = some k → k ≠ u0.heap.size) from ⟨HU25.out.1.below hb HU25.out.1.lt, HU25.out.2.1.below hb HU25.out.2.1.lt, HU25.out.2.2.1.below hb, below_thn HU25.out.2.2.2.1 hb (Nat.le_refl _), below_thn HU25.out.2.2.2.2.1 hb (Nat.le_refl _), HU25.out.2.2.2.2.2.1.below hb HU25.out.2.2.2.2.2.1.lt, HU25.out.2.2.2.2.2.2.1, HU25.out.2.2.2.2.2.2.2.1, HU25.out.2.2.2.2.2.2.2.2.1, own_ch HU25.out.2.2.2.2.2.2.2.2.2.1 (Ch.of_below (S := fun _ => False) hb (Nat.le_refl _)) (fun _ _ h => h), HU25.out.2.2.2.2.2.2.2.2.2.2.1, HU25.out.2.2.2.2.2.2.2.2.2.2.2.1, own_ch HU25.out.2.2.2.2.2.2.2.2.2.2.2.2.1 (Ch.of_below (S := fun _ => False) hb (Nat.le_refl _)) (fun _ _ h => h), HU25.out.2.2.2.2.2.2.2.2.2.2.2.2.2.1, HU25.out.2.2.2.2.2.2.2.2.2.2.2.2.2.2, hown, HU25.out.2.2.2.2.1.size, fun k hk e => by have := (hown.lt k hk).1; have := HU25.out.2.2.2.2.2.1.lt; omega⟩)
      clear hown hb
      go_wp2_with fail
      refine QK.normal ⟨⟨HU26.out.1.cell 0, HU26.out.1.cell 1, HU26.out.1.cell 2, HU26.out.1.cell 3, HU26.out.1.cell 4⟩, ?_⟩
      refine' wpAnyH_one 13 (by kernel_rfl) ?_ ?_; rotate_left; (simp only [List.getElem?_toArray, List.getElem?_cons_zero, List.getElem?_cons_succ]; rfl)
      refine wpList_build_pm rfl (.tmp 13) (.tmp 15) (.tmp 18) (.tmp 21) (.tmp 24) rfl o pe ao1 ao2 ao3 rl cp1 ql cp2 gl cp3 rfl rfl rfl rfl rfl ?_
      simp only [Act.put, List.setIfInBounds_toArray, List.set_cons_zero, List.set_cons_succ]
      refine QK.normal ⟨⟨HU26.out.1.cell 0, HU26.out.1.cell 1, HU26.out.1.cell 2, HU26.out.1.cell 3, HU26.out.1.cell 4⟩, ?_⟩
      refine' wpAnyH_one 15 (by kernel_rfl) ?_ ?_; rotate_left; (simp only [List.getElem?_toArray, List.getElem?_cons_zero, List.getElem?_cons_succ]; rfl)
      refine wpList_store_blk u26 rfl 24 (.tmp 6) (.tmp 25) rfl u0.heap.size 24 (pmC 0 0 (.slice none 0 0) (.slice none 0 0) (.slice none 0 0)) (pmC o pe (.slice ao1 rl cp1) (.slice ao2 ql cp2) (.slice ao3 gl cp3)) HU26.out.2.2.2.2.2.1 rfl rfl rfl (pmC_info _ _ _ _ _) (pmC_one _ _ _ _ _ _ _ _ _ _ _) ?_
      intro u28 hb hc hs
      have HW := Lib.hid (show Blk u28 u0.heap.size 24 (pmC o pe (.slice ao1 rl cp1) (.slice ao2 ql cp2) (.slice ao3 gl cp3)) ∧ PmS u28 ⟨o, pe, pr, pq, pg⟩ (.slice ao1 rl cp1) (.slice ao2 ql cp2) (.slice ao3 gl cp3) ∧ Off u0.heap.size (.slice ao1 rl cp1) (.slice ao2 ql cp2) (.slice ao3 gl cp3) ∧ w.heap.size ≤ u0.heap.size ∧ Below w.heap.size w u28 ∧ Blk u28 w1.heap.size 24 (pmC 0 0 (.slice none 0 0) (.slice none 0 0) (.slice none 0 0)) ∧ AbvS w3.heap.size (.slice ao1 rl cp1) (.slice ao2 ql cp2) (.slice ao3 gl cp3) ∧ w3.heap.size ≤ u28.heap.size from ⟨hb, ⟨Sl.of_owns (own_ch HU26.out.2.2.2.2.2.2.2.2.2.1 hc (fun k hk e => HU26.out.2.2.2.2.2.2.2.2.2.2.2.1 k hk e)), Sl.of_owns (own_ch HU26.out.2.2.2.2.2.2.2.2.2.2.2.2.1 hc (fun k hk e => HU26.out.2.2.2.2.2.2.2.2.2.2.2.2.2.2.1 k hk e)), Sl.of_owns (own_ch HU26.out.2.2.2.2.2.2.2.2.2.2.2.2.2.2.2.1 hc (fun k hk e => HU26.out.2.2.2.2.2.2.2.2.2.2.2.2.2.2.2.2.2 k hk e))⟩, ⟨HU26.out.2.2.2.2.2.2.2.2.2.2.2.1, HU26.out.2.2.2.2.2.2.2.2.2.2.2.2.2.2.1, HU26.out.2.2.2.2.2.2.2.2.2.2.2.2.2.2.2.2.2⟩, HU26.out.2.2.2.2.2.2.1, below_ch HU26.out.2.2.2.1 hc (Nat.le_refl _) (fun k hk => by have e : k = u0.heap.size := hk; have := HU26.out.2.2.2.2.2.2.1; omega), HU26.out.2.1.keep hc (fun e => by have e : w1.heap.size = u0.heap.size := e; have := HU26.out.2.2.2.2.2.2.2.1; omega), ⟨fun k hk => Nat.le_trans HU26.out.2.2.2.2.2.2.2.2.2.2.1 (HU26.out.2.2.2.2.2.2.2.2.2.1.lt k hk).1, fun k hk => Nat.le_trans HU26.out.2.2.2.2.2.2.2.2.2.2.2.2.2.1 (HU26.out.2.2.2.2.2.2.2.2.2.2.2.2.1.lt k hk).1, fun k hk => Nat.le_trans HU26.out.2.2.2.2.2.2.2.2.2.2.2.2.2.2.2.2.1 (HU26.out.2.2.2.2.2.2.2.2.2.2.2.2.2.2.2.1.lt k hk).1⟩, Nat.le_trans HU26.out.2.2.2.2.1.size hc.size⟩)
      have HWG := Lib.hid (show w1.heap.size ≠ u0.heap.size from by have := HU26.out.2.2.2.2.2.2.2.1; omega)
      have HK := Lib.hid (show u28.cell? ⟨w.heap.size, 0, none⟩ = some (.int .i64 o) ∧ u28.cell? ⟨w.heap.size, 1, none⟩ = some (.int .i64 pe) ∧ u28.cell? ⟨w.heap.size, 2, none⟩ = some (.slice ra rl rc) ∧ u28.cell? ⟨w.heap.size, 3, none⟩ = some (.slice qa ql qc) ∧ u28.cell? ⟨w.heap.size, 4, none⟩ = some (.slice ga gl gc) from by have hk := HU26.out.1.keep hc (fun e => by have e : w.heap.size = u0.heap.size := e; have := HU26.out.2.2.2.2.2.2.2.2.1; omega); exact ⟨hk.cell 0, hk.cell 1, hk.cell 2, hk.cell 3, hk.cell 4⟩)
      clear hb hc hs
      simp only [Act.put, List.setIfInBounds_toArray, List.set_cons_zero, List.set_cons_succ]
      refine QK.normal ⟨HK.out, ?_⟩
      clear HK
      refine wpAnyH_done (by kernel_rfl) ?_ _
      refine NoPanic.normal ?_
      go_wp2_with fail
      refine (HS.out HB.out u28 u0.heap.size w3.heap.size _ _ _ HW.out.2.2.2.2.1 HW.out.2.2.2.1 HW.out.2.2.2.2.2.2.2 HW.out.2.2.2.2.2.2.1 HW.out.1 HW.out.2.1 HW.out.2.2.1).mono ?_
      rintro e u29 ⟨rfl, xr, xq, xg, hb, hs, hc, hab⟩
      obtain ⟨xa, xc, rfl, -⟩ := hs.1.shape
      obtain ⟨ya, yc, rfl, -⟩ := hs.2.1.shape
      obtain ⟨za, zc, rfl, -⟩ := hs.2.2.shape
      generalize (ofK .i64 r.2.r).length = xl at hb hs hab
      generalize (ofK .i64 r.2.q).length = yl at hb hs hab
      generalize (ofK .i64 r.2.g).length = zl at hb hs hab
      have HV := Lib.hid (show Blk u29 u0.heap.size 24 (pmC r.2.o r.2.e (.slice xa xl xc) (.slice ya yl yc) (.slice za zl zc)) ∧ PmS u29 r.2 (.slice xa xl xc) (.slice ya yl yc) (.slice za zl zc) ∧ Blk u29 w1.heap.size 24 (pmC 0 0 (.slice none 0 0) (.slice none 0 0) (.slice none 0 0)) ∧ Below w.heap.size w u29 from ⟨hb, hs, HW.out.2.2.2.2.2.1.keep hc (fun e => HWG.out e), below_ch HW.out.2.2.2.2.1 hc (Nat.le_refl _) (fun k hk => by have e : k = u0.heap.size := hk; have := HW.out.2.2.2.1; omega)⟩)
      have HVN := Lib.hid (show Off w1.heap.size (.slice xa xl xc) (.slice ya yl yc) (.slice za zl zc) from ⟨fun k hk e => by have := hab.1 k hk; have := HSZ.out; omega, fun k hk e => by have := hab.2.1 k hk; have := HSZ.out; omega, fun k hk e => by have := hab.2.2 k hk; have := HSZ.out; omega⟩)
      have HAB := Lib.hid (hab.mono H3.out.2.size)
      clear hb hs hc hab
      by_cases h0 : r.1 = 0
      · have HRQ := Lib.hid (show R = (r.2, 0) from by rw [HRE.out, if_pos h0])
        rw [h0]
        clear h0
        go_wp2_with (first
    | (with_reducible refine wpList_load_any rfl 24 (.tmp 6) rfl u0.heap.size 0 rfl (pmC r.2.o r.2.e (.slice xa xl xc) (.slice ya yl yc) (.slice za zl zc)) _ (rangeW_blk HV.out.1) Try.underlying24 rfl (pmC_info _ _ _ _ _) ?_)
    | ((with_reducible refine wpList_store_blk u29 rfl 24 (.tmp 4) (.tmp 32) rfl w1.heap.size 24 (pmC 0 0 (.slice none 0 0) (.slice none 0 0) (.slice none 0 0)) ((pmC r.2.o r.2.e (.slice xa xl xc) (.slice ya yl yc) (.slice za zl zc))) HV.out.2.2.1 rfl rfl rfl (pmC_info _ _ _ _ _) (pmC_one _ _ _ _ _ _ _ _ _ _ _) ?_); intro w9 hb hc hs; have H9 := Lib.hid (show Blk w9 w1.heap.size 24 ((pmC r.2.o r.2.e (.slice xa xl xc) (.slice ya yl yc) (.slice za zl zc))) ∧ Ch (· = w1.heap.size) u29 w9 ∧ Below w.heap.size w w9 from ⟨hb, hc, below_ch HV.out.2.2.2 hc (Nat.le_refl _) (fun k hk => by have e : k = w1.heap.size := hk; have := H1.out.2.size; omega)⟩); clear hb hc hs))
        refine bodyPost_ret (results_cellTmp Try.results24 _ _ w1.heap.size _ _ rfl H9.out.1 _ Try.underlying24 rfl (pmC_info _ _ _ _ _) _ rfl) rfl ?_
        rw [HRQ.out]
        exact ⟨_, _, _, rfl, HV.out.2.1.ch H9.out.2.1 HVN.out, H9.out.2.2, HAB.out⟩
      · have HRQ := Lib.hid (show R = (noP, r.1) from by rw [HRE.out, if_neg h0])
        have hk1 : (r.1 == 0) = false := by simpa using h0
        have hk2 : (r.1 != 0) = true := by simpa using h0
        generalize r.1 = k at hk1 hk2 HRQ ⊢
        clear h0
        go_wp2_with (first
    | ((with_reducible refine wpList_build_zeroPm rfl rfl ?_))
    | ((with_reducible refine wpList_store_blk u29 rfl 24 (.tmp 4) (.tmp 30) rfl w1.heap.size 24 (pmC 0 0 (.slice none 0 0) (.slice none 0 0) (.slice none 0 0)) (pmC 0 0 (.slice none 0 0) (.slice none 0 0) (.slice none 0 0)) HV.out.2.2.1 rfl rfl rfl (pmC_info _ _ _ _ _) (pmC_one _ _ _ _ _ _ _ _ _ _ _) ?_); intro w9 hb hc hs; have H9 := Lib.hid (show Blk w9 w1.heap.size 24 (pmC 0 0 (.slice none 0 0) (.slice none 0 0) (.slice none 0 0)) ∧ Ch (· = w1.heap.size) u29 w9 ∧ Below w.heap.size w w9 from ⟨hb, hc, below_ch HV.out.2.2.2 hc (Nat.le_refl _) (fun k hk => by have e : k = w1.heap.size := hk; have := H1.out.2.size; omega)⟩); clear hb hc hs))
        refine bodyPost_ret (results_cellTmp Try.results24 _ _ w1.heap.size _ _ rfl H9.out.1 _ Try.underlying24 rfl (pmC_info _ _ _ _ _) _ rfl) rfl ?_
        rw [HRQ.out]
        exact ⟨_, _, _, rfl, PmS.nil _, H9.out.2.2, AbvS.nil _⟩

end Go.Proofs.Ytampheimonmggaa
