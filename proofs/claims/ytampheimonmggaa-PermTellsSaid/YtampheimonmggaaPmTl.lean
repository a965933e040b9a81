/-
  Law 11: PermTells, walked. Conditions: the numbers are int's.
-/
import Derived.Test.YtampheimonmggaaPmY
import Derived.Test.YtampheimonmggaaPmZ
import Derived.Test.YtampheimonmggaaPmCp
import Derived.Deep.Cut
import Derived.Test.YtampheimonmggaaFrameP
namespace Go.Proofs.Ytampheimonmggaa
open Go Go.RowKit Go.Sort
set_option linter.unusedSimpArgs false
set_option linter.unusedVariables false

theorem wpList_unguard {P : Program} {ops : Array Oper} {rest : List Oper} {o : Oper} {a : Act} {w : World} {Q : Exit → Act → World → Prop} (h : Region.wanted o (yielded ops a.tmps) = true) (k : wpList P ops Q ({ o with guard := none } :: rest) a w) : wpList P ops Q (o :: rest) a w := by
  unfold wpList at k ⊢
  rw [if_pos h]
  rw [if_pos (show Region.wanted { o with guard := none } (yielded ops a.tmps) = true by simp [Region.wanted])] at k
  exact k

theorem quiet_load_mid {P : Program} {o : Oper} {a : Act} {C : World → Prop} {K : Act → Prop} (ty : TypeId) (x : Operand) (ho : o.op = .load ty x) (b off : Nat) (hx : a.eval x = .pointer (some ⟨b, off, none⟩)) (cs : List Value) (d : TypeDesc)
    (hc : ∀ w, C w → w.rangeAt b off cs) (hu : P.underlying ty = some d) (hd : d.isRow = true) (hi : (P.info? ty).map (·.size) = some cs.length) (h : K (a.put o.dst (.agg cs.toArray))) : o.quiet P a C K :=
  ⟨.agg cs.toArray, fun w hw => by
    have hrun : (execOp a.eval o).run P w = .ok (.value (.agg cs.toArray)) w := by
      unfold execOp
      simp only [ho, hx, Instr.loadAt, Instr.sureAddr, Sem.run_bind, Sem.run_pure, Result.andThen_ok, run_loadVar_mid w b off ty cs d (hc w hw) hu hd hi]
    unfold Oper.quietAt
    rw [hrun]
    exact ⟨rfl, rfl⟩, h⟩

theorem rangeAt_blk {w : World} {g : Nat} {e : TypeId} {xs : List Value} (h : Blk w g e xs) : w.rangeAt g 0 xs := fun j v hv => by rw [Nat.zero_add, h.cell]; exact hv

theorem rangeAt_grew {w : World} {g off : Nat} {xs : List Value} (h : w.rangeAt g off xs) (w' : World) (hw : ∃ p : Regrown, w' = grew w p) : w'.rangeAt g off xs := by
  obtain ⟨p, rfl⟩ := hw
  exact fun j v hv => cell_grew (h j v hv) p

def askC (u : Int) (v : Value) : List Value := [.int .i64 u, v]
theorem newR_ok {u : Int} (h : userB u = true) : newR u = (⟨u, 1, [], [], []⟩, 0) := by unfold newR; rw [if_pos h]
theorem newR_bad {u : Int} (h : userB u = false) : newR u = (noP, 2) := by unfold newR; rw [if_neg (by rw [h]; simp)]
theorem same_self (p : PmD) : samePB p p = true := (samePB_iff p p).2 rfl

theorem PmS.nil1 (w : World) (u : Int) : PmS w ⟨u, 1, [], [], []⟩ (.slice none 0 0) (.slice none 0 0) (.slice none 0 0) := ⟨Sl.nil w, Sl.nil w, Sl.nil w⟩

set_option maxRecDepth 100000 in
set_option maxHeartbeats 16000000 in
theorem permTells_walk (p : PmD) (vr vq vg : Value) (q : PmD) (ur uq ug : Value) (u : Int) (vm : Value) (m : List (Int × Int)) (w : World) (hp : PmS w p vr vq vg) (hpi : PmI p) (hq : PmS w q ur uq ug) (hqi : PmI q) (hu : I64 u) (hm : SlP w vm .i64 .i64 m) :
    Calls Try.prog 5 #[.agg (pmC p.o p.e vr vq vg).toArray, .agg (pmC q.o q.e ur uq ug).toArray, .agg (askC u vm).toArray] w (TrueP w) := by
  obtain ⟨ra, rc, rfl, -⟩ := hp.1.shape
  obtain ⟨qa, qc, rfl, -⟩ := hp.2.1.shape
  obtain ⟨ga, gc, rfl, -⟩ := hp.2.2.shape
  obtain ⟨ra2, rc2, rfl, -⟩ := hq.1.shape
  obtain ⟨qa2, qc2, rfl, -⟩ := hq.2.1.shape
  obtain ⟨ga2, gc2, rfl, -⟩ := hq.2.2.shape
  have HSM := Lib.hid hm
  obtain ⟨ma, mc, rfl, -⟩ := id hm
  generalize (ofK .i64 p.r).length = rl at hp ⊢
  generalize (ofK .i64 p.q).length = ql at hp ⊢
  generalize (ofK .i64 p.g).length = gl at hp ⊢
  generalize (ofK .i64 q.r).length = rl2 at hq ⊢
  generalize (ofK .i64 q.q).length = ql2 at hq ⊢
  generalize (ofK .i64 q.g).length = gl2 at hq ⊢
  generalize m.length = ml at HSM ⊢
  have H0 := Lib.hid (show PmS w p (Value.slice ra rl rc) (Value.slice qa ql qc) (Value.slice ga gl gc) ∧ PmS w q (Value.slice ra2 rl2 rc2) (Value.slice qa2 ql2 qc2) (Value.slice ga2 gl2 gc2) ∧ Below w.heap.size w w from ⟨hp, hq, Below.refl _ _⟩)
  obtain ⟨lp, hlp⟩ : ∃ b, largeB p = b := ⟨_, rfl⟩
  obtain ⟨lq, hlq⟩ : ∃ b, largeB q = b := ⟨_, rfl⟩
  obtain ⟨bu, hbu⟩ : ∃ b, userB u = b := ⟨_, rfl⟩
  obtain ⟨b1, hb1⟩ : ∃ b, okB p = b := ⟨_, rfl⟩
  have HLP := Lib.hid hlp
  have HLQ := Lib.hid hlq
  have HBU := Lib.hid hbu
  have HB1 := Lib.hid hb1
  clear hp hpi hq hqi hu hm hlp hlq hbu hb1
  go_enter Try.func5, Try.ntmps5
  go_wp2_with (first
    | ((with_reducible refine wpList_box_blk w rfl 24 (.tmp 0) rfl (pmC p.o p.e (Value.slice ra rl rc) (Value.slice qa ql qc) (Value.slice ga gl gc)) rfl ?_); intro a1 hb hbel hsz; have HA2 := Lib.hid (show PmS a1 p (Value.slice ra rl rc) (Value.slice qa ql qc) (Value.slice ga gl gc) ∧ PmS a1 q (Value.slice ra2 rl2 rc2) (Value.slice qa2 ql2 qc2) (Value.slice ga2 gl2 gc2) ∧ Below w.heap.size w a1 ∧ Blk a1 w.heap.size 24 (pmC p.o p.e (Value.slice ra rl rc) (Value.slice qa ql qc) (Value.slice ga gl gc)) from ⟨H0.out.1.below hbel, H0.out.2.1.below hbel, below_thn H0.out.2.2 hbel (Nat.le_refl _), hb⟩); clear hb hbel hsz)
    | ((with_reducible refine wpList_box_blk a1 rfl 24 (.tmp 1) rfl (pmC q.o q.e (Value.slice ra2 rl2 rc2) (Value.slice qa2 ql2 qc2) (Value.slice ga2 gl2 gc2)) rfl ?_); intro a3 hb hbel hsz; have HA4 := Lib.hid (show PmS a3 p (Value.slice ra rl rc) (Value.slice qa ql qc) (Value.slice ga gl gc) ∧ PmS a3 q (Value.slice ra2 rl2 rc2) (Value.slice qa2 ql2 qc2) (Value.slice ga2 gl2 gc2) ∧ Below w.heap.size w a3 ∧ Blk a3 w.heap.size 24 (pmC p.o p.e (Value.slice ra rl rc) (Value.slice qa ql qc) (Value.slice ga gl gc)) ∧ Blk a3 a1.heap.size 24 (pmC q.o q.e (Value.slice ra2 rl2 rc2) (Value.slice qa2 ql2 qc2) (Value.slice ga2 gl2 gc2)) from ⟨HA2.out.1.below hbel, HA2.out.2.1.below hbel, below_thn HA2.out.2.2.1 hbel (Nat.le_refl _), HA2.out.2.2.2.below hbel HA2.out.2.2.2.lt, hb⟩); clear hb hbel hsz)
    | ((with_reducible refine wpList_box_blk a3 rfl 43 (.tmp 2) rfl (askC u (.slice ma ml mc)) rfl ?_); intro a5 hb hbel hsz; have HA6 := Lib.hid (show PmS a5 p (Value.slice ra rl rc) (Value.slice qa ql qc) (Value.slice ga gl gc) ∧ PmS a5 q (Value.slice ra2 rl2 rc2) (Value.slice qa2 ql2 qc2) (Value.slice ga2 gl2 gc2) ∧ Below w.heap.size w a5 ∧ Blk a5 w.heap.size 24 (pmC p.o p.e (Value.slice ra rl rc) (Value.slice qa ql qc) (Value.slice ga gl gc)) ∧ Blk a5 a1.heap.size 24 (pmC q.o q.e (Value.slice ra2 rl2 rc2) (Value.slice qa2 ql2 qc2) (Value.slice ga2 gl2 gc2)) ∧ Blk a5 a3.heap.size 43 (askC u (.slice ma ml mc)) from ⟨HA4.out.1.below hbel, HA4.out.2.1.below hbel, below_thn HA4.out.2.2.1 hbel (Nat.le_refl _), HA4.out.2.2.2.1.below hbel HA4.out.2.2.2.1.lt, HA4.out.2.2.2.2.below hbel HA4.out.2.2.2.2.lt, hb⟩); clear hb hbel hsz))
  refine (wakes11_any a5).mono ?_
  rintro e' y1 ⟨rfl, hb⟩
  have HY1 := Lib.hid (show PmS y1 p (Value.slice ra rl rc) (Value.slice qa ql qc) (Value.slice ga gl gc) ∧ PmS y1 q (Value.slice ra2 rl2 rc2) (Value.slice qa2 ql2 qc2) (Value.slice ga2 gl2 gc2) ∧ Below w.heap.size w y1 ∧ Blk y1 w.heap.size 24 (pmC p.o p.e (Value.slice ra rl rc) (Value.slice qa ql qc) (Value.slice ga gl gc)) ∧ Blk y1 a1.heap.size 24 (pmC q.o q.e (Value.slice ra2 rl2 rc2) (Value.slice qa2 ql2 qc2) (Value.slice ga2 gl2 gc2)) ∧ Blk y1 a3.heap.size 43 (askC u (.slice ma ml mc)) from ⟨HA6.out.1.below hb, HA6.out.2.1.below hb, below_thn HA6.out.2.2.1 hb (Nat.le_refl _), HA6.out.2.2.2.1.below hb HA6.out.2.2.2.1.lt, HA6.out.2.2.2.2.1.below hb HA6.out.2.2.2.2.1.lt, HA6.out.2.2.2.2.2.below hb HA6.out.2.2.2.2.2.lt⟩)
  clear hb
  go_wp2_with (with_reducible refine wpList_load_any rfl 24 (.tmp 3) rfl w.heap.size 0 rfl (pmC p.o p.e (Value.slice ra rl rc) (Value.slice qa ql qc) (Value.slice ga gl gc)) _ (rangeW_blk HY1.out.2.2.2.1) Try.underlying24 rfl (pmC_info _ _ _ _ _) ?_)
  have hx := large_any p _ _ _ y1 HY1.out.1
  rw [HLP.out] at hx
  refine Calls.mono hx ?_
  clear hx
  rintro e' y2 ⟨rfl, hb⟩
  have Hy2 := Lib.hid (show PmS y2 p (Value.slice ra rl rc) (Value.slice qa ql qc) (Value.slice ga gl gc) ∧ PmS y2 q (Value.slice ra2 rl2 rc2) (Value.slice qa2 ql2 qc2) (Value.slice ga2 gl2 gc2) ∧ Below w.heap.size w y2 ∧ Blk y2 w.heap.size 24 (pmC p.o p.e (Value.slice ra rl rc) (Value.slice qa ql qc) (Value.slice ga gl gc)) ∧ Blk y2 a1.heap.size 24 (pmC q.o q.e (Value.slice ra2 rl2 rc2) (Value.slice qa2 ql2 qc2) (Value.slice ga2 gl2 gc2)) ∧ Blk y2 a3.heap.size 43 (askC u (.slice ma ml mc)) from ⟨HY1.out.1.below hb, HY1.out.2.1.below hb, below_thn HY1.out.2.2.1 hb (Nat.le_refl _), HY1.out.2.2.2.1.below hb HY1.out.2.2.2.1.lt, HY1.out.2.2.2.2.1.below hb HY1.out.2.2.2.2.1.lt, HY1.out.2.2.2.2.2.below hb HY1.out.2.2.2.2.2.lt⟩)
  clear hb
  cases lp
  rotate_left
  · skip
    go_wp2_with fail
    go_ret
    exact ⟨rfl, Hy2.out.2.2.1⟩
  go_wp2_with ((with_reducible refine wpList_load_want ?_ 24 (.tmp 4) rfl a1.heap.size 0 rfl (pmC q.o q.e (Value.slice ra2 rl2 rc2) (Value.slice qa2 ql2 qc2) (Value.slice ga2 gl2 gc2)) _ (rangeW_blk Hy2.out.2.2.2.2.1) Try.underlying24 rfl (pmC_info _ _ _ _ _) ?_); focus rfl)
  have hx := large_any q _ _ _ y2 Hy2.out.2.1
  rw [HLQ.out] at hx
  refine Calls.mono hx ?_
  clear hx
  rintro e' y3 ⟨rfl, hb⟩
  have Hy3 := Lib.hid (show PmS y3 p (Value.slice ra rl rc) (Value.slice qa ql qc) (Value.slice ga gl gc) ∧ PmS y3 q (Value.slice ra2 rl2 rc2) (Value.slice qa2 ql2 qc2) (Value.slice ga2 gl2 gc2) ∧ Below w.heap.size w y3 ∧ Blk y3 w.heap.size 24 (pmC p.o p.e (Value.slice ra rl rc) (Value.slice qa ql qc) (Value.slice ga gl gc)) ∧ Blk y3 a1.heap.size 24 (pmC q.o q.e (Value.slice ra2 rl2 rc2) (Value.slice qa2 ql2 qc2) (Value.slice ga2 gl2 gc2)) ∧ Blk y3 a3.heap.size 43 (askC u (.slice ma ml mc)) from ⟨Hy2.out.1.below hb, Hy2.out.2.1.below hb, below_thn Hy2.out.2.2.1 hb (Nat.le_refl _), Hy2.out.2.2.2.1.below hb Hy2.out.2.2.2.1.lt, Hy2.out.2.2.2.2.1.below hb Hy2.out.2.2.2.2.1.lt, Hy2.out.2.2.2.2.2.below hb Hy2.out.2.2.2.2.2.lt⟩)
  clear hb
  have x0 := Hy3.out.2.2.2.2.2.cell 0
  have x1 := Hy3.out.2.2.2.2.2.cell 1
  simp only [askC, List.getElem?_cons_zero, List.getElem?_cons_succ] at x0 x1
  cases lq
  rotate_left
  · skip
    go_wp2_with fail
    go_ret
    exact ⟨rfl, Hy3.out.2.2.1⟩
  by_cases hml : 100 < ml
  · have hml' : (100 : Int) < (ml : Int) := by omega
    go_wp2_with fail
    go_ret
    exact ⟨rfl, Hy3.out.2.2.1⟩
  have hml' : ¬ (100 : Int) < (ml : Int) := by omega
  have HLEN := Lib.hid ((large_no HLP.out).l (by omega))
  go_wp2_with fail
  clear x0 x1 hml hml'
  obtain ⟨⟨n, e⟩, hn⟩ : ∃ r, newR u = r := ⟨_, rfl⟩
  have HN := Lib.hid hn
  have hx := new_any u y3
  rw [hn] at hx
  clear hn
  refine (calls_perm hx).mono ?_
  clear hx
  rintro e' y8 ⟨x7r, x7q, x7g, rfl, hs, hb, hab⟩
  obtain ⟨x7a0, x7c0, rfl, -⟩ := hs.1.shape
  obtain ⟨x7a1, x7c1, rfl, -⟩ := hs.2.1.shape
  obtain ⟨x7a2, x7c2, rfl, -⟩ := hs.2.2.shape
  generalize (ofK .i64 n.r).length = x7l0 at hs hab ⊢
  generalize (ofK .i64 n.q).length = x7l1 at hs hab ⊢
  generalize (ofK .i64 n.g).length = x7l2 at hs hab ⊢
  have HY9 := Lib.hid (show PmS y8 p (Value.slice ra rl rc) (Value.slice qa ql qc) (Value.slice ga gl gc) ∧ PmS y8 q (Value.slice ra2 rl2 rc2) (Value.slice qa2 ql2 qc2) (Value.slice ga2 gl2 gc2) ∧ Below w.heap.size w y8 ∧ Blk y8 w.heap.size 24 (pmC p.o p.e (Value.slice ra rl rc) (Value.slice qa ql qc) (Value.slice ga gl gc)) ∧ Blk y8 a1.heap.size 24 (pmC q.o q.e (Value.slice ra2 rl2 rc2) (Value.slice qa2 ql2 qc2) (Value.slice ga2 gl2 gc2)) ∧ Blk y8 a3.heap.size 43 (askC u (.slice ma ml mc)) ∧ PmS y8 n (Value.slice x7a0 x7l0 x7c0) (Value.slice x7a1 x7l1 x7c1) (Value.slice x7a2 x7l2 x7c2) ∧ AbvS y3.heap.size (Value.slice x7a0 x7l0 x7c0) (Value.slice x7a1 x7l1 x7c1) (Value.slice x7a2 x7l2 x7c2) from ⟨Hy3.out.1.below hb, Hy3.out.2.1.below hb, below_thn Hy3.out.2.2.1 hb (Nat.le_refl _), Hy3.out.2.2.2.1.below hb Hy3.out.2.2.2.1.lt, Hy3.out.2.2.2.2.1.below hb Hy3.out.2.2.2.2.1.lt, Hy3.out.2.2.2.2.2.below hb Hy3.out.2.2.2.2.2.lt, hs, hab⟩)
  clear hs hb hab
  go_upto_region 6 with (first
    | ((with_reducible refine wpList_alloc_blk y8 rfl 24 rfl (pmC 0 0 (.slice none 0 0) (.slice none 0 0) (.slice none 0 0)) Try.zeroPm ?_); intro a14 hb hbel hsz; have HA16 := Lib.hid (And.intro hb hbel); clear hb hbel hsz)
    | ((with_reducible refine wpList_store_blk a14 rfl 24 (.tmp 7) (.tmp 28) rfl y8.heap.size 24 (pmC 0 0 (.slice none 0 0) (.slice none 0 0) (.slice none 0 0)) (pmC n.o n.e (Value.slice x7a0 x7l0 x7c0) (Value.slice x7a1 x7l1 x7c1) (Value.slice x7a2 x7l2 x7c2)) HA16.out.1 rfl rfl rfl (pmC_info _ _ _ _ _) (pmC_one _ _ _ _ _ _ _ _ _ _ _) ?_); intro a15 hb hc hs; have hbw : Below y8.heap.size y8 a15 := below_ch HA16.out.2 hc (Nat.le_refl _) (fun k hk => by have e : k = y8.heap.size := hk; omega); have HA17 := Lib.hid (show PmS a15 p (Value.slice ra rl rc) (Value.slice qa ql qc) (Value.slice ga gl gc) ∧ PmS a15 q (Value.slice ra2 rl2 rc2) (Value.slice qa2 ql2 qc2) (Value.slice ga2 gl2 gc2) ∧ Below w.heap.size w a15 ∧ Blk a15 w.heap.size 24 (pmC p.o p.e (Value.slice ra rl rc) (Value.slice qa ql qc) (Value.slice ga gl gc)) ∧ Blk a15 a1.heap.size 24 (pmC q.o q.e (Value.slice ra2 rl2 rc2) (Value.slice qa2 ql2 qc2) (Value.slice ga2 gl2 gc2)) ∧ Blk a15 a3.heap.size 43 (askC u (.slice ma ml mc)) ∧ PmS a15 n (Value.slice x7a0 x7l0 x7c0) (Value.slice x7a1 x7l1 x7c1) (Value.slice x7a2 x7l2 x7c2) ∧ AbvS y3.heap.size (Value.slice x7a0 x7l0 x7c0) (Value.slice x7a1 x7l1 x7c1) (Value.slice x7a2 x7l2 x7c2) ∧ Blk a15 y8.heap.size 24 (pmC n.o n.e (Value.slice x7a0 x7l0 x7c0) (Value.slice x7a1 x7l1 x7c1) (Value.slice x7a2 x7l2 x7c2)) from ⟨HY9.out.1.below hbw, HY9.out.2.1.below hbw, below_thn HY9.out.2.2.1 hbw (Nat.le_refl _), HY9.out.2.2.2.1.below hbw HY9.out.2.2.2.1.lt, HY9.out.2.2.2.2.1.below hbw HY9.out.2.2.2.2.1.lt, HY9.out.2.2.2.2.2.1.below hbw HY9.out.2.2.2.2.2.1.lt, HY9.out.2.2.2.2.2.2.1.below hbw, HY9.out.2.2.2.2.2.2.2, hb⟩); have x0 := HA17.out.2.2.2.2.2.1.cell 0; simp only [askC, List.getElem?_cons_zero] at x0; clear hb hc hs hbw))
  go_cut [9, 37] from 10 (fun _ s wc => s = .bool (!bu) ∧ Hid (Blk wc w.heap.size 24 (pmC p.o p.e (Value.slice ra rl rc) (Value.slice qa ql qc) (Value.slice ga gl gc)) ∧ Blk wc a1.heap.size 24 (pmC q.o q.e (Value.slice ra2 rl2 rc2) (Value.slice qa2 ql2 qc2) (Value.slice ga2 gl2 gc2)) ∧ Blk wc a3.heap.size 43 (askC u (.slice ma ml mc)) ∧ PmS wc p (Value.slice ra rl rc) (Value.slice qa ql qc) (Value.slice ga gl gc) ∧ PmS wc q (Value.slice ra2 rl2 rc2) (Value.slice qa2 ql2 qc2) (Value.slice ga2 gl2 gc2) ∧ Below w.heap.size w wc ∧ Blk wc y8.heap.size 24 (pmC n.o n.e (Value.slice x7a0 x7l0 x7c0) (Value.slice x7a1 x7l1 x7c1) (Value.slice x7a2 x7l2 x7c2)) ∧ PmS wc n (Value.slice x7a0 x7l0 x7c0) (Value.slice x7a1 x7l1 x7c1) (Value.slice x7a2 x7l2 x7c2)))
  case first =>
    by_cases hu1 : u < 1
    · go_wp2_with fail
      go_meet
      exact ⟨by rw [← HBU.out]; simp [userB]; try omega, Lib.hid ⟨HA17.out.2.2.2.1, HA17.out.2.2.2.2.1, HA17.out.2.2.2.2.2.1, HA17.out.1, HA17.out.2.1, HA17.out.2.2.1, HA17.out.2.2.2.2.2.2.2.2, HA17.out.2.2.2.2.2.2.1⟩⟩
    by_cases hu2 : 6 < u
    · go_wp2_with fail
      go_meet
      exact ⟨by rw [← HBU.out]; simp [userB]; try omega, Lib.hid ⟨HA17.out.2.2.2.1, HA17.out.2.2.2.2.1, HA17.out.2.2.2.2.2.1, HA17.out.1, HA17.out.2.1, HA17.out.2.2.1, HA17.out.2.2.2.2.2.2.2.2, HA17.out.2.2.2.2.2.2.1⟩⟩
    · go_wp2_with fail
      go_meet
      exact ⟨by rw [← HBU.out]; simp [userB]; try omega, Lib.hid ⟨HA17.out.2.2.2.1, HA17.out.2.2.2.2.1, HA17.out.2.2.2.2.2.1, HA17.out.1, HA17.out.2.1, HA17.out.2.2.1, HA17.out.2.2.2.2.2.2.2.2, HA17.out.2.2.2.2.2.2.1⟩⟩
  case rest =>
  obtain ⟨rfl, HC⟩ := hcut
  clear HY9 HA17 x0
  have x0 := HC.out.2.2.1.cell 0
  simp only [askC, List.getElem?_cons_zero] at x0
  go_upto_if 37 with fail
  go_cut [9] from 10 (fun _ wc => Hid (Blk wc w.heap.size 24 (pmC p.o p.e (Value.slice ra rl rc) (Value.slice qa ql qc) (Value.slice ga gl gc)) ∧ Blk wc a1.heap.size 24 (pmC q.o q.e (Value.slice ra2 rl2 rc2) (Value.slice qa2 ql2 qc2) (Value.slice ga2 gl2 gc2)) ∧ Blk wc a3.heap.size 43 (askC u (.slice ma ml mc)) ∧ PmS wc p (Value.slice ra rl rc) (Value.slice qa ql qc) (Value.slice ga gl gc) ∧ PmS wc q (Value.slice ra2 rl2 rc2) (Value.slice qa2 ql2 qc2) (Value.slice ga2 gl2 gc2) ∧ Below w.heap.size w wc))
  case first =>
    cases bu
    · skip
      have hn := HN.out
      rw [newR_bad HBU.out] at hn
      simp only [Prod.mk.injEq] at hn
      have HNN := Lib.hid hn.1
      have he := hn.2
      subst he
      clear hn
      go_wp2_with (first
    | (with_reducible refine wpList_load_any rfl 24 (.tmp 7) rfl y8.heap.size 0 rfl (pmC n.o n.e (Value.slice x7a0 x7l0 x7c0) (Value.slice x7a1 x7l1 x7c1) (Value.slice x7a2 x7l2 x7c2)) _ (rangeW_blk HC.out.2.2.2.2.2.2.1) Try.underlying24 rfl (pmC_info _ _ _ _ _) ?_)
    | ((with_reducible refine wpList_load_want ?_ 24 (.tmp 7) rfl y8.heap.size 0 rfl (pmC n.o n.e (Value.slice x7a0 x7l0 x7c0) (Value.slice x7a1 x7l1 x7c1) (Value.slice x7a2 x7l2 x7c2)) _ (rangeW_blk HC.out.2.2.2.2.2.2.1) Try.underlying24 rfl (pmC_info _ _ _ _ _) ?_); focus rfl)
    | ((with_reducible refine wpList_unguard ?_ ?_); focus rfl; (with_reducible refine wpList_build_zeroPm rfl rfl ?_)))
      have hx := rsame_any n noP _ _ _ (.slice none 0 0) (.slice none 0 0) (.slice none 0 0) wc HC.out.2.2.2.2.2.2.2 (PmS.nil _)
      rw [show samePB n noP = true from by rw [← HNN.out]; exact same_self _] at hx
      refine Calls.mono hx ?_
      clear hx
      rintro e' y6 ⟨rfl, hb⟩
      have HY6 := Lib.hid (show Blk y6 w.heap.size 24 (pmC p.o p.e (Value.slice ra rl rc) (Value.slice qa ql qc) (Value.slice ga gl gc)) ∧ Blk y6 a1.heap.size 24 (pmC q.o q.e (Value.slice ra2 rl2 rc2) (Value.slice qa2 ql2 qc2) (Value.slice ga2 gl2 gc2)) ∧ Blk y6 a3.heap.size 43 (askC u (.slice ma ml mc)) ∧ PmS y6 p (Value.slice ra rl rc) (Value.slice qa ql qc) (Value.slice ga gl gc) ∧ PmS y6 q (Value.slice ra2 rl2 rc2) (Value.slice qa2 ql2 qc2) (Value.slice ga2 gl2 gc2) ∧ Below w.heap.size w y6 ∧ Blk y6 y8.heap.size 24 (pmC n.o n.e (Value.slice x7a0 x7l0 x7c0) (Value.slice x7a1 x7l1 x7c1) (Value.slice x7a2 x7l2 x7c2)) ∧ PmS y6 n (Value.slice x7a0 x7l0 x7c0) (Value.slice x7a1 x7l1 x7c1) (Value.slice x7a2 x7l2 x7c2) from ⟨HC.out.1.below hb HC.out.1.lt, HC.out.2.1.below hb HC.out.2.1.lt, HC.out.2.2.1.below hb HC.out.2.2.1.lt, HC.out.2.2.2.1.below hb, HC.out.2.2.2.2.1.below hb, below_thn HC.out.2.2.2.2.2.1 hb (Nat.le_refl _), HC.out.2.2.2.2.2.2.1.below hb HC.out.2.2.2.2.2.2.1.lt, HC.out.2.2.2.2.2.2.2.below hb⟩)
      clear hb
      go_wp2_with fail
      go_meet
      exact Lib.hid ⟨HY6.out.1, HY6.out.2.1, HY6.out.2.2.1, HY6.out.2.2.2.1, HY6.out.2.2.2.2.1, HY6.out.2.2.2.2.2.1⟩
    · skip
      have hn := HN.out
      rw [newR_ok HBU.out] at hn
      simp only [Prod.mk.injEq] at hn
      have HNN := Lib.hid hn.1
      have he := hn.2
      subst he
      clear hn
      go_wp2_with (first
    | (with_reducible refine wpList_load_any rfl 24 (.tmp 7) rfl y8.heap.size 0 rfl (pmC n.o n.e (Value.slice x7a0 x7l0 x7c0) (Value.slice x7a1 x7l1 x7c1) (Value.slice x7a2 x7l2 x7c2)) _ (rangeW_blk HC.out.2.2.2.2.2.2.1) Try.underlying24 rfl (pmC_info _ _ _ _ _) ?_)
    | ((with_reducible refine wpList_load_want ?_ 24 (.tmp 7) rfl y8.heap.size 0 rfl (pmC n.o n.e (Value.slice x7a0 x7l0 x7c0) (Value.slice x7a1 x7l1 x7c1) (Value.slice x7a2 x7l2 x7c2)) _ (rangeW_blk HC.out.2.2.2.2.2.2.1) Try.underlying24 rfl (pmC_info _ _ _ _ _) ?_); focus rfl)
    | ((with_reducible refine wpList_unguard ?_ ?_); focus rfl; (with_reducible refine wpList_build_new rfl (.tmp 51) rfl u rfl ?_)))
      have hx := rsame_any n ⟨u, 1, [], [], []⟩ _ _ _ (.slice none 0 0) (.slice none 0 0) (.slice none 0 0) wc HC.out.2.2.2.2.2.2.2 (PmS.nil1 _ _)
      rw [show samePB n ⟨u, 1, [], [], []⟩ = true from by rw [← HNN.out]; exact same_self _] at hx
      refine Calls.mono hx ?_
      clear hx
      rintro e' y6 ⟨rfl, hb⟩
      have HY6 := Lib.hid (show Blk y6 w.heap.size 24 (pmC p.o p.e (Value.slice ra rl rc) (Value.slice qa ql qc) (Value.slice ga gl gc)) ∧ Blk y6 a1.heap.size 24 (pmC q.o q.e (Value.slice ra2 rl2 rc2) (Value.slice qa2 ql2 qc2) (Value.slice ga2 gl2 gc2)) ∧ Blk y6 a3.heap.size 43 (askC u (.slice ma ml mc)) ∧ PmS y6 p (Value.slice ra rl rc) (Value.slice qa ql qc) (Value.slice ga gl gc) ∧ PmS y6 q (Value.slice ra2 rl2 rc2) (Value.slice qa2 ql2 qc2) (Value.slice ga2 gl2 gc2) ∧ Below w.heap.size w y6 ∧ Blk y6 y8.heap.size 24 (pmC n.o n.e (Value.slice x7a0 x7l0 x7c0) (Value.slice x7a1 x7l1 x7c1) (Value.slice x7a2 x7l2 x7c2)) ∧ PmS y6 n (Value.slice x7a0 x7l0 x7c0) (Value.slice x7a1 x7l1 x7c1) (Value.slice x7a2 x7l2 x7c2) from ⟨HC.out.1.below hb HC.out.1.lt, HC.out.2.1.below hb HC.out.2.1.lt, HC.out.2.2.1.below hb HC.out.2.2.1.lt, HC.out.2.2.2.1.below hb, HC.out.2.2.2.2.1.below hb, below_thn HC.out.2.2.2.2.2.1 hb (Nat.le_refl _), HC.out.2.2.2.2.2.2.1.below hb HC.out.2.2.2.2.2.2.1.lt, HC.out.2.2.2.2.2.2.2.below hb⟩)
      clear hb
      go_wp2_with fail
      go_meet
      exact Lib.hid ⟨HY6.out.1, HY6.out.2.1, HY6.out.2.2.1, HY6.out.2.2.2.1, HY6.out.2.2.2.2.1, HY6.out.2.2.2.2.2.1⟩
  case rest =>
  have HD := hcut
  clear hcut HN HC x0
  cases b1
  · as_aux_lemma =>
    obtain ⟨sm2, hsm2⟩ : ∃ b, samePB p q = b := ⟨_, rfl⟩
    have HSM2 := Lib.hid hsm2
    clear hsm2
    go_wp2_with fail
    refine wp_region_takes (fun w' => w'.rangeAt w.heap.size 0 (pmC p.o p.e (Value.slice ra rl rc) (Value.slice qa ql qc) (Value.slice ga gl gc))) [0, 4] 15 (by kernel_rfl) rfl (by kernel_rfl) (by kernel_rfl) (rangeAt_blk HD.out.1) ?_
    iterate 2 (refine' HeldL.run ?_ ?_ ?_ ?_; rotate_left 2; (simp only [List.getElem?_toArray, List.getElem?_cons_zero, List.getElem?_cons_succ]; rfl); rfl; (rintro w' k0; exact exec_load_mid rfl rfl k0 Try.underlying24 rfl (pmC_info _ _ _ _ _)); simp only [Act.put, List.setIfInBounds_toArray, List.set_cons_zero, List.set_cons_succ])
    have sm := (Sm.refl wc).drew
    have HV19 := Lib.hid (show Blk wc.drew w.heap.size 24 (pmC p.o p.e (Value.slice ra rl rc) (Value.slice qa ql qc) (Value.slice ga gl gc)) ∧ Blk wc.drew a1.heap.size 24 (pmC q.o q.e (Value.slice ra2 rl2 rc2) (Value.slice qa2 ql2 qc2) (Value.slice ga2 gl2 gc2)) ∧ Blk wc.drew a3.heap.size 43 (askC u (.slice ma ml mc)) ∧ PmS wc.drew p (Value.slice ra rl rc) (Value.slice qa ql qc) (Value.slice ga gl gc) ∧ PmS wc.drew q (Value.slice ra2 rl2 rc2) (Value.slice qa2 ql2 qc2) (Value.slice ga2 gl2 gc2) ∧ Below w.heap.size w wc.drew from ⟨HD.out.1.below (sm.below _) HD.out.1.lt, HD.out.2.1.below (sm.below _) HD.out.2.1.lt, HD.out.2.2.1.below (sm.below _) HD.out.2.2.1.lt, HD.out.2.2.2.1.below (sm.below _), HD.out.2.2.2.2.1.below (sm.below _), below_thn HD.out.2.2.2.2.2 (sm.below _) (Nat.le_refl _)⟩)
    clear sm
    generalize wc.drew = v18 at HV19 ⊢
    refine' wpAnyH_one 1 (by kernel_rfl) ?_ ?_; rotate_left; (simp only [List.getElem?_toArray, List.getElem?_cons_zero, List.getElem?_cons_succ]; rfl)
    try simp only [Act.put]
    go_wp2_with fail
    refine (copied_any p _ _ _ v18 HV19.out.2.2.2.1 HLEN.out).mono ?_
    rintro e' y20 ⟨x22r, x22q, x22g, rfl, hs, hb, -⟩
    obtain ⟨x22a0, x22c0, rfl, -⟩ := hs.1.shape
    obtain ⟨x22a1, x22c1, rfl, -⟩ := hs.2.1.shape
    obtain ⟨x22a2, x22c2, rfl, -⟩ := hs.2.2.shape
    generalize (ofK .i64 p.r).length = x22l0 at hs ⊢
    generalize (ofK .i64 p.q).length = x22l1 at hs ⊢
    generalize (ofK .i64 p.g).length = x22l2 at hs ⊢
    have HY21 := Lib.hid (show Blk y20 w.heap.size 24 (pmC p.o p.e (Value.slice ra rl rc) (Value.slice qa ql qc) (Value.slice ga gl gc)) ∧ Blk y20 a1.heap.size 24 (pmC q.o q.e (Value.slice ra2 rl2 rc2) (Value.slice qa2 ql2 qc2) (Value.slice ga2 gl2 gc2)) ∧ Blk y20 a3.heap.size 43 (askC u (.slice ma ml mc)) ∧ PmS y20 p (Value.slice ra rl rc) (Value.slice qa ql qc) (Value.slice ga gl gc) ∧ PmS y20 q (Value.slice ra2 rl2 rc2) (Value.slice qa2 ql2 qc2) (Value.slice ga2 gl2 gc2) ∧ Below w.heap.size w y20 ∧ PmS y20 p (Value.slice x22a0 x22l0 x22c0) (Value.slice x22a1 x22l1 x22c1) (Value.slice x22a2 x22l2 x22c2) from ⟨HV19.out.1.below hb HV19.out.1.lt, HV19.out.2.1.below hb HV19.out.2.1.lt, HV19.out.2.2.1.below hb HV19.out.2.2.1.lt, HV19.out.2.2.2.1.below hb, HV19.out.2.2.2.2.1.below hb, below_thn HV19.out.2.2.2.2.2 hb (Nat.le_refl _), hs⟩)
    clear hs hb
    go_wp2_with fail
    refine QK.normal ⟨(rangeAt_blk HY21.out.1), ?_⟩
    refine' wpAnyH_one 2 (by kernel_rfl) ?_ ?_; rotate_left; (simp only [List.getElem?_toArray, List.getElem?_cons_zero, List.getElem?_cons_succ]; rfl)
    try simp only [Act.put]
    go_wp2_with fail
    have hx := check_of p false HB1.out _ _ _ y20 HY21.out.2.2.2.2.2.2
    refine Calls.mono hx ?_
    clear hx
    rintro e' y23 ⟨rfl, hb⟩
    have HY24 := Lib.hid (show Blk y23 w.heap.size 24 (pmC p.o p.e (Value.slice ra rl rc) (Value.slice qa ql qc) (Value.slice ga gl gc)) ∧ Blk y23 a1.heap.size 24 (pmC q.o q.e (Value.slice ra2 rl2 rc2) (Value.slice qa2 ql2 qc2) (Value.slice ga2 gl2 gc2)) ∧ Blk y23 a3.heap.size 43 (askC u (.slice ma ml mc)) ∧ PmS y23 p (Value.slice ra rl rc) (Value.slice qa ql qc) (Value.slice ga gl gc) ∧ PmS y23 q (Value.slice ra2 rl2 rc2) (Value.slice qa2 ql2 qc2) (Value.slice ga2 gl2 gc2) ∧ Below w.heap.size w y23 ∧ PmS y23 p (Value.slice x22a0 x22l0 x22c0) (Value.slice x22a1 x22l1 x22c1) (Value.slice x22a2 x22l2 x22c2) from ⟨HY21.out.1.below hb HY21.out.1.lt, HY21.out.2.1.below hb HY21.out.2.1.lt, HY21.out.2.2.1.below hb HY21.out.2.2.1.lt, HY21.out.2.2.2.1.below hb, HY21.out.2.2.2.2.1.below hb, below_thn HY21.out.2.2.2.2.2.1 hb (Nat.le_refl _), HY21.out.2.2.2.2.2.2.below hb⟩)
    clear hb
    go_wp2_with fail
    refine QK.normal ⟨(rangeAt_blk HY24.out.1), ?_⟩
    refine' wpAnyH_two 3 5 (by kernel_rfl) ?_ ?_ ?_ ?_; rotate_left 2; (simp only [List.getElem?_toArray, List.getElem?_cons_zero, List.getElem?_cons_succ]; rfl); (simp only [List.getElem?_toArray, List.getElem?_cons_zero, List.getElem?_cons_succ]; rfl)
    · skip
      try simp only [Act.put]
      go_wp2_with fail
      refine QK.normal ⟨(rangeAt_blk HY24.out.1), ?_⟩
      refine' wpAnyH_one 5 (by kernel_rfl) ?_ ?_; rotate_left; (simp only [List.getElem?_toArray, List.getElem?_cons_zero, List.getElem?_cons_succ]; rfl)
      try simp only [Act.put]
      go_wp2_with fail
      have hx := rright_any p _ _ _ y23 HY24.out.2.2.2.1
      rw [HB1.out] at hx
      refine Calls.mono hx ?_
      clear hx
      rintro e' y25 ⟨rfl, hb⟩
      have HY26 := Lib.hid (show Blk y25 w.heap.size 24 (pmC p.o p.e (Value.slice ra rl rc) (Value.slice qa ql qc) (Value.slice ga gl gc)) ∧ Blk y25 a1.heap.size 24 (pmC q.o q.e (Value.slice ra2 rl2 rc2) (Value.slice qa2 ql2 qc2) (Value.slice ga2 gl2 gc2)) ∧ Blk y25 a3.heap.size 43 (askC u (.slice ma ml mc)) ∧ PmS y25 p (Value.slice ra rl rc) (Value.slice qa ql qc) (Value.slice ga gl gc) ∧ PmS y25 q (Value.slice ra2 rl2 rc2) (Value.slice qa2 ql2 qc2) (Value.slice ga2 gl2 gc2) ∧ Below w.heap.size w y25 ∧ PmS y25 p (Value.slice x22a0 x22l0 x22c0) (Value.slice x22a1 x22l1 x22c1) (Value.slice x22a2 x22l2 x22c2) from ⟨HY24.out.1.below hb HY24.out.1.lt, HY24.out.2.1.below hb HY24.out.2.1.lt, HY24.out.2.2.1.below hb HY24.out.2.2.1.lt, HY24.out.2.2.2.1.below hb, HY24.out.2.2.2.2.1.below hb, below_thn HY24.out.2.2.2.2.2.1 hb (Nat.le_refl _), HY24.out.2.2.2.2.2.2.below hb⟩)
      clear hb
      go_wp2_with fail
      refine QK.normal ⟨(rangeAt_blk HY26.out.1), ?_⟩
      refine' wpAnyH_one 6 (by kernel_rfl) ?_ ?_; rotate_left; (simp only [List.getElem?_toArray, List.getElem?_cons_zero, List.getElem?_cons_succ]; rfl)
      try simp only [Act.put]
      go_wp2_with fail
      refine QK.normal ⟨(rangeAt_blk HY26.out.1), ?_⟩
      refine' wpAnyH_one 7 (by kernel_rfl) ?_ ?_; rotate_left; (simp only [List.getElem?_toArray, List.getElem?_cons_zero, List.getElem?_cons_succ]; rfl)
      try simp only [Act.put]
      go_wp2_with fail
      refine QK.normal ⟨(rangeAt_blk HY26.out.1), ?_⟩
      refine' wpAnyH_one 8 (by kernel_rfl) ?_ ?_; rotate_left; (simp only [List.getElem?_toArray, List.getElem?_cons_zero, List.getElem?_cons_succ]; rfl)
      try simp only [Act.put]
      go_wp2_with (first
    | (with_reducible refine wpList_load_any rfl 24 (.tmp 3) rfl w.heap.size 0 rfl (pmC p.o p.e (Value.slice ra rl rc) (Value.slice qa ql qc) (Value.slice ga gl gc)) _ (rangeW_blk HY26.out.1) Try.underlying24 rfl (pmC_info _ _ _ _ _) ?_)
    | ((with_reducible refine wpList_load_want ?_ 24 (.tmp 3) rfl w.heap.size 0 rfl (pmC p.o p.e (Value.slice ra rl rc) (Value.slice qa ql qc) (Value.slice ga gl gc)) _ (rangeW_blk HY26.out.1) Try.underlying24 rfl (pmC_info _ _ _ _ _) ?_); focus rfl))
      refine QK.normal ⟨(rangeAt_blk HY26.out.1), ?_⟩
      refine' wpAnyH_one 9 (by kernel_rfl) ?_ ?_; rotate_left; (simp only [List.getElem?_toArray, List.getElem?_cons_zero, List.getElem?_cons_succ]; rfl)
      try simp only [Act.put]
      go_wp2_with fail
      have hx := rright_any p _ _ _ y25 HY26.out.2.2.2.1
      rw [HB1.out] at hx
      refine Calls.mono hx ?_
      clear hx
      rintro e' y27 ⟨rfl, hb⟩
      have HY28 := Lib.hid (show Blk y27 w.heap.size 24 (pmC p.o p.e (Value.slice ra rl rc) (Value.slice qa ql qc) (Value.slice ga gl gc)) ∧ Blk y27 a1.heap.size 24 (pmC q.o q.e (Value.slice ra2 rl2 rc2) (Value.slice qa2 ql2 qc2) (Value.slice ga2 gl2 gc2)) ∧ Blk y27 a3.heap.size 43 (askC u (.slice ma ml mc)) ∧ PmS y27 p (Value.slice ra rl rc) (Value.slice qa ql qc) (Value.slice ga gl gc) ∧ PmS y27 q (Value.slice ra2 rl2 rc2) (Value.slice qa2 ql2 qc2) (Value.slice ga2 gl2 gc2) ∧ Below w.heap.size w y27 ∧ PmS y27 p (Value.slice x22a0 x22l0 x22c0) (Value.slice x22a1 x22l1 x22c1) (Value.slice x22a2 x22l2 x22c2) from ⟨HY26.out.1.below hb HY26.out.1.lt, HY26.out.2.1.below hb HY26.out.2.1.lt, HY26.out.2.2.1.below hb HY26.out.2.2.1.lt, HY26.out.2.2.2.1.below hb, HY26.out.2.2.2.2.1.below hb, below_thn HY26.out.2.2.2.2.2.1 hb (Nat.le_refl _), HY26.out.2.2.2.2.2.2.below hb⟩)
      clear hb
      go_wp2_with fail
      refine QK.normal ⟨(rangeAt_blk HY28.out.1), ?_⟩
      refine' wpAnyH_one 10 (by kernel_rfl) ?_ ?_; rotate_left; (simp only [List.getElem?_toArray, List.getElem?_cons_zero, List.getElem?_cons_succ]; rfl)
      try simp only [Act.put]
      go_wp2_with fail
      refine QK.normal ⟨(rangeAt_blk HY28.out.1), ?_⟩
      refine' wpAnyH_one 11 (by kernel_rfl) ?_ ?_; rotate_left; (simp only [List.getElem?_toArray, List.getElem?_cons_zero, List.getElem?_cons_succ]; rfl)
      try simp only [Act.put]
      go_wp2_with (first
    | (with_reducible refine wpList_load_any rfl 24 (.tmp 3) rfl w.heap.size 0 rfl (pmC p.o p.e (Value.slice ra rl rc) (Value.slice qa ql qc) (Value.slice ga gl gc)) _ (rangeW_blk HY28.out.1) Try.underlying24 rfl (pmC_info _ _ _ _ _) ?_)
    | ((with_reducible refine wpList_load_want ?_ 24 (.tmp 3) rfl w.heap.size 0 rfl (pmC p.o p.e (Value.slice ra rl rc) (Value.slice qa ql qc) (Value.slice ga gl gc)) _ (rangeW_blk HY28.out.1) Try.underlying24 rfl (pmC_info _ _ _ _ _) ?_); focus rfl))
      refine QK.normal ⟨(rangeAt_blk HY28.out.1), ?_⟩
      refine' wpAnyH_one 12 (by kernel_rfl) ?_ ?_; rotate_left; (simp only [List.getElem?_toArray, List.getElem?_cons_zero, List.getElem?_cons_succ]; rfl)
      try simp only [Act.put]
      go_wp2_with fail
      have hx := check_of p false HB1.out _ _ _ y27 HY28.out.2.2.2.1
      refine Calls.mono hx ?_
      clear hx
      rintro e' y29 ⟨rfl, hb⟩
      have HY30 := Lib.hid (show Blk y29 w.heap.size 24 (pmC p.o p.e (Value.slice ra rl rc) (Value.slice qa ql qc) (Value.slice ga gl gc)) ∧ Blk y29 a1.heap.size 24 (pmC q.o q.e (Value.slice ra2 rl2 rc2) (Value.slice qa2 ql2 qc2) (Value.slice ga2 gl2 gc2)) ∧ Blk y29 a3.heap.size 43 (askC u (.slice ma ml mc)) ∧ PmS y29 p (Value.slice ra rl rc) (Value.slice qa ql qc) (Value.slice ga gl gc) ∧ PmS y29 q (Value.slice ra2 rl2 rc2) (Value.slice qa2 ql2 qc2) (Value.slice ga2 gl2 gc2) ∧ Below w.heap.size w y29 ∧ PmS y29 p (Value.slice x22a0 x22l0 x22c0) (Value.slice x22a1 x22l1 x22c1) (Value.slice x22a2 x22l2 x22c2) from ⟨HY28.out.1.below hb HY28.out.1.lt, HY28.out.2.1.below hb HY28.out.2.1.lt, HY28.out.2.2.1.below hb HY28.out.2.2.1.lt, HY28.out.2.2.2.1.below hb, HY28.out.2.2.2.2.1.below hb, below_thn HY28.out.2.2.2.2.2.1 hb (Nat.le_refl _), HY28.out.2.2.2.2.2.2.below hb⟩)
      clear hb
      go_wp2_with fail
      refine QK.normal ⟨(rangeAt_blk HY30.out.1), ?_⟩
      refine' wpAnyH_one 13 (by kernel_rfl) ?_ ?_; rotate_left; (simp only [List.getElem?_toArray, List.getElem?_cons_zero, List.getElem?_cons_succ]; rfl)
      try simp only [Act.put]
      go_wp2_with fail
      refine QK.normal ⟨(rangeAt_blk HY30.out.1), ?_⟩
      refine' wpAnyH_one 14 (by kernel_rfl) ?_ ?_; rotate_left; (simp only [List.getElem?_toArray, List.getElem?_cons_zero, List.getElem?_cons_succ]; rfl)
      try simp only [Act.put]
      go_wp2_with fail
      refine QK.normal ⟨(rangeAt_blk HY30.out.1), ?_⟩
      refine' wpAnyH_one 15 (by kernel_rfl) ?_ ?_; rotate_left; (simp only [List.getElem?_toArray, List.getElem?_cons_zero, List.getElem?_cons_succ]; rfl)
      try simp only [Act.put]
      go_wp2_with fail
      refine QK.normal ⟨(rangeAt_blk HY30.out.1), ?_⟩
      refine' wpAnyH_one 16 (by kernel_rfl) ?_ ?_; rotate_left; (simp only [List.getElem?_toArray, List.getElem?_cons_zero, List.getElem?_cons_succ]; rfl)
      try simp only [Act.put]
      go_wp2_with fail
      refine QK.normal ⟨(rangeAt_blk HY30.out.1), ?_⟩
      refine wpAnyH_done (by kernel_rfl) ?_ _
      refine NoPanic.normal ?_
      go_wp2_with fail
      refine wp_region_takes (fun w' => w'.rangeAt w.heap.size 0 (pmC p.o p.e (Value.slice ra rl rc) (Value.slice qa ql qc) (Value.slice ga gl gc)) ∧ w'.rangeAt a1.heap.size 0 (pmC q.o q.e (Value.slice ra2 rl2 rc2) (Value.slice qa2 ql2 qc2) (Value.slice ga2 gl2 gc2))) [0, 1, 2, 3, 5, 6] 11 (by kernel_rfl) rfl (by kernel_rfl) (by kernel_rfl) ⟨rangeAt_blk HY30.out.1, rangeAt_blk HY30.out.2.1⟩ ?_
      iterate 6 (refine' HeldL.run ?_ ?_ ?_ ?_; rotate_left 2; (simp only [List.getElem?_toArray, List.getElem?_cons_zero, List.getElem?_cons_succ]; rfl); rfl; (rintro w' ⟨k0, k1⟩; first | (go_simp; with_reducible rfl) | exact exec_load_mid rfl rfl k0 Try.underlying24 rfl (pmC_info _ _ _ _ _) | exact exec_load_mid rfl rfl k1 Try.underlying24 rfl (pmC_info _ _ _ _ _)); simp only [Act.put, List.setIfInBounds_toArray, List.set_cons_zero, List.set_cons_succ])
      have sm := (Sm.refl y29).drew
      have HV32 := Lib.hid (show Blk y29.drew w.heap.size 24 (pmC p.o p.e (Value.slice ra rl rc) (Value.slice qa ql qc) (Value.slice ga gl gc)) ∧ Blk y29.drew a1.heap.size 24 (pmC q.o q.e (Value.slice ra2 rl2 rc2) (Value.slice qa2 ql2 qc2) (Value.slice ga2 gl2 gc2)) ∧ Blk y29.drew a3.heap.size 43 (askC u (.slice ma ml mc)) ∧ PmS y29.drew p (Value.slice ra rl rc) (Value.slice qa ql qc) (Value.slice ga gl gc) ∧ PmS y29.drew q (Value.slice ra2 rl2 rc2) (Value.slice qa2 ql2 qc2) (Value.slice ga2 gl2 gc2) ∧ Below w.heap.size w y29.drew ∧ PmS y29.drew p (Value.slice x22a0 x22l0 x22c0) (Value.slice x22a1 x22l1 x22c1) (Value.slice x22a2 x22l2 x22c2) from ⟨HY30.out.1.below (sm.below _) HY30.out.1.lt, HY30.out.2.1.below (sm.below _) HY30.out.2.1.lt, HY30.out.2.2.1.below (sm.below _) HY30.out.2.2.1.lt, HY30.out.2.2.2.1.below (sm.below _), HY30.out.2.2.2.2.1.below (sm.below _), below_thn HY30.out.2.2.2.2.2.1 (sm.below _) (Nat.le_refl _), HY30.out.2.2.2.2.2.2.below (sm.below _)⟩)
      clear sm
      generalize y29.drew = v31 at HV32 ⊢
      refine' wpAnyH_one 4 (by kernel_rfl) ?_ ?_; rotate_left; (simp only [List.getElem?_toArray, List.getElem?_cons_zero, List.getElem?_cons_succ]; rfl)
      try simp only [Act.put]
      go_wp2_with fail
      have hx := psame_any p q _ _ _ _ _ _ v31 HV32.out.2.2.2.1 HV32.out.2.2.2.2.1
      rw [HSM2.out] at hx
      refine Calls.mono hx ?_
      clear hx
      rintro e' y33 ⟨rfl, hb⟩
      have HY34 := Lib.hid (show Blk y33 w.heap.size 24 (pmC p.o p.e (Value.slice ra rl rc) (Value.slice qa ql qc) (Value.slice ga gl gc)) ∧ Blk y33 a1.heap.size 24 (pmC q.o q.e (Value.slice ra2 rl2 rc2) (Value.slice qa2 ql2 qc2) (Value.slice ga2 gl2 gc2)) ∧ Blk y33 a3.heap.size 43 (askC u (.slice ma ml mc)) ∧ PmS y33 p (Value.slice ra rl rc) (Value.slice qa ql qc) (Value.slice ga gl gc) ∧ PmS y33 q (Value.slice ra2 rl2 rc2) (Value.slice qa2 ql2 qc2) (Value.slice ga2 gl2 gc2) ∧ Below w.heap.size w y33 ∧ PmS y33 p (Value.slice x22a0 x22l0 x22c0) (Value.slice x22a1 x22l1 x22c1) (Value.slice x22a2 x22l2 x22c2) from ⟨HV32.out.1.below hb HV32.out.1.lt, HV32.out.2.1.below hb HV32.out.2.1.lt, HV32.out.2.2.1.below hb HV32.out.2.2.1.lt, HV32.out.2.2.2.1.below hb, HV32.out.2.2.2.2.1.below hb, below_thn HV32.out.2.2.2.2.2.1 hb (Nat.le_refl _), HV32.out.2.2.2.2.2.2.below hb⟩)
      clear hb
      go_wp2_with fail
      refine QK.normal ⟨⟨rangeAt_blk HY34.out.1, rangeAt_blk HY34.out.2.1⟩, ?_⟩
      refine' wpAnyH_one 7 (by kernel_rfl) ?_ ?_; rotate_left; (simp only [List.getElem?_toArray, List.getElem?_cons_zero, List.getElem?_cons_succ]; rfl)
      try simp only [Act.put]
      go_wp2_with fail
      have hx := rsame_any p q _ _ _ _ _ _ y33 HY34.out.2.2.2.1 HY34.out.2.2.2.2.1
      rw [HSM2.out] at hx
      refine Calls.mono hx ?_
      clear hx
      rintro e' y35 ⟨rfl, hb⟩
      have HY36 := Lib.hid (show Blk y35 w.heap.size 24 (pmC p.o p.e (Value.slice ra rl rc) (Value.slice qa ql qc) (Value.slice ga gl gc)) ∧ Blk y35 a1.heap.size 24 (pmC q.o q.e (Value.slice ra2 rl2 rc2) (Value.slice qa2 ql2 qc2) (Value.slice ga2 gl2 gc2)) ∧ Blk y35 a3.heap.size 43 (askC u (.slice ma ml mc)) ∧ PmS y35 p (Value.slice ra rl rc) (Value.slice qa ql qc) (Value.slice ga gl gc) ∧ PmS y35 q (Value.slice ra2 rl2 rc2) (Value.slice qa2 ql2 qc2) (Value.slice ga2 gl2 gc2) ∧ Below w.heap.size w y35 ∧ PmS y35 p (Value.slice x22a0 x22l0 x22c0) (Value.slice x22a1 x22l1 x22c1) (Value.slice x22a2 x22l2 x22c2) from ⟨HY34.out.1.below hb HY34.out.1.lt, HY34.out.2.1.below hb HY34.out.2.1.lt, HY34.out.2.2.1.below hb HY34.out.2.2.1.lt, HY34.out.2.2.2.1.below hb, HY34.out.2.2.2.2.1.below hb, below_thn HY34.out.2.2.2.2.2.1 hb (Nat.le_refl _), HY34.out.2.2.2.2.2.2.below hb⟩)
      clear hb
      go_wp2_with fail
      refine QK.normal ⟨⟨rangeAt_blk HY36.out.1, rangeAt_blk HY36.out.2.1⟩, ?_⟩
      refine' wpAnyH_one 8 (by kernel_rfl) ?_ ?_; rotate_left; (simp only [List.getElem?_toArray, List.getElem?_cons_zero, List.getElem?_cons_succ]; rfl)
      try simp only [Act.put]
      go_wp2_with fail
      refine QK.normal ⟨⟨rangeAt_blk HY36.out.1, rangeAt_blk HY36.out.2.1⟩, ?_⟩
      refine' wpAnyH_one 9 (by kernel_rfl) ?_ ?_; rotate_left; (simp only [List.getElem?_toArray, List.getElem?_cons_zero, List.getElem?_cons_succ]; rfl)
      try simp only [Act.put]
      go_wp2_with fail
      refine QK.normal ⟨⟨rangeAt_blk HY36.out.1, rangeAt_blk HY36.out.2.1⟩, ?_⟩
      refine' wpAnyH_one 10 (by kernel_rfl) ?_ ?_; rotate_left; (simp only [List.getElem?_toArray, List.getElem?_cons_zero, List.getElem?_cons_succ]; rfl)
      try simp only [Act.put]
      go_wp2_with fail
      refine QK.normal ⟨⟨rangeAt_blk HY36.out.1, rangeAt_blk HY36.out.2.1⟩, ?_⟩
      refine' wpAnyH_two 11 12 (by kernel_rfl) ?_ ?_ ?_ ?_; rotate_left 2; (simp only [List.getElem?_toArray, List.getElem?_cons_zero, List.getElem?_cons_succ]; rfl); (simp only [List.getElem?_toArray, List.getElem?_cons_zero, List.getElem?_cons_succ]; rfl)
      · skip
        try simp only [Act.put]
        go_wp2_with (first
    | (with_reducible refine wpList_load_any rfl 24 (.tmp 3) rfl w.heap.size 0 rfl (pmC p.o p.e (Value.slice ra rl rc) (Value.slice qa ql qc) (Value.slice ga gl gc)) _ (rangeW_blk HY36.out.1) Try.underlying24 rfl (pmC_info _ _ _ _ _) ?_)
    | ((with_reducible refine wpList_load_want ?_ 24 (.tmp 3) rfl w.heap.size 0 rfl (pmC p.o p.e (Value.slice ra rl rc) (Value.slice qa ql qc) (Value.slice ga gl gc)) _ (rangeW_blk HY36.out.1) Try.underlying24 rfl (pmC_info _ _ _ _ _) ?_); focus rfl))
        refine QK.normal ⟨⟨rangeAt_blk HY36.out.1, rangeAt_blk HY36.out.2.1⟩, ?_⟩
        refine' wpAnyH_one 12 (by kernel_rfl) ?_ ?_; rotate_left; (simp only [List.getElem?_toArray, List.getElem?_cons_zero, List.getElem?_cons_succ]; rfl)
        try simp only [Act.put]
        go_wp2_with (first
    | (with_reducible refine wpList_load_any rfl 24 (.tmp 3) rfl w.heap.size 0 rfl (pmC p.o p.e (Value.slice ra rl rc) (Value.slice qa ql qc) (Value.slice ga gl gc)) _ (rangeW_blk HY36.out.1) Try.underlying24 rfl (pmC_info _ _ _ _ _) ?_)
    | ((with_reducible refine wpList_load_want ?_ 24 (.tmp 3) rfl w.heap.size 0 rfl (pmC p.o p.e (Value.slice ra rl rc) (Value.slice qa ql qc) (Value.slice ga gl gc)) _ (rangeW_blk HY36.out.1) Try.underlying24 rfl (pmC_info _ _ _ _ _) ?_); focus rfl))
        refine QK.normal ⟨⟨rangeAt_blk HY36.out.1, rangeAt_blk HY36.out.2.1⟩, ?_⟩
        refine' wpAnyH_one 13 (by kernel_rfl) ?_ ?_; rotate_left; (simp only [List.getElem?_toArray, List.getElem?_cons_zero, List.getElem?_cons_succ]; rfl)
        try simp only [Act.put]
        go_wp2_with fail
        refine (copied_any p _ _ _ y35 HY36.out.2.2.2.1 HLEN.out).mono ?_
        rintro e' y37 ⟨x39r, x39q, x39g, rfl, hs, hb, -⟩
        obtain ⟨x39a0, x39c0, rfl, -⟩ := hs.1.shape
        obtain ⟨x39a1, x39c1, rfl, -⟩ := hs.2.1.shape
        obtain ⟨x39a2, x39c2, rfl, -⟩ := hs.2.2.shape
        generalize (ofK .i64 p.r).length = x39l0 at hs ⊢
        generalize (ofK .i64 p.q).length = x39l1 at hs ⊢
        generalize (ofK .i64 p.g).length = x39l2 at hs ⊢
        have HY38 := Lib.hid (show Blk y37 w.heap.size 24 (pmC p.o p.e (Value.slice ra rl rc) (Value.slice qa ql qc) (Value.slice ga gl gc)) ∧ Blk y37 a1.heap.size 24 (pmC q.o q.e (Value.slice ra2 rl2 rc2) (Value.slice qa2 ql2 qc2) (Value.slice ga2 gl2 gc2)) ∧ Blk y37 a3.heap.size 43 (askC u (.slice ma ml mc)) ∧ PmS y37 p (Value.slice ra rl rc) (Value.slice qa ql qc) (Value.slice ga gl gc) ∧ PmS y37 q (Value.slice ra2 rl2 rc2) (Value.slice qa2 ql2 qc2) (Value.slice ga2 gl2 gc2) ∧ Below w.heap.size w y37 ∧ PmS y37 p (Value.slice x22a0 x22l0 x22c0) (Value.slice x22a1 x22l1 x22c1) (Value.slice x22a2 x22l2 x22c2) ∧ PmS y37 p (Value.slice x39a0 x39l0 x39c0) (Value.slice x39a1 x39l1 x39c1) (Value.slice x39a2 x39l2 x39c2) from ⟨HY36.out.1.below hb HY36.out.1.lt, HY36.out.2.1.below hb HY36.out.2.1.lt, HY36.out.2.2.1.below hb HY36.out.2.2.1.lt, HY36.out.2.2.2.1.below hb, HY36.out.2.2.2.2.1.below hb, below_thn HY36.out.2.2.2.2.2.1 hb (Nat.le_refl _), HY36.out.2.2.2.2.2.2.below hb, hs⟩)
        clear hs hb
        go_wp2_with fail
        refine QK.normal ⟨⟨rangeAt_blk HY38.out.1, rangeAt_blk HY38.out.2.1⟩, ?_⟩
        refine' wpAnyH_one 14 (by kernel_rfl) ?_ ?_; rotate_left; (simp only [List.getElem?_toArray, List.getElem?_cons_zero, List.getElem?_cons_succ]; rfl)
        try simp only [Act.put]
        go_wp2_with fail
        have hx := psame_any p p _ _ _ _ _ _ y37 HY38.out.2.2.2.1 HY38.out.2.2.2.2.2.2.2
        rw [same_self p] at hx
        refine Calls.mono hx ?_
        clear hx
        rintro e' y40 ⟨rfl, hb⟩
        have HY41 := Lib.hid (show Blk y40 w.heap.size 24 (pmC p.o p.e (Value.slice ra rl rc) (Value.slice qa ql qc) (Value.slice ga gl gc)) ∧ Blk y40 a1.heap.size 24 (pmC q.o q.e (Value.slice ra2 rl2 rc2) (Value.slice qa2 ql2 qc2) (Value.slice ga2 gl2 gc2)) ∧ Blk y40 a3.heap.size 43 (askC u (.slice ma ml mc)) ∧ PmS y40 p (Value.slice ra rl rc) (Value.slice qa ql qc) (Value.slice ga gl gc) ∧ PmS y40 q (Value.slice ra2 rl2 rc2) (Value.slice qa2 ql2 qc2) (Value.slice ga2 gl2 gc2) ∧ Below w.heap.size w y40 ∧ PmS y40 p (Value.slice x22a0 x22l0 x22c0) (Value.slice x22a1 x22l1 x22c1) (Value.slice x22a2 x22l2 x22c2) ∧ PmS y40 p (Value.slice x39a0 x39l0 x39c0) (Value.slice x39a1 x39l1 x39c1) (Value.slice x39a2 x39l2 x39c2) from ⟨HY38.out.1.below hb HY38.out.1.lt, HY38.out.2.1.below hb HY38.out.2.1.lt, HY38.out.2.2.1.below hb HY38.out.2.2.1.lt, HY38.out.2.2.2.1.below hb, HY38.out.2.2.2.2.1.below hb, below_thn HY38.out.2.2.2.2.2.1 hb (Nat.le_refl _), HY38.out.2.2.2.2.2.2.1.below hb, HY38.out.2.2.2.2.2.2.2.below hb⟩)
        clear hb
        go_wp2_with fail
        refine QK.normal ⟨⟨rangeAt_blk HY41.out.1, rangeAt_blk HY41.out.2.1⟩, ?_⟩
        refine' wpAnyH_one 15 (by kernel_rfl) ?_ ?_; rotate_left; (simp only [List.getElem?_toArray, List.getElem?_cons_zero, List.getElem?_cons_succ]; rfl)
        try simp only [Act.put]
        go_wp2_with fail
        refine QK.normal ⟨⟨rangeAt_blk HY41.out.1, rangeAt_blk HY41.out.2.1⟩, ?_⟩
        refine' wpAnyH_one 16 (by kernel_rfl) ?_ ?_; rotate_left; (simp only [List.getElem?_toArray, List.getElem?_cons_zero, List.getElem?_cons_succ]; rfl)
        try simp only [Act.put]
        go_wp2_with fail
        refine QK.normal ⟨⟨rangeAt_blk HY41.out.1, rangeAt_blk HY41.out.2.1⟩, ?_⟩
        refine wpAnyH_done (by kernel_rfl) ?_ _
        refine NoPanic.normal ?_
        go_wp2_with fail
        have C1 := Lib.hid (fun x => show Calls Try.prog 20 #[.agg (pmC p.o p.e (Value.slice ra rl rc) (Value.slice qa ql qc) (Value.slice ga gl gc)).toArray, .int .i64 u] (grew y40 x) (fun e w' => e = .returned (.bool (mayWB p u)) ∧ Below (grew y40 x).heap.size (grew y40 x) w') from mayWrite_any p u _ _ _ (grew y40 x) (HY41.out.2.2.2.1.below (below_grew y40 x)))
        have C2 := Lib.hid (fun x => show Calls Try.prog 21 #[.agg (pmC p.o p.e (Value.slice ra rl rc) (Value.slice qa ql qc) (Value.slice ga gl gc)).toArray, .int .i64 u] (grew y40 x) (fun e w' => e = .returned (.bool (mayWB p u)) ∧ Below (grew y40 x).heap.size (grew y40 x) w') from rmayWrite_any p u _ _ _ (grew y40 x) (HY41.out.2.2.2.1.below (below_grew y40 x)))
        have C3 := Lib.hid (fun x => show Calls Try.prog 22 #[.agg (pmC p.o p.e (Value.slice ra rl rc) (Value.slice qa ql qc) (Value.slice ga gl gc)).toArray, .int .i64 u, .slice ma ml mc] (grew y40 x) (fun e w' => e = .returned (.bool (mayRB p u m)) ∧ Below (grew y40 x).heap.size (grew y40 x) w') from mayRead_any p u m _ _ _ _ (grew y40 x) (HY41.out.2.2.2.1.below (below_grew y40 x)) ((HSM.out.below HY41.out.2.2.2.2.2.1).below (below_grew y40 x)))
        have C4 := Lib.hid (fun x => show Calls Try.prog 23 #[.agg (pmC p.o p.e (Value.slice ra rl rc) (Value.slice qa ql qc) (Value.slice ga gl gc)).toArray, .int .i64 u, .slice ma ml mc] (grew y40 x) (fun e w' => e = .returned (.bool (mayRB p u m)) ∧ Below (grew y40 x).heap.size (grew y40 x) w') from rmayRead_any p u m _ _ _ _ (grew y40 x) (HY41.out.2.2.2.1.below (below_grew y40 x)) ((HSM.out.below HY41.out.2.2.2.2.2.1).below (below_grew y40 x)))
        obtain ⟨r1, hr1⟩ : ∃ b, mayWB p u = b := ⟨_, rfl⟩
        obtain ⟨r2, hr2⟩ : ∃ b, mayRB p u m = b := ⟨_, rfl⟩
        rw [hr1] at C1 C2
        rw [hr2] at C3 C4
        clear hr1 hr2
        have x0 := HY41.out.2.2.1.cell 0
        have x1 := HY41.out.2.2.1.cell 1
        simp only [askC, List.getElem?_cons_zero, List.getElem?_cons_succ] at x0 x1
        replace x0 := fun q => cell_grew x0 q
        replace x1 := fun q => cell_grew x1 q
        refine wp_region_grew (by kernel_rfl) (by kernel_rfl) ?_
        repeat (first | go_big_quiet_skip | (go_big_quiet_want; (first | (refine quiet_load_mid 24 (.tmp 3) rfl w.heap.size 0 rfl (pmC p.o p.e (Value.slice ra rl rc) (Value.slice qa ql qc) (Value.slice ga gl gc)) _ (fun w' hw' => rangeAt_grew (rangeAt_blk HY41.out.1) w' hw') Try.underlying24 rfl (pmC_info _ _ _ _ _) ?_; go_simp; go_big_quiet_on) | (go_big_quiet_op; (first | go_big_quiet_on | (apply Exists.intro; refine ⟨fun _ => ?_, ?_⟩; (focus (first | (go_at_call 20; with_reducible exact calls_grew (C1.out _)) | (go_at_call 21; with_reducible exact calls_grew (C2.out _)) | (go_at_call 22; with_reducible exact calls_grew (C3.out _)) | (go_at_call 23; with_reducible exact calls_grew (C4.out _)))); go_big_quiet_on))))))
        refine wpQuiet_nil ?_
        intro w9 hw9
        obtain ⟨x9, rfl⟩ := hw9
        clear x0 x1 C1 C2 C3 C4
        go_wp2_with fail
        go_ret
        exact ⟨by simp, below_thn HY41.out.2.2.2.2.2.1 (below_grew y40 x9) (Nat.le_refl _)⟩
      · skip
        try simp only [Act.put]
        go_wp2_with (first
    | (with_reducible refine wpList_load_any rfl 24 (.tmp 3) rfl w.heap.size 0 rfl (pmC p.o p.e (Value.slice ra rl rc) (Value.slice qa ql qc) (Value.slice ga gl gc)) _ (rangeW_blk HY36.out.1) Try.underlying24 rfl (pmC_info _ _ _ _ _) ?_)
    | ((with_reducible refine wpList_load_want ?_ 24 (.tmp 3) rfl w.heap.size 0 rfl (pmC p.o p.e (Value.slice ra rl rc) (Value.slice qa ql qc) (Value.slice ga gl gc)) _ (rangeW_blk HY36.out.1) Try.underlying24 rfl (pmC_info _ _ _ _ _) ?_); focus rfl))
        refine QK.normal ⟨⟨rangeAt_blk HY36.out.1, rangeAt_blk HY36.out.2.1⟩, ?_⟩
        refine' wpAnyH_two 11 13 (by kernel_rfl) ?_ ?_ ?_ ?_; rotate_left 2; (simp only [List.getElem?_toArray, List.getElem?_cons_zero, List.getElem?_cons_succ]; rfl); (simp only [List.getElem?_toArray, List.getElem?_cons_zero, List.getElem?_cons_succ]; rfl)
        · skip
          try simp only [Act.put]
          go_wp2_with (first
    | (with_reducible refine wpList_load_any rfl 24 (.tmp 3) rfl w.heap.size 0 rfl (pmC p.o p.e (Value.slice ra rl rc) (Value.slice qa ql qc) (Value.slice ga gl gc)) _ (rangeW_blk HY36.out.1) Try.underlying24 rfl (pmC_info _ _ _ _ _) ?_)
    | ((with_reducible refine wpList_load_want ?_ 24 (.tmp 3) rfl w.heap.size 0 rfl (pmC p.o p.e (Value.slice ra rl rc) (Value.slice qa ql qc) (Value.slice ga gl gc)) _ (rangeW_blk HY36.out.1) Try.underlying24 rfl (pmC_info _ _ _ _ _) ?_); focus rfl))
          refine QK.normal ⟨⟨rangeAt_blk HY36.out.1, rangeAt_blk HY36.out.2.1⟩, ?_⟩
          refine' wpAnyH_one 13 (by kernel_rfl) ?_ ?_; rotate_left; (simp only [List.getElem?_toArray, List.getElem?_cons_zero, List.getElem?_cons_succ]; rfl)
          try simp only [Act.put]
          go_wp2_with fail
          refine (copied_any p _ _ _ y35 HY36.out.2.2.2.1 HLEN.out).mono ?_
          rintro e' y42 ⟨x44r, x44q, x44g, rfl, hs, hb, -⟩
          obtain ⟨x44a0, x44c0, rfl, -⟩ := hs.1.shape
          obtain ⟨x44a1, x44c1, rfl, -⟩ := hs.2.1.shape
          obtain ⟨x44a2, x44c2, rfl, -⟩ := hs.2.2.shape
          generalize (ofK .i64 p.r).length = x44l0 at hs ⊢
          generalize (ofK .i64 p.q).length = x44l1 at hs ⊢
          generalize (ofK .i64 p.g).length = x44l2 at hs ⊢
          have HY43 := Lib.hid (show Blk y42 w.heap.size 24 (pmC p.o p.e (Value.slice ra rl rc) (Value.slice qa ql qc) (Value.slice ga gl gc)) ∧ Blk y42 a1.heap.size 24 (pmC q.o q.e (Value.slice ra2 rl2 rc2) (Value.slice qa2 ql2 qc2) (Value.slice ga2 gl2 gc2)) ∧ Blk y42 a3.heap.size 43 (askC u (.slice ma ml mc)) ∧ PmS y42 p (Value.slice ra rl rc) (Value.slice qa ql qc) (Value.slice ga gl gc) ∧ PmS y42 q (Value.slice ra2 rl2 rc2) (Value.slice qa2 ql2 qc2) (Value.slice ga2 gl2 gc2) ∧ Below w.heap.size w y42 ∧ PmS y42 p (Value.slice x22a0 x22l0 x22c0) (Value.slice x22a1 x22l1 x22c1) (Value.slice x22a2 x22l2 x22c2) ∧ PmS y42 p (Value.slice x44a0 x44l0 x44c0) (Value.slice x44a1 x44l1 x44c1) (Value.slice x44a2 x44l2 x44c2) from ⟨HY36.out.1.below hb HY36.out.1.lt, HY36.out.2.1.below hb HY36.out.2.1.lt, HY36.out.2.2.1.below hb HY36.out.2.2.1.lt, HY36.out.2.2.2.1.below hb, HY36.out.2.2.2.2.1.below hb, below_thn HY36.out.2.2.2.2.2.1 hb (Nat.le_refl _), HY36.out.2.2.2.2.2.2.below hb, hs⟩)
          clear hs hb
          go_wp2_with fail
          refine QK.normal ⟨⟨rangeAt_blk HY43.out.1, rangeAt_blk HY43.out.2.1⟩, ?_⟩
          refine' wpAnyH_one 14 (by kernel_rfl) ?_ ?_; rotate_left; (simp only [List.getElem?_toArray, List.getElem?_cons_zero, List.getElem?_cons_succ]; rfl)
          try simp only [Act.put]
          go_wp2_with fail
          have hx := psame_any p p _ _ _ _ _ _ y42 HY43.out.2.2.2.1 HY43.out.2.2.2.2.2.2.2
          rw [same_self p] at hx
          refine Calls.mono hx ?_
          clear hx
          rintro e' y45 ⟨rfl, hb⟩
          have HY46 := Lib.hid (show Blk y45 w.heap.size 24 (pmC p.o p.e (Value.slice ra rl rc) (Value.slice qa ql qc) (Value.slice ga gl gc)) ∧ Blk y45 a1.heap.size 24 (pmC q.o q.e (Value.slice ra2 rl2 rc2) (Value.slice qa2 ql2 qc2) (Value.slice ga2 gl2 gc2)) ∧ Blk y45 a3.heap.size 43 (askC u (.slice ma ml mc)) ∧ PmS y45 p (Value.slice ra rl rc) (Value.slice qa ql qc) (Value.slice ga gl gc) ∧ PmS y45 q (Value.slice ra2 rl2 rc2) (Value.slice qa2 ql2 qc2) (Value.slice ga2 gl2 gc2) ∧ Below w.heap.size w y45 ∧ PmS y45 p (Value.slice x22a0 x22l0 x22c0) (Value.slice x22a1 x22l1 x22c1) (Value.slice x22a2 x22l2 x22c2) ∧ PmS y45 p (Value.slice x44a0 x44l0 x44c0) (Value.slice x44a1 x44l1 x44c1) (Value.slice x44a2 x44l2 x44c2) from ⟨HY43.out.1.below hb HY43.out.1.lt, HY43.out.2.1.below hb HY43.out.2.1.lt, HY43.out.2.2.1.below hb HY43.out.2.2.1.lt, HY43.out.2.2.2.1.below hb, HY43.out.2.2.2.2.1.below hb, below_thn HY43.out.2.2.2.2.2.1 hb (Nat.le_refl _), HY43.out.2.2.2.2.2.2.1.below hb, HY43.out.2.2.2.2.2.2.2.below hb⟩)
          clear hb
          go_wp2_with fail
          refine QK.normal ⟨⟨rangeAt_blk HY46.out.1, rangeAt_blk HY46.out.2.1⟩, ?_⟩
          refine' wpAnyH_one 15 (by kernel_rfl) ?_ ?_; rotate_left; (simp only [List.getElem?_toArray, List.getElem?_cons_zero, List.getElem?_cons_succ]; rfl)
          try simp only [Act.put]
          go_wp2_with fail
          refine QK.normal ⟨⟨rangeAt_blk HY46.out.1, rangeAt_blk HY46.out.2.1⟩, ?_⟩
          refine' wpAnyH_one 16 (by kernel_rfl) ?_ ?_; rotate_left; (simp only [List.getElem?_toArray, List.getElem?_cons_zero, List.getElem?_cons_succ]; rfl)
          try simp only [Act.put]
          go_wp2_with fail
          refine QK.normal ⟨⟨rangeAt_blk HY46.out.1, rangeAt_blk HY46.out.2.1⟩, ?_⟩
          refine wpAnyH_done (by kernel_rfl) ?_ _
          refine NoPanic.normal ?_
          go_wp2_with fail
          have C1 := Lib.hid (fun x => show Calls Try.prog 20 #[.agg (pmC p.o p.e (Value.slice ra rl rc) (Value.slice qa ql qc) (Value.slice ga gl gc)).toArray, .int .i64 u] (grew y45 x) (fun e w' => e = .returned (.bool (mayWB p u)) ∧ Below (grew y45 x).heap.size (grew y45 x) w') from mayWrite_any p u _ _ _ (grew y45 x) (HY46.out.2.2.2.1.below (below_grew y45 x)))
          have C2 := Lib.hid (fun x => show Calls Try.prog 21 #[.agg (pmC p.o p.e (Value.slice ra rl rc) (Value.slice qa ql qc) (Value.slice ga gl gc)).toArray, .int .i64 u] (grew y45 x) (fun e w' => e = .returned (.bool (mayWB p u)) ∧ Below (grew y45 x).heap.size (grew y45 x) w') from rmayWrite_any p u _ _ _ (grew y45 x) (HY46.out.2.2.2.1.below (below_grew y45 x)))
          have C3 := Lib.hid (fun x => show Calls Try.prog 22 #[.agg (pmC p.o p.e (Value.slice ra rl rc) (Value.slice qa ql qc) (Value.slice ga gl gc)).toArray, .int .i64 u, .slice ma ml mc] (grew y45 x) (fun e w' => e = .returned (.bool (mayRB p u m)) ∧ Below (grew y45 x).heap.size (grew y45 x) w') from mayRead_any p u m _ _ _ _ (grew y45 x) (HY46.out.2.2.2.1.below (below_grew y45 x)) ((HSM.out.below HY46.out.2.2.2.2.2.1).below (below_grew y45 x)))
          have C4 := Lib.hid (fun x => show Calls Try.prog 23 #[.agg (pmC p.o p.e (Value.slice ra rl rc) (Value.slice qa ql qc) (Value.slice ga gl gc)).toArray, .int .i64 u, .slice ma ml mc] (grew y45 x) (fun e w' => e = .returned (.bool (mayRB p u m)) ∧ Below (grew y45 x).heap.size (grew y45 x) w') from rmayRead_any p u m _ _ _ _ (grew y45 x) (HY46.out.2.2.2.1.below (below_grew y45 x)) ((HSM.out.below HY46.out.2.2.2.2.2.1).below (below_grew y45 x)))
          obtain ⟨r1, hr1⟩ : ∃ b, mayWB p u = b := ⟨_, rfl⟩
          obtain ⟨r2, hr2⟩ : ∃ b, mayRB p u m = b := ⟨_, rfl⟩
          rw [hr1] at C1 C2
          rw [hr2] at C3 C4
          clear hr1 hr2
          have x0 := HY46.out.2.2.1.cell 0
          have x1 := HY46.out.2.2.1.cell 1
          simp only [askC, List.getElem?_cons_zero, List.getElem?_cons_succ] at x0 x1
          replace x0 := fun q => cell_grew x0 q
          replace x1 := fun q => cell_grew x1 q
          refine wp_region_grew (by kernel_rfl) (by kernel_rfl) ?_
          repeat (first | go_big_quiet_skip | (go_big_quiet_want; (first | (refine quiet_load_mid 24 (.tmp 3) rfl w.heap.size 0 rfl (pmC p.o p.e (Value.slice ra rl rc) (Value.slice qa ql qc) (Value.slice ga gl gc)) _ (fun w' hw' => rangeAt_grew (rangeAt_blk HY46.out.1) w' hw') Try.underlying24 rfl (pmC_info _ _ _ _ _) ?_; go_simp; go_big_quiet_on) | (go_big_quiet_op; (first | go_big_quiet_on | (apply Exists.intro; refine ⟨fun _ => ?_, ?_⟩; (focus (first | (go_at_call 20; with_reducible exact calls_grew (C1.out _)) | (go_at_call 21; with_reducible exact calls_grew (C2.out _)) | (go_at_call 22; with_reducible exact calls_grew (C3.out _)) | (go_at_call 23; with_reducible exact calls_grew (C4.out _)))); go_big_quiet_on))))))
          refine wpQuiet_nil ?_
          intro w9 hw9
          obtain ⟨x9, rfl⟩ := hw9
          clear x0 x1 C1 C2 C3 C4
          go_wp2_with fail
          go_ret
          exact ⟨by simp, below_thn HY46.out.2.2.2.2.2.1 (below_grew y45 x9) (Nat.le_refl _)⟩
        · skip
          try simp only [Act.put]
          go_wp2_with fail
          refine (copied_any p _ _ _ y35 HY36.out.2.2.2.1 HLEN.out).mono ?_
          rintro e' y47 ⟨x49r, x49q, x49g, rfl, hs, hb, -⟩
          obtain ⟨x49a0, x49c0, rfl, -⟩ := hs.1.shape
          obtain ⟨x49a1, x49c1, rfl, -⟩ := hs.2.1.shape
          obtain ⟨x49a2, x49c2, rfl, -⟩ := hs.2.2.shape
          generalize (ofK .i64 p.r).length = x49l0 at hs ⊢
          generalize (ofK .i64 p.q).length = x49l1 at hs ⊢
          generalize (ofK .i64 p.g).length = x49l2 at hs ⊢
          have HY48 := Lib.hid (show Blk y47 w.heap.size 24 (pmC p.o p.e (Value.slice ra rl rc) (Value.slice qa ql qc) (Value.slice ga gl gc)) ∧ Blk y47 a1.heap.size 24 (pmC q.o q.e (Value.slice ra2 rl2 rc2) (Value.slice qa2 ql2 qc2) (Value.slice ga2 gl2 gc2)) ∧ Blk y47 a3.heap.size 43 (askC u (.slice ma ml mc)) ∧ PmS y47 p (Value.slice ra rl rc) (Value.slice qa ql qc) (Value.slice ga gl gc) ∧ PmS y47 q (Value.slice ra2 rl2 rc2) (Value.slice qa2 ql2 qc2) (Value.slice ga2 gl2 gc2) ∧ Below w.heap.size w y47 ∧ PmS y47 p (Value.slice x22a0 x22l0 x22c0) (Value.slice x22a1 x22l1 x22c1) (Value.slice x22a2 x22l2 x22c2) ∧ PmS y47 p (Value.slice x49a0 x49l0 x49c0) (Value.slice x49a1 x49l1 x49c1) (Value.slice x49a2 x49l2 x49c2) from ⟨HY36.out.1.below hb HY36.out.1.lt, HY36.out.2.1.below hb HY36.out.2.1.lt, HY36.out.2.2.1.below hb HY36.out.2.2.1.lt, HY36.out.2.2.2.1.below hb, HY36.out.2.2.2.2.1.below hb, below_thn HY36.out.2.2.2.2.2.1 hb (Nat.le_refl _), HY36.out.2.2.2.2.2.2.below hb, hs⟩)
          clear hs hb
          go_wp2_with fail
          refine QK.normal ⟨⟨rangeAt_blk HY48.out.1, rangeAt_blk HY48.out.2.1⟩, ?_⟩
          refine' wpAnyH_one 11 (by kernel_rfl) ?_ ?_; rotate_left; (simp only [List.getElem?_toArray, List.getElem?_cons_zero, List.getElem?_cons_succ]; rfl)
          try simp only [Act.put]
          go_wp2_with (first
    | (with_reducible refine wpList_load_any rfl 24 (.tmp 3) rfl w.heap.size 0 rfl (pmC p.o p.e (Value.slice ra rl rc) (Value.slice qa ql qc) (Value.slice ga gl gc)) _ (rangeW_blk HY48.out.1) Try.underlying24 rfl (pmC_info _ _ _ _ _) ?_)
    | ((with_reducible refine wpList_load_want ?_ 24 (.tmp 3) rfl w.heap.size 0 rfl (pmC p.o p.e (Value.slice ra rl rc) (Value.slice qa ql qc) (Value.slice ga gl gc)) _ (rangeW_blk HY48.out.1) Try.underlying24 rfl (pmC_info _ _ _ _ _) ?_); focus rfl))
          refine QK.normal ⟨⟨rangeAt_blk HY48.out.1, rangeAt_blk HY48.out.2.1⟩, ?_⟩
          refine' wpAnyH_one 14 (by kernel_rfl) ?_ ?_; rotate_left; (simp only [List.getElem?_toArray, List.getElem?_cons_zero, List.getElem?_cons_succ]; rfl)
          try simp only [Act.put]
          go_wp2_with fail
          have hx := psame_any p p _ _ _ _ _ _ y47 HY48.out.2.2.2.1 HY48.out.2.2.2.2.2.2.2
          rw [same_self p] at hx
          refine Calls.mono hx ?_
          clear hx
          rintro e' y50 ⟨rfl, hb⟩
          have HY51 := Lib.hid (show Blk y50 w.heap.size 24 (pmC p.o p.e (Value.slice ra rl rc) (Value.slice qa ql qc) (Value.slice ga gl gc)) ∧ Blk y50 a1.heap.size 24 (pmC q.o q.e (Value.slice ra2 rl2 rc2) (Value.slice qa2 ql2 qc2) (Value.slice ga2 gl2 gc2)) ∧ Blk y50 a3.heap.size 43 (askC u (.slice ma ml mc)) ∧ PmS y50 p (Value.slice ra rl rc) (Value.slice qa ql qc) (Value.slice ga gl gc) ∧ PmS y50 q (Value.slice ra2 rl2 rc2) (Value.slice qa2 ql2 qc2) (Value.slice ga2 gl2 gc2) ∧ Below w.heap.size w y50 ∧ PmS y50 p (Value.slice x22a0 x22l0 x22c0) (Value.slice x22a1 x22l1 x22c1) (Value.slice x22a2 x22l2 x22c2) ∧ PmS y50 p (Value.slice x49a0 x49l0 x49c0) (Value.slice x49a1 x49l1 x49c1) (Value.slice x49a2 x49l2 x49c2) from ⟨HY48.out.1.below hb HY48.out.1.lt, HY48.out.2.1.below hb HY48.out.2.1.lt, HY48.out.2.2.1.below hb HY48.out.2.2.1.lt, HY48.out.2.2.2.1.below hb, HY48.out.2.2.2.2.1.below hb, below_thn HY48.out.2.2.2.2.2.1 hb (Nat.le_refl _), HY48.out.2.2.2.2.2.2.1.below hb, HY48.out.2.2.2.2.2.2.2.below hb⟩)
          clear hb
          go_wp2_with fail
          refine QK.normal ⟨⟨rangeAt_blk HY51.out.1, rangeAt_blk HY51.out.2.1⟩, ?_⟩
          refine' wpAnyH_one 15 (by kernel_rfl) ?_ ?_; rotate_left; (simp only [List.getElem?_toArray, List.getElem?_cons_zero, List.getElem?_cons_succ]; rfl)
          try simp only [Act.put]
          go_wp2_with fail
          refine QK.normal ⟨⟨rangeAt_blk HY51.out.1, rangeAt_blk HY51.out.2.1⟩, ?_⟩
          refine' wpAnyH_one 16 (by kernel_rfl) ?_ ?_; rotate_left; (simp only [List.getElem?_toArray, List.getElem?_cons_zero, List.getElem?_cons_succ]; rfl)
          try simp only [Act.put]
          go_wp2_with fail
          refine QK.normal ⟨⟨rangeAt_blk HY51.out.1, rangeAt_blk HY51.out.2.1⟩, ?_⟩
          refine wpAnyH_done (by kernel_rfl) ?_ _
          refine NoPanic.normal ?_
          go_wp2_with fail
          have C1 := Lib.hid (fun x => show Calls Try.prog 20 #[.agg (pmC p.o p.e (Value.slice ra rl rc) (Value.slice qa ql qc) (Value.slice ga gl gc)).toArray, .int .i64 u] (grew y50 x) (fun e w' => e = .returned (.bool (mayWB p u)) ∧ Below (grew y50 x).heap.size (grew y50 x) w') from mayWrite_any p u _ _ _ (grew y50 x) (HY51.out.2.2.2.1.below (below_grew y50 x)))
          have C2 := Lib.hid (fun x => show Calls Try.prog 21 #[.agg (pmC p.o p.e (Value.slice ra rl rc) (Value.slice qa ql qc) (Value.slice ga gl gc)).toArray, .int .i64 u] (grew y50 x) (fun e w' => e = .returned (.bool (mayWB p u)) ∧ Below (grew y50 x).heap.size (grew y50 x) w') from rmayWrite_any p u _ _ _ (grew y50 x) (HY51.out.2.2.2.1.below (below_grew y50 x)))
          have C3 := Lib.hid (fun x => show Calls Try.prog 22 #[.agg (pmC p.o p.e (Value.slice ra rl rc) (Value.slice qa ql qc) (Value.slice ga gl gc)).toArray, .int .i64 u, .slice ma ml mc] (grew y50 x) (fun e w' => e = .returned (.bool (mayRB p u m)) ∧ Below (grew y50 x).heap.size (grew y50 x) w') from mayRead_any p u m _ _ _ _ (grew y50 x) (HY51.out.2.2.2.1.below (below_grew y50 x)) ((HSM.out.below HY51.out.2.2.2.2.2.1).below (below_grew y50 x)))
          have C4 := Lib.hid (fun x => show Calls Try.prog 23 #[.agg (pmC p.o p.e (Value.slice ra rl rc) (Value.slice qa ql qc) (Value.slice ga gl gc)).toArray, .int .i64 u, .slice ma ml mc] (grew y50 x) (fun e w' => e = .returned (.bool (mayRB p u m)) ∧ Below (grew y50 x).heap.size (grew y50 x) w') from rmayRead_any p u m _ _ _ _ (grew y50 x) (HY51.out.2.2.2.1.below (below_grew y50 x)) ((HSM.out.below HY51.out.2.2.2.2.2.1).below (below_grew y50 x)))
          obtain ⟨r1, hr1⟩ : ∃ b, mayWB p u = b := ⟨_, rfl⟩
          obtain ⟨r2, hr2⟩ : ∃ b, mayRB p u m = b := ⟨_, rfl⟩
          rw [hr1] at C1 C2
          rw [hr2] at C3 C4
          clear hr1 hr2
          have x0 := HY51.out.2.2.1.cell 0
          have x1 := HY51.out.2.2.1.cell 1
          simp only [askC, List.getElem?_cons_zero, List.getElem?_cons_succ] at x0 x1
          replace x0 := fun q => cell_grew x0 q
          replace x1 := fun q => cell_grew x1 q
          refine wp_region_grew (by kernel_rfl) (by kernel_rfl) ?_
          repeat (first | go_big_quiet_skip | (go_big_quiet_want; (first | (refine quiet_load_mid 24 (.tmp 3) rfl w.heap.size 0 rfl (pmC p.o p.e (Value.slice ra rl rc) (Value.slice qa ql qc) (Value.slice ga gl gc)) _ (fun w' hw' => rangeAt_grew (rangeAt_blk HY51.out.1) w' hw') Try.underlying24 rfl (pmC_info _ _ _ _ _) ?_; go_simp; go_big_quiet_on) | (go_big_quiet_op; (first | go_big_quiet_on | (apply Exists.intro; refine ⟨fun _ => ?_, ?_⟩; (focus (first | (go_at_call 20; with_reducible exact calls_grew (C1.out _)) | (go_at_call 21; with_reducible exact calls_grew (C2.out _)) | (go_at_call 22; with_reducible exact calls_grew (C3.out _)) | (go_at_call 23; with_reducible exact calls_grew (C4.out _)))); go_big_quiet_on))))))
          refine wpQuiet_nil ?_
          intro w9 hw9
          obtain ⟨x9, rfl⟩ := hw9
          clear x0 x1 C1 C2 C3 C4
          go_wp2_with fail
          go_ret
          exact ⟨by simp, below_thn HY51.out.2.2.2.2.2.1 (below_grew y50 x9) (Nat.le_refl _)⟩
    · skip
      try simp only [Act.put]
      go_wp2_with fail
      have hx := rright_any p _ _ _ y23 HY24.out.2.2.2.1
      rw [HB1.out] at hx
      refine Calls.mono hx ?_
      clear hx
      rintro e' y52 ⟨rfl, hb⟩
      have HY53 := Lib.hid (show Blk y52 w.heap.size 24 (pmC p.o p.e (Value.slice ra rl rc) (Value.slice qa ql qc) (Value.slice ga gl gc)) ∧ Blk y52 a1.heap.size 24 (pmC q.o q.e (Value.slice ra2 rl2 rc2) (Value.slice qa2 ql2 qc2) (Value.slice ga2 gl2 gc2)) ∧ Blk y52 a3.heap.size 43 (askC u (.slice ma ml mc)) ∧ PmS y52 p (Value.slice ra rl rc) (Value.slice qa ql qc) (Value.slice ga gl gc) ∧ PmS y52 q (Value.slice ra2 rl2 rc2) (Value.slice qa2 ql2 qc2) (Value.slice ga2 gl2 gc2) ∧ Below w.heap.size w y52 ∧ PmS y52 p (Value.slice x22a0 x22l0 x22c0) (Value.slice x22a1 x22l1 x22c1) (Value.slice x22a2 x22l2 x22c2) from ⟨HY24.out.1.below hb HY24.out.1.lt, HY24.out.2.1.below hb HY24.out.2.1.lt, HY24.out.2.2.1.below hb HY24.out.2.2.1.lt, HY24.out.2.2.2.1.below hb, HY24.out.2.2.2.2.1.below hb, below_thn HY24.out.2.2.2.2.2.1 hb (Nat.le_refl _), HY24.out.2.2.2.2.2.2.below hb⟩)
      clear hb
      go_wp2_with fail
      refine QK.normal ⟨(rangeAt_blk HY53.out.1), ?_⟩
      refine' wpAnyH_one 3 (by kernel_rfl) ?_ ?_; rotate_left; (simp only [List.getElem?_toArray, List.getElem?_cons_zero, List.getElem?_cons_succ]; rfl)
      try simp only [Act.put]
      go_wp2_with fail
      refine QK.normal ⟨(rangeAt_blk HY53.out.1), ?_⟩
      refine' wpAnyH_one 6 (by kernel_rfl) ?_ ?_; rotate_left; (simp only [List.getElem?_toArray, List.getElem?_cons_zero, List.getElem?_cons_succ]; rfl)
      try simp only [Act.put]
      go_wp2_with fail
      refine QK.normal ⟨(rangeAt_blk HY53.out.1), ?_⟩
      refine' wpAnyH_one 7 (by kernel_rfl) ?_ ?_; rotate_left; (simp only [List.getElem?_toArray, List.getElem?_cons_zero, List.getElem?_cons_succ]; rfl)
      try simp only [Act.put]
      go_wp2_with fail
      refine QK.normal ⟨(rangeAt_blk HY53.out.1), ?_⟩
      refine' wpAnyH_one 8 (by kernel_rfl) ?_ ?_; rotate_left; (simp only [List.getElem?_toArray, List.getElem?_cons_zero, List.getElem?_cons_succ]; rfl)
      try simp only [Act.put]
      go_wp2_with (first
    | (with_reducible refine wpList_load_any rfl 24 (.tmp 3) rfl w.heap.size 0 rfl (pmC p.o p.e (Value.slice ra rl rc) (Value.slice qa ql qc) (Value.slice ga gl gc)) _ (rangeW_blk HY53.out.1) Try.underlying24 rfl (pmC_info _ _ _ _ _) ?_)
    | ((with_reducible refine wpList_load_want ?_ 24 (.tmp 3) rfl w.heap.size 0 rfl (pmC p.o p.e (Value.slice ra rl rc) (Value.slice qa ql qc) (Value.slice ga gl gc)) _ (rangeW_blk HY53.out.1) Try.underlying24 rfl (pmC_info _ _ _ _ _) ?_); focus rfl))
      refine QK.normal ⟨(rangeAt_blk HY53.out.1), ?_⟩
      refine' wpAnyH_one 9 (by kernel_rfl) ?_ ?_; rotate_left; (simp only [List.getElem?_toArray, List.getElem?_cons_zero, List.getElem?_cons_succ]; rfl)
      try simp only [Act.put]
      go_wp2_with fail
      have hx := rright_any p _ _ _ y52 HY53.out.2.2.2.1
      rw [HB1.out] at hx
      refine Calls.mono hx ?_
      clear hx
      rintro e' y54 ⟨rfl, hb⟩
      have HY55 := Lib.hid (show Blk y54 w.heap.size 24 (pmC p.o p.e (Value.slice ra rl rc) (Value.slice qa ql qc) (Value.slice ga gl gc)) ∧ Blk y54 a1.heap.size 24 (pmC q.o q.e (Value.slice ra2 rl2 rc2) (Value.slice qa2 ql2 qc2) (Value.slice ga2 gl2 gc2)) ∧ Blk y54 a3.heap.size 43 (askC u (.slice ma ml mc)) ∧ PmS y54 p (Value.slice ra rl rc) (Value.slice qa ql qc) (Value.slice ga gl gc) ∧ PmS y54 q (Value.slice ra2 rl2 rc2) (Value.slice qa2 ql2 qc2) (Value.slice ga2 gl2 gc2) ∧ Below w.heap.size w y54 ∧ PmS y54 p (Value.slice x22a0 x22l0 x22c0) (Value.slice x22a1 x22l1 x22c1) (Value.slice x22a2 x22l2 x22c2) from ⟨HY53.out.1.below hb HY53.out.1.lt, HY53.out.2.1.below hb HY53.out.2.1.lt, HY53.out.2.2.1.below hb HY53.out.2.2.1.lt, HY53.out.2.2.2.1.below hb, HY53.out.2.2.2.2.1.below hb, below_thn HY53.out.2.2.2.2.2.1 hb (Nat.le_refl _), HY53.out.2.2.2.2.2.2.below hb⟩)
      clear hb
      go_wp2_with fail
      refine QK.normal ⟨(rangeAt_blk HY55.out.1), ?_⟩
      refine' wpAnyH_one 10 (by kernel_rfl) ?_ ?_; rotate_left; (simp only [List.getElem?_toArray, List.getElem?_cons_zero, List.getElem?_cons_succ]; rfl)
      try simp only [Act.put]
      go_wp2_with fail
      refine QK.normal ⟨(rangeAt_blk HY55.out.1), ?_⟩
      refine' wpAnyH_one 11 (by kernel_rfl) ?_ ?_; rotate_left; (simp only [List.getElem?_toArray, List.getElem?_cons_zero, List.getElem?_cons_succ]; rfl)
      try simp only [Act.put]
      go_wp2_with (first
    | (with_reducible refine wpList_load_any rfl 24 (.tmp 3) rfl w.heap.size 0 rfl (pmC p.o p.e (Value.slice ra rl rc) (Value.slice qa ql qc) (Value.slice ga gl gc)) _ (rangeW_blk HY55.out.1) Try.underlying24 rfl (pmC_info _ _ _ _ _) ?_)
    | ((with_reducible refine wpList_load_want ?_ 24 (.tmp 3) rfl w.heap.size 0 rfl (pmC p.o p.e (Value.slice ra rl rc) (Value.slice qa ql qc) (Value.slice ga gl gc)) _ (rangeW_blk HY55.out.1) Try.underlying24 rfl (pmC_info _ _ _ _ _) ?_); focus rfl))
      refine QK.normal ⟨(rangeAt_blk HY55.out.1), ?_⟩
      refine' wpAnyH_one 12 (by kernel_rfl) ?_ ?_; rotate_left; (simp only [List.getElem?_toArray, List.getElem?_cons_zero, List.getElem?_cons_succ]; rfl)
      try simp only [Act.put]
      go_wp2_with fail
      have hx := check_of p false HB1.out _ _ _ y54 HY55.out.2.2.2.1
      refine Calls.mono hx ?_
      clear hx
      rintro e' y56 ⟨rfl, hb⟩
      have HY57 := Lib.hid (show Blk y56 w.heap.size 24 (pmC p.o p.e (Value.slice ra rl rc) (Value.slice qa ql qc) (Value.slice ga gl gc)) ∧ Blk y56 a1.heap.size 24 (pmC q.o q.e (Value.slice ra2 rl2 rc2) (Value.slice qa2 ql2 qc2) (Value.slice ga2 gl2 gc2)) ∧ Blk y56 a3.heap.size 43 (askC u (.slice ma ml mc)) ∧ PmS y56 p (Value.slice ra rl rc) (Value.slice qa ql qc) (Value.slice ga gl gc) ∧ PmS y56 q (Value.slice ra2 rl2 rc2) (Value.slice qa2 ql2 qc2) (Value.slice ga2 gl2 gc2) ∧ Below w.heap.size w y56 ∧ PmS y56 p (Value.slice x22a0 x22l0 x22c0) (Value.slice x22a1 x22l1 x22c1) (Value.slice x22a2 x22l2 x22c2) from ⟨HY55.out.1.below hb HY55.out.1.lt, HY55.out.2.1.below hb HY55.out.2.1.lt, HY55.out.2.2.1.below hb HY55.out.2.2.1.lt, HY55.out.2.2.2.1.below hb, HY55.out.2.2.2.2.1.below hb, below_thn HY55.out.2.2.2.2.2.1 hb (Nat.le_refl _), HY55.out.2.2.2.2.2.2.below hb⟩)
      clear hb
      go_wp2_with fail
      refine QK.normal ⟨(rangeAt_blk HY57.out.1), ?_⟩
      refine' wpAnyH_one 13 (by kernel_rfl) ?_ ?_; rotate_left; (simp only [List.getElem?_toArray, List.getElem?_cons_zero, List.getElem?_cons_succ]; rfl)
      try simp only [Act.put]
      go_wp2_with fail
      refine QK.normal ⟨(rangeAt_blk HY57.out.1), ?_⟩
      refine' wpAnyH_one 14 (by kernel_rfl) ?_ ?_; rotate_left; (simp only [List.getElem?_toArray, List.getElem?_cons_zero, List.getElem?_cons_succ]; rfl)
      try simp only [Act.put]
      go_wp2_with fail
      refine QK.normal ⟨(rangeAt_blk HY57.out.1), ?_⟩
      refine' wpAnyH_one 15 (by kernel_rfl) ?_ ?_; rotate_left; (simp only [List.getElem?_toArray, List.getElem?_cons_zero, List.getElem?_cons_succ]; rfl)
      try simp only [Act.put]
      go_wp2_with fail
      refine QK.normal ⟨(rangeAt_blk HY57.out.1), ?_⟩
      refine' wpAnyH_one 16 (by kernel_rfl) ?_ ?_; rotate_left; (simp only [List.getElem?_toArray, List.getElem?_cons_zero, List.getElem?_cons_succ]; rfl)
      try simp only [Act.put]
      go_wp2_with fail
      refine QK.normal ⟨(rangeAt_blk HY57.out.1), ?_⟩
      refine wpAnyH_done (by kernel_rfl) ?_ _
      refine NoPanic.normal ?_
      go_wp2_with fail
      refine wp_region_takes (fun w' => w'.rangeAt w.heap.size 0 (pmC p.o p.e (Value.slice ra rl rc) (Value.slice qa ql qc) (Value.slice ga gl gc)) ∧ w'.rangeAt a1.heap.size 0 (pmC q.o q.e (Value.slice ra2 rl2 rc2) (Value.slice qa2 ql2 qc2) (Value.slice ga2 gl2 gc2))) [0, 1, 2, 3, 5, 6] 11 (by kernel_rfl) rfl (by kernel_rfl) (by kernel_rfl) ⟨rangeAt_blk HY57.out.1, rangeAt_blk HY57.out.2.1⟩ ?_
      iterate 6 (refine' HeldL.run ?_ ?_ ?_ ?_; rotate_left 2; (simp only [List.getElem?_toArray, List.getElem?_cons_zero, List.getElem?_cons_succ]; rfl); rfl; (rintro w' ⟨k0, k1⟩; first | (go_simp; with_reducible rfl) | exact exec_load_mid rfl rfl k0 Try.underlying24 rfl (pmC_info _ _ _ _ _) | exact exec_load_mid rfl rfl k1 Try.underlying24 rfl (pmC_info _ _ _ _ _)); simp only [Act.put, List.setIfInBounds_toArray, List.set_cons_zero, List.set_cons_succ])
      have sm := (Sm.refl y56).drew
      have HV59 := Lib.hid (show Blk y56.drew w.heap.size 24 (pmC p.o p.e (Value.slice ra rl rc) (Value.slice qa ql qc) (Value.slice ga gl gc)) ∧ Blk y56.drew a1.heap.size 24 (pmC q.o q.e (Value.slice ra2 rl2 rc2) (Value.slice qa2 ql2 qc2) (Value.slice ga2 gl2 gc2)) ∧ Blk y56.drew a3.heap.size 43 (askC u (.slice ma ml mc)) ∧ PmS y56.drew p (Value.slice ra rl rc) (Value.slice qa ql qc) (Value.slice ga gl gc) ∧ PmS y56.drew q (Value.slice ra2 rl2 rc2) (Value.slice qa2 ql2 qc2) (Value.slice ga2 gl2 gc2) ∧ Below w.heap.size w y56.drew ∧ PmS y56.drew p (Value.slice x22a0 x22l0 x22c0) (Value.slice x22a1 x22l1 x22c1) (Value.slice x22a2 x22l2 x22c2) from ⟨HY57.out.1.below (sm.below _) HY57.out.1.lt, HY57.out.2.1.below (sm.below _) HY57.out.2.1.lt, HY57.out.2.2.1.below (sm.below _) HY57.out.2.2.1.lt, HY57.out.2.2.2.1.below (sm.below _), HY57.out.2.2.2.2.1.below (sm.below _), below_thn HY57.out.2.2.2.2.2.1 (sm.below _) (Nat.le_refl _), HY57.out.2.2.2.2.2.2.below (sm.below _)⟩)
      clear sm
      generalize y56.drew = v58 at HV59 ⊢
      refine' wpAnyH_one 4 (by kernel_rfl) ?_ ?_; rotate_left; (simp only [List.getElem?_toArray, List.getElem?_cons_zero, List.getElem?_cons_succ]; rfl)
      try simp only [Act.put]
      go_wp2_with fail
      have hx := psame_any p q _ _ _ _ _ _ v58 HV59.out.2.2.2.1 HV59.out.2.2.2.2.1
      rw [HSM2.out] at hx
      refine Calls.mono hx ?_
      clear hx
      rintro e' y60 ⟨rfl, hb⟩
      have HY61 := Lib.hid (show Blk y60 w.heap.size 24 (pmC p.o p.e (Value.slice ra rl rc) (Value.slice qa ql qc) (Value.slice ga gl gc)) ∧ Blk y60 a1.heap.size 24 (pmC q.o q.e (Value.slice ra2 rl2 rc2) (Value.slice qa2 ql2 qc2) (Value.slice ga2 gl2 gc2)) ∧ Blk y60 a3.heap.size 43 (askC u (.slice ma ml mc)) ∧ PmS y60 p (Value.slice ra rl rc) (Value.slice qa ql qc) (Value.slice ga gl gc) ∧ PmS y60 q (Value.slice ra2 rl2 rc2) (Value.slice qa2 ql2 qc2) (Value.slice ga2 gl2 gc2) ∧ Below w.heap.size w y60 ∧ PmS y60 p (Value.slice x22a0 x22l0 x22c0) (Value.slice x22a1 x22l1 x22c1) (Value.slice x22a2 x22l2 x22c2) from ⟨HV59.out.1.below hb HV59.out.1.lt, HV59.out.2.1.below hb HV59.out.2.1.lt, HV59.out.2.2.1.below hb HV59.out.2.2.1.lt, HV59.out.2.2.2.1.below hb, HV59.out.2.2.2.2.1.below hb, below_thn HV59.out.2.2.2.2.2.1 hb (Nat.le_refl _), HV59.out.2.2.2.2.2.2.below hb⟩)
      clear hb
      go_wp2_with fail
      refine QK.normal ⟨⟨rangeAt_blk HY61.out.1, rangeAt_blk HY61.out.2.1⟩, ?_⟩
      refine' wpAnyH_one 7 (by kernel_rfl) ?_ ?_; rotate_left; (simp only [List.getElem?_toArray, List.getElem?_cons_zero, List.getElem?_cons_succ]; rfl)
      try simp only [Act.put]
      go_wp2_with fail
      have hx := rsame_any p q _ _ _ _ _ _ y60 HY61.out.2.2.2.1 HY61.out.2.2.2.2.1
      rw [HSM2.out] at hx
      refine Calls.mono hx ?_
      clear hx
      rintro e' y62 ⟨rfl, hb⟩
      have HY63 := Lib.hid (show Blk y62 w.heap.size 24 (pmC p.o p.e (Value.slice ra rl rc) (Value.slice qa ql qc) (Value.slice ga gl gc)) ∧ Blk y62 a1.heap.size 24 (pmC q.o q.e (Value.slice ra2 rl2 rc2) (Value.slice qa2 ql2 qc2) (Value.slice ga2 gl2 gc2)) ∧ Blk y62 a3.heap.size 43 (askC u (.slice ma ml mc)) ∧ PmS y62 p (Value.slice ra rl rc) (Value.slice qa ql qc) (Value.slice ga gl gc) ∧ PmS y62 q (Value.slice ra2 rl2 rc2) (Value.slice qa2 ql2 qc2) (Value.slice ga2 gl2 gc2) ∧ Below w.heap.size w y62 ∧ PmS y62 p (Value.slice x22a0 x22l0 x22c0) (Value.slice x22a1 x22l1 x22c1) (Value.slice x22a2 x22l2 x22c2) from ⟨HY61.out.1.below hb HY61.out.1.lt, HY61.out.2.1.below hb HY61.out.2.1.lt, HY61.out.2.2.1.below hb HY61.out.2.2.1.lt, HY61.out.2.2.2.1.below hb, HY61.out.2.2.2.2.1.below hb, below_thn HY61.out.2.2.2.2.2.1 hb (Nat.le_refl _), HY61.out.2.2.2.2.2.2.below hb⟩)
      clear hb
      go_wp2_with fail
      refine QK.normal ⟨⟨rangeAt_blk HY63.out.1, rangeAt_blk HY63.out.2.1⟩, ?_⟩
      refine' wpAnyH_one 8 (by kernel_rfl) ?_ ?_; rotate_left; (simp only [List.getElem?_toArray, List.getElem?_cons_zero, List.getElem?_cons_succ]; rfl)
      try simp only [Act.put]
      go_wp2_with fail
      refine QK.normal ⟨⟨rangeAt_blk HY63.out.1, rangeAt_blk HY63.out.2.1⟩, ?_⟩
      refine' wpAnyH_one 9 (by kernel_rfl) ?_ ?_; rotate_left; (simp only [List.getElem?_toArray, List.getElem?_cons_zero, List.getElem?_cons_succ]; rfl)
      try simp only [Act.put]
      go_wp2_with fail
      refine QK.normal ⟨⟨rangeAt_blk HY63.out.1, rangeAt_blk HY63.out.2.1⟩, ?_⟩
      refine' wpAnyH_one 10 (by kernel_rfl) ?_ ?_; rotate_left; (simp only [List.getElem?_toArray, List.getElem?_cons_zero, List.getElem?_cons_succ]; rfl)
      try simp only [Act.put]
      go_wp2_with fail
      refine QK.normal ⟨⟨rangeAt_blk HY63.out.1, rangeAt_blk HY63.out.2.1⟩, ?_⟩
      refine' wpAnyH_two 11 12 (by kernel_rfl) ?_ ?_ ?_ ?_; rotate_left 2; (simp only [List.getElem?_toArray, List.getElem?_cons_zero, List.getElem?_cons_succ]; rfl); (simp only [List.getElem?_toArray, List.getElem?_cons_zero, List.getElem?_cons_succ]; rfl)
      · skip
        try simp only [Act.put]
        go_wp2_with (first
    | (with_reducible refine wpList_load_any rfl 24 (.tmp 3) rfl w.heap.size 0 rfl (pmC p.o p.e (Value.slice ra rl rc) (Value.slice qa ql qc) (Value.slice ga gl gc)) _ (rangeW_blk HY63.out.1) Try.underlying24 rfl (pmC_info _ _ _ _ _) ?_)
    | ((with_reducible refine wpList_load_want ?_ 24 (.tmp 3) rfl w.heap.size 0 rfl (pmC p.o p.e (Value.slice ra rl rc) (Value.slice qa ql qc) (Value.slice ga gl gc)) _ (rangeW_blk HY63.out.1) Try.underlying24 rfl (pmC_info _ _ _ _ _) ?_); focus rfl))
        refine QK.normal ⟨⟨rangeAt_blk HY63.out.1, rangeAt_blk HY63.out.2.1⟩, ?_⟩
        refine' wpAnyH_one 12 (by kernel_rfl) ?_ ?_; rotate_left; (simp only [List.getElem?_toArray, List.getElem?_cons_zero, List.getElem?_cons_succ]; rfl)
        try simp only [Act.put]
        go_wp2_with (first
    | (with_reducible refine wpList_load_any rfl 24 (.tmp 3) rfl w.heap.size 0 rfl (pmC p.o p.e (Value.slice ra rl rc) (Value.slice qa ql qc) (Value.slice ga gl gc)) _ (rangeW_blk HY63.out.1) Try.underlying24 rfl (pmC_info _ _ _ _ _) ?_)
    | ((with_reducible refine wpList_load_want ?_ 24 (.tmp 3) rfl w.heap.size 0 rfl (pmC p.o p.e (Value.slice ra rl rc) (Value.slice qa ql qc) (Value.slice ga gl gc)) _ (rangeW_blk HY63.out.1) Try.underlying24 rfl (pmC_info _ _ _ _ _) ?_); focus rfl))
        refine QK.normal ⟨⟨rangeAt_blk HY63.out.1, rangeAt_blk HY63.out.2.1⟩, ?_⟩
        refine' wpAnyH_one 13 (by kernel_rfl) ?_ ?_; rotate_left; (simp only [List.getElem?_toArray, List.getElem?_cons_zero, List.getElem?_cons_succ]; rfl)
        try simp only [Act.put]
        go_wp2_with fail
        refine (copied_any p _ _ _ y62 HY63.out.2.2.2.1 HLEN.out).mono ?_
        rintro e' y64 ⟨x66r, x66q, x66g, rfl, hs, hb, -⟩
        obtain ⟨x66a0, x66c0, rfl, -⟩ := hs.1.shape
        obtain ⟨x66a1, x66c1, rfl, -⟩ := hs.2.1.shape
        obtain ⟨x66a2, x66c2, rfl, -⟩ := hs.2.2.shape
        generalize (ofK .i64 p.r).length = x66l0 at hs ⊢
        generalize (ofK .i64 p.q).length = x66l1 at hs ⊢
        generalize (ofK .i64 p.g).length = x66l2 at hs ⊢
        have HY65 := Lib.hid (show Blk y64 w.heap.size 24 (pmC p.o p.e (Value.slice ra rl rc) (Value.slice qa ql qc) (Value.slice ga gl gc)) ∧ Blk y64 a1.heap.size 24 (pmC q.o q.e (Value.slice ra2 rl2 rc2) (Value.slice qa2 ql2 qc2) (Value.slice ga2 gl2 gc2)) ∧ Blk y64 a3.heap.size 43 (askC u (.slice ma ml mc)) ∧ PmS y64 p (Value.slice ra rl rc) (Value.slice qa ql qc) (Value.slice ga gl gc) ∧ PmS y64 q (Value.slice ra2 rl2 rc2) (Value.slice qa2 ql2 qc2) (Value.slice ga2 gl2 gc2) ∧ Below w.heap.size w y64 ∧ PmS y64 p (Value.slice x22a0 x22l0 x22c0) (Value.slice x22a1 x22l1 x22c1) (Value.slice x22a2 x22l2 x22c2) ∧ PmS y64 p (Value.slice x66a0 x66l0 x66c0) (Value.slice x66a1 x66l1 x66c1) (Value.slice x66a2 x66l2 x66c2) from ⟨HY63.out.1.below hb HY63.out.1.lt, HY63.out.2.1.below hb HY63.out.2.1.lt, HY63.out.2.2.1.below hb HY63.out.2.2.1.lt, HY63.out.2.2.2.1.below hb, HY63.out.2.2.2.2.1.below hb, below_thn HY63.out.2.2.2.2.2.1 hb (Nat.le_refl _), HY63.out.2.2.2.2.2.2.below hb, hs⟩)
        clear hs hb
        go_wp2_with fail
        refine QK.normal ⟨⟨rangeAt_blk HY65.out.1, rangeAt_blk HY65.out.2.1⟩, ?_⟩
        refine' wpAnyH_one 14 (by kernel_rfl) ?_ ?_; rotate_left; (simp only [List.getElem?_toArray, List.getElem?_cons_zero, List.getElem?_cons_succ]; rfl)
        try simp only [Act.put]
        go_wp2_with fail
        have hx := psame_any p p _ _ _ _ _ _ y64 HY65.out.2.2.2.1 HY65.out.2.2.2.2.2.2.2
        rw [same_self p] at hx
        refine Calls.mono hx ?_
        clear hx
        rintro e' y67 ⟨rfl, hb⟩
        have HY68 := Lib.hid (show Blk y67 w.heap.size 24 (pmC p.o p.e (Value.slice ra rl rc) (Value.slice qa ql qc) (Value.slice ga gl gc)) ∧ Blk y67 a1.heap.size 24 (pmC q.o q.e (Value.slice ra2 rl2 rc2) (Value.slice qa2 ql2 qc2) (Value.slice ga2 gl2 gc2)) ∧ Blk y67 a3.heap.size 43 (askC u (.slice ma ml mc)) ∧ PmS y67 p (Value.slice ra rl rc) (Value.slice qa ql qc) (Value.slice ga gl gc) ∧ PmS y67 q (Value.slice ra2 rl2 rc2) (Value.slice qa2 ql2 qc2) (Value.slice ga2 gl2 gc2) ∧ Below w.heap.size w y67 ∧ PmS y67 p (Value.slice x22a0 x22l0 x22c0) (Value.slice x22a1 x22l1 x22c1) (Value.slice x22a2 x22l2 x22c2) ∧ PmS y67 p (Value.slice x66a0 x66l0 x66c0) (Value.slice x66a1 x66l1 x66c1) (Value.slice x66a2 x66l2 x66c2) from ⟨HY65.out.1.below hb HY65.out.1.lt, HY65.out.2.1.below hb HY65.out.2.1.lt, HY65.out.2.2.1.below hb HY65.out.2.2.1.lt, HY65.out.2.2.2.1.below hb, HY65.out.2.2.2.2.1.below hb, below_thn HY65.out.2.2.2.2.2.1 hb (Nat.le_refl _), HY65.out.2.2.2.2.2.2.1.below hb, HY65.out.2.2.2.2.2.2.2.below hb⟩)
        clear hb
        go_wp2_with fail
        refine QK.normal ⟨⟨rangeAt_blk HY68.out.1, rangeAt_blk HY68.out.2.1⟩, ?_⟩
        refine' wpAnyH_one 15 (by kernel_rfl) ?_ ?_; rotate_left; (simp only [List.getElem?_toArray, List.getElem?_cons_zero, List.getElem?_cons_succ]; rfl)
        try simp only [Act.put]
        go_wp2_with fail
        refine QK.normal ⟨⟨rangeAt_blk HY68.out.1, rangeAt_blk HY68.out.2.1⟩, ?_⟩
        refine' wpAnyH_one 16 (by kernel_rfl) ?_ ?_; rotate_left; (simp only [List.getElem?_toArray, List.getElem?_cons_zero, List.getElem?_cons_succ]; rfl)
        try simp only [Act.put]
        go_wp2_with fail
        refine QK.normal ⟨⟨rangeAt_blk HY68.out.1, rangeAt_blk HY68.out.2.1⟩, ?_⟩
        refine wpAnyH_done (by kernel_rfl) ?_ _
        refine NoPanic.normal ?_
        go_wp2_with fail
        have C1 := Lib.hid (fun x => show Calls Try.prog 20 #[.agg (pmC p.o p.e (Value.slice ra rl rc) (Value.slice qa ql qc) (Value.slice ga gl gc)).toArray, .int .i64 u] (grew y67 x) (fun e w' => e = .returned (.bool (mayWB p u)) ∧ Below (grew y67 x).heap.size (grew y67 x) w') from mayWrite_any p u _ _ _ (grew y67 x) (HY68.out.2.2.2.1.below (below_grew y67 x)))
        have C2 := Lib.hid (fun x => show Calls Try.prog 21 #[.agg (pmC p.o p.e (Value.slice ra rl rc) (Value.slice qa ql qc) (Value.slice ga gl gc)).toArray, .int .i64 u] (grew y67 x) (fun e w' => e = .returned (.bool (mayWB p u)) ∧ Below (grew y67 x).heap.size (grew y67 x) w') from rmayWrite_any p u _ _ _ (grew y67 x) (HY68.out.2.2.2.1.below (below_grew y67 x)))
        have C3 := Lib.hid (fun x => show Calls Try.prog 22 #[.agg (pmC p.o p.e (Value.slice ra rl rc) (Value.slice qa ql qc) (Value.slice ga gl gc)).toArray, .int .i64 u, .slice ma ml mc] (grew y67 x) (fun e w' => e = .returned (.bool (mayRB p u m)) ∧ Below (grew y67 x).heap.size (grew y67 x) w') from mayRead_any p u m _ _ _ _ (grew y67 x) (HY68.out.2.2.2.1.below (below_grew y67 x)) ((HSM.out.below HY68.out.2.2.2.2.2.1).below (below_grew y67 x)))
        have C4 := Lib.hid (fun x => show Calls Try.prog 23 #[.agg (pmC p.o p.e (Value.slice ra rl rc) (Value.slice qa ql qc) (Value.slice ga gl gc)).toArray, .int .i64 u, .slice ma ml mc] (grew y67 x) (fun e w' => e = .returned (.bool (mayRB p u m)) ∧ Below (grew y67 x).heap.size (grew y67 x) w') from rmayRead_any p u m _ _ _ _ (grew y67 x) (HY68.out.2.2.2.1.below (below_grew y67 x)) ((HSM.out.below HY68.out.2.2.2.2.2.1).below (below_grew y67 x)))
        obtain ⟨r1, hr1⟩ : ∃ b, mayWB p u = b := ⟨_, rfl⟩
        obtain ⟨r2, hr2⟩ : ∃ b, mayRB p u m = b := ⟨_, rfl⟩
        rw [hr1] at C1 C2
        rw [hr2] at C3 C4
        clear hr1 hr2
        have x0 := HY68.out.2.2.1.cell 0
        have x1 := HY68.out.2.2.1.cell 1
        simp only [askC, List.getElem?_cons_zero, List.getElem?_cons_succ] at x0 x1
        replace x0 := fun q => cell_grew x0 q
        replace x1 := fun q => cell_grew x1 q
        refine wp_region_grew (by kernel_rfl) (by kernel_rfl) ?_
        repeat (first | go_big_quiet_skip | (go_big_quiet_want; (first | (refine quiet_load_mid 24 (.tmp 3) rfl w.heap.size 0 rfl (pmC p.o p.e (Value.slice ra rl rc) (Value.slice qa ql qc) (Value.slice ga gl gc)) _ (fun w' hw' => rangeAt_grew (rangeAt_blk HY68.out.1) w' hw') Try.underlying24 rfl (pmC_info _ _ _ _ _) ?_; go_simp; go_big_quiet_on) | (go_big_quiet_op; (first | go_big_quiet_on | (apply Exists.intro; refine ⟨fun _ => ?_, ?_⟩; (focus (first | (go_at_call 20; with_reducible exact calls_grew (C1.out _)) | (go_at_call 21; with_reducible exact calls_grew (C2.out _)) | (go_at_call 22; with_reducible exact calls_grew (C3.out _)) | (go_at_call 23; with_reducible exact calls_grew (C4.out _)))); go_big_quiet_on))))))
        refine wpQuiet_nil ?_
        intro w9 hw9
        obtain ⟨x9, rfl⟩ := hw9
        clear x0 x1 C1 C2 C3 C4
        go_wp2_with fail
        go_ret
        exact ⟨by simp, below_thn HY68.out.2.2.2.2.2.1 (below_grew y67 x9) (Nat.le_refl _)⟩
      · skip
        try simp only [Act.put]
        go_wp2_with (first
    | (with_reducible refine wpList_load_any rfl 24 (.tmp 3) rfl w.heap.size 0 rfl (pmC p.o p.e (Value.slice ra rl rc) (Value.slice qa ql qc) (Value.slice ga gl gc)) _ (rangeW_blk HY63.out.1) Try.underlying24 rfl (pmC_info _ _ _ _ _) ?_)
    | ((with_reducible refine wpList_load_want ?_ 24 (.tmp 3) rfl w.heap.size 0 rfl (pmC p.o p.e (Value.slice ra rl rc) (Value.slice qa ql qc) (Value.slice ga gl gc)) _ (rangeW_blk HY63.out.1) Try.underlying24 rfl (pmC_info _ _ _ _ _) ?_); focus rfl))
        refine QK.normal ⟨⟨rangeAt_blk HY63.out.1, rangeAt_blk HY63.out.2.1⟩, ?_⟩
        refine' wpAnyH_two 11 13 (by kernel_rfl) ?_ ?_ ?_ ?_; rotate_left 2; (simp only [List.getElem?_toArray, List.getElem?_cons_zero, List.getElem?_cons_succ]; rfl); (simp only [List.getElem?_toArray, List.getElem?_cons_zero, List.getElem?_cons_succ]; rfl)
        · skip
          try simp only [Act.put]
          go_wp2_with (first
    | (with_reducible refine wpList_load_any rfl 24 (.tmp 3) rfl w.heap.size 0 rfl (pmC p.o p.e (Value.slice ra rl rc) (Value.slice qa ql qc) (Value.slice ga gl gc)) _ (rangeW_blk HY63.out.1) Try.underlying24 rfl (pmC_info _ _ _ _ _) ?_)
    | ((with_reducible refine wpList_load_want ?_ 24 (.tmp 3) rfl w.heap.size 0 rfl (pmC p.o p.e (Value.slice ra rl rc) (Value.slice qa ql qc) (Value.slice ga gl gc)) _ (rangeW_blk HY63.out.1) Try.underlying24 rfl (pmC_info _ _ _ _ _) ?_); focus rfl))
          refine QK.normal ⟨⟨rangeAt_blk HY63.out.1, rangeAt_blk HY63.out.2.1⟩, ?_⟩
          refine' wpAnyH_one 13 (by kernel_rfl) ?_ ?_; rotate_left; (simp only [List.getElem?_toArray, List.getElem?_cons_zero, List.getElem?_cons_succ]; rfl)
          try simp only [Act.put]
          go_wp2_with fail
          refine (copied_any p _ _ _ y62 HY63.out.2.2.2.1 HLEN.out).mono ?_
          rintro e' y69 ⟨x71r, x71q, x71g, rfl, hs, hb, -⟩
          obtain ⟨x71a0, x71c0, rfl, -⟩ := hs.1.shape
          obtain ⟨x71a1, x71c1, rfl, -⟩ := hs.2.1.shape
          obtain ⟨x71a2, x71c2, rfl, -⟩ := hs.2.2.shape
          generalize (ofK .i64 p.r).length = x71l0 at hs ⊢
          generalize (ofK .i64 p.q).length = x71l1 at hs ⊢
          generalize (ofK .i64 p.g).length = x71l2 at hs ⊢
          have HY70 := Lib.hid (show Blk y69 w.heap.size 24 (pmC p.o p.e (Value.slice ra rl rc) (Value.slice qa ql qc) (Value.slice ga gl gc)) ∧ Blk y69 a1.heap.size 24 (pmC q.o q.e (Value.slice ra2 rl2 rc2) (Value.slice qa2 ql2 qc2) (Value.slice ga2 gl2 gc2)) ∧ Blk y69 a3.heap.size 43 (askC u (.slice ma ml mc)) ∧ PmS y69 p (Value.slice ra rl rc) (Value.slice qa ql qc) (Value.slice ga gl gc) ∧ PmS y69 q (Value.slice ra2 rl2 rc2) (Value.slice qa2 ql2 qc2) (Value.slice ga2 gl2 gc2) ∧ Below w.heap.size w y69 ∧ PmS y69 p (Value.slice x22a0 x22l0 x22c0) (Value.slice x22a1 x22l1 x22c1) (Value.slice x22a2 x22l2 x22c2) ∧ PmS y69 p (Value.slice x71a0 x71l0 x71c0) (Value.slice x71a1 x71l1 x71c1) (Value.slice x71a2 x71l2 x71c2) from ⟨HY63.out.1.below hb HY63.out.1.lt, HY63.out.2.1.below hb HY63.out.2.1.lt, HY63.out.2.2.1.below hb HY63.out.2.2.1.lt, HY63.out.2.2.2.1.below hb, HY63.out.2.2.2.2.1.below hb, below_thn HY63.out.2.2.2.2.2.1 hb (Nat.le_refl _), HY63.out.2.2.2.2.2.2.below hb, hs⟩)
          clear hs hb
          go_wp2_with fail
          refine QK.normal ⟨⟨rangeAt_blk HY70.out.1, rangeAt_blk HY70.out.2.1⟩, ?_⟩
          refine' wpAnyH_one 14 (by kernel_rfl) ?_ ?_; rotate_left; (simp only [List.getElem?_toArray, List.getElem?_cons_zero, List.getElem?_cons_succ]; rfl)
          try simp only [Act.put]
          go_wp2_with fail
          have hx := psame_any p p _ _ _ _ _ _ y69 HY70.out.2.2.2.1 HY70.out.2.2.2.2.2.2.2
          rw [same_self p] at hx
          refine Calls.mono hx ?_
          clear hx
          rintro e' y72 ⟨rfl, hb⟩
          have HY73 := Lib.hid (show Blk y72 w.heap.size 24 (pmC p.o p.e (Value.slice ra rl rc) (Value.slice qa ql qc) (Value.slice ga gl gc)) ∧ Blk y72 a1.heap.size 24 (pmC q.o q.e (Value.slice ra2 rl2 rc2) (Value.slice qa2 ql2 qc2) (Value.slice ga2 gl2 gc2)) ∧ Blk y72 a3.heap.size 43 (askC u (.slice ma ml mc)) ∧ PmS y72 p (Value.slice ra rl rc) (Value.slice qa ql qc) (Value.slice ga gl gc) ∧ PmS y72 q (Value.slice ra2 rl2 rc2) (Value.slice qa2 ql2 qc2) (Value.slice ga2 gl2 gc2) ∧ Below w.heap.size w y72 ∧ PmS y72 p (Value.slice x22a0 x22l0 x22c0) (Value.slice x22a1 x22l1 x22c1) (Value.slice x22a2 x22l2 x22c2) ∧ PmS y72 p (Value.slice x71a0 x71l0 x71c0) (Value.slice x71a1 x71l1 x71c1) (Value.slice x71a2 x71l2 x71c2) from ⟨HY70.out.1.below hb HY70.out.1.lt, HY70.out.2.1.below hb HY70.out.2.1.lt, HY70.out.2.2.1.below hb HY70.out.2.2.1.lt, HY70.out.2.2.2.1.below hb, HY70.out.2.2.2.2.1.below hb, below_thn HY70.out.2.2.2.2.2.1 hb (Nat.le_refl _), HY70.out.2.2.2.2.2.2.1.below hb, HY70.out.2.2.2.2.2.2.2.below hb⟩)
          clear hb
          go_wp2_with fail
          refine QK.normal ⟨⟨rangeAt_blk HY73.out.1, rangeAt_blk HY73.out.2.1⟩, ?_⟩
          refine' wpAnyH_one 15 (by kernel_rfl) ?_ ?_; rotate_left; (simp only [List.getElem?_toArray, List.getElem?_cons_zero, List.getElem?_cons_succ]; rfl)
          try simp only [Act.put]
          go_wp2_with fail
          refine QK.normal ⟨⟨rangeAt_blk HY73.out.1, rangeAt_blk HY73.out.2.1⟩, ?_⟩
          refine' wpAnyH_one 16 (by kernel_rfl) ?_ ?_; rotate_left; (simp only [List.getElem?_toArray, List.getElem?_cons_zero, List.getElem?_cons_succ]; rfl)
          try simp only [Act.put]
          go_wp2_with fail
          refine QK.normal ⟨⟨rangeAt_blk HY73.out.1, rangeAt_blk HY73.out.2.1⟩, ?_⟩
          refine wpAnyH_done (by kernel_rfl) ?_ _
          refine NoPanic.normal ?_
          go_wp2_with fail
          have C1 := Lib.hid (fun x => show Calls Try.prog 20 #[.agg (pmC p.o p.e (Value.slice ra rl rc) (Value.slice qa ql qc) (Value.slice ga gl gc)).toArray, .int .i64 u] (grew y72 x) (fun e w' => e = .returned (.bool (mayWB p u)) ∧ Below (grew y72 x).heap.size (grew y72 x) w') from mayWrite_any p u _ _ _ (grew y72 x) (HY73.out.2.2.2.1.below (below_grew y72 x)))
          have C2 := Lib.hid (fun x => show Calls Try.prog 21 #[.agg (pmC p.o p.e (Value.slice ra rl rc) (Value.slice qa ql qc) (Value.slice ga gl gc)).toArray, .int .i64 u] (grew y72 x) (fun e w' => e = .returned (.bool (mayWB p u)) ∧ Below (grew y72 x).heap.size (grew y72 x) w') from rmayWrite_any p u _ _ _ (grew y72 x) (HY73.out.2.2.2.1.below (below_grew y72 x)))
          have C3 := Lib.hid (fun x => show Calls Try.prog 22 #[.agg (pmC p.o p.e (Value.slice ra rl rc) (Value.slice qa ql qc) (Value.slice ga gl gc)).toArray, .int .i64 u, .slice ma ml mc] (grew y72 x) (fun e w' => e = .returned (.bool (mayRB p u m)) ∧ Below (grew y72 x).heap.size (grew y72 x) w') from mayRead_any p u m _ _ _ _ (grew y72 x) (HY73.out.2.2.2.1.below (below_grew y72 x)) ((HSM.out.below HY73.out.2.2.2.2.2.1).below (below_grew y72 x)))
          have C4 := Lib.hid (fun x => show Calls Try.prog 23 #[.agg (pmC p.o p.e (Value.slice ra rl rc) (Value.slice qa ql qc) (Value.slice ga gl gc)).toArray, .int .i64 u, .slice ma ml mc] (grew y72 x) (fun e w' => e = .returned (.bool (mayRB p u m)) ∧ Below (grew y72 x).heap.size (grew y72 x) w') from rmayRead_any p u m _ _ _ _ (grew y72 x) (HY73.out.2.2.2.1.below (below_grew y72 x)) ((HSM.out.below HY73.out.2.2.2.2.2.1).below (below_grew y72 x)))
          obtain ⟨r1, hr1⟩ : ∃ b, mayWB p u = b := ⟨_, rfl⟩
          obtain ⟨r2, hr2⟩ : ∃ b, mayRB p u m = b := ⟨_, rfl⟩
          rw [hr1] at C1 C2
          rw [hr2] at C3 C4
          clear hr1 hr2
          have x0 := HY73.out.2.2.1.cell 0
          have x1 := HY73.out.2.2.1.cell 1
          simp only [askC, List.getElem?_cons_zero, List.getElem?_cons_succ] at x0 x1
          replace x0 := fun q => cell_grew x0 q
          replace x1 := fun q => cell_grew x1 q
          refine wp_region_grew (by kernel_rfl) (by kernel_rfl) ?_
          repeat (first | go_big_quiet_skip | (go_big_quiet_want; (first | (refine quiet_load_mid 24 (.tmp 3) rfl w.heap.size 0 rfl (pmC p.o p.e (Value.slice ra rl rc) (Value.slice qa ql qc) (Value.slice ga gl gc)) _ (fun w' hw' => rangeAt_grew (rangeAt_blk HY73.out.1) w' hw') Try.underlying24 rfl (pmC_info _ _ _ _ _) ?_; go_simp; go_big_quiet_on) | (go_big_quiet_op; (first | go_big_quiet_on | (apply Exists.intro; refine ⟨fun _ => ?_, ?_⟩; (focus (first | (go_at_call 20; with_reducible exact calls_grew (C1.out _)) | (go_at_call 21; with_reducible exact calls_grew (C2.out _)) | (go_at_call 22; with_reducible exact calls_grew (C3.out _)) | (go_at_call 23; with_reducible exact calls_grew (C4.out _)))); go_big_quiet_on))))))
          refine wpQuiet_nil ?_
          intro w9 hw9
          obtain ⟨x9, rfl⟩ := hw9
          clear x0 x1 C1 C2 C3 C4
          go_wp2_with fail
          go_ret
          exact ⟨by simp, below_thn HY73.out.2.2.2.2.2.1 (below_grew y72 x9) (Nat.le_refl _)⟩
        · skip
          try simp only [Act.put]
          go_wp2_with fail
          refine (copied_any p _ _ _ y62 HY63.out.2.2.2.1 HLEN.out).mono ?_
          rintro e' y74 ⟨x76r, x76q, x76g, rfl, hs, hb, -⟩
          obtain ⟨x76a0, x76c0, rfl, -⟩ := hs.1.shape
          obtain ⟨x76a1, x76c1, rfl, -⟩ := hs.2.1.shape
          obtain ⟨x76a2, x76c2, rfl, -⟩ := hs.2.2.shape
          generalize (ofK .i64 p.r).length = x76l0 at hs ⊢
          generalize (ofK .i64 p.q).length = x76l1 at hs ⊢
          generalize (ofK .i64 p.g).length = x76l2 at hs ⊢
          have HY75 := Lib.hid (show Blk y74 w.heap.size 24 (pmC p.o p.e (Value.slice ra rl rc) (Value.slice qa ql qc) (Value.slice ga gl gc)) ∧ Blk y74 a1.heap.size 24 (pmC q.o q.e (Value.slice ra2 rl2 rc2) (Value.slice qa2 ql2 qc2) (Value.slice ga2 gl2 gc2)) ∧ Blk y74 a3.heap.size 43 (askC u (.slice ma ml mc)) ∧ PmS y74 p (Value.slice ra rl rc) (Value.slice qa ql qc) (Value.slice ga gl gc) ∧ PmS y74 q (Value.slice ra2 rl2 rc2) (Value.slice qa2 ql2 qc2) (Value.slice ga2 gl2 gc2) ∧ Below w.heap.size w y74 ∧ PmS y74 p (Value.slice x22a0 x22l0 x22c0) (Value.slice x22a1 x22l1 x22c1) (Value.slice x22a2 x22l2 x22c2) ∧ PmS y74 p (Value.slice x76a0 x76l0 x76c0) (Value.slice x76a1 x76l1 x76c1) (Value.slice x76a2 x76l2 x76c2) from ⟨HY63.out.1.below hb HY63.out.1.lt, HY63.out.2.1.below hb HY63.out.2.1.lt, HY63.out.2.2.1.below hb HY63.out.2.2.1.lt, HY63.out.2.2.2.1.below hb, HY63.out.2.2.2.2.1.below hb, below_thn HY63.out.2.2.2.2.2.1 hb (Nat.le_refl _), HY63.out.2.2.2.2.2.2.below hb, hs⟩)
          clear hs hb
          go_wp2_with fail
          refine QK.normal ⟨⟨rangeAt_blk HY75.out.1, rangeAt_blk HY75.out.2.1⟩, ?_⟩
          refine' wpAnyH_one 11 (by kernel_rfl) ?_ ?_; rotate_left; (simp only [List.getElem?_toArray, List.getElem?_cons_zero, List.getElem?_cons_succ]; rfl)
          try simp only [Act.put]
          go_wp2_with (first
    | (with_reducible refine wpList_load_any rfl 24 (.tmp 3) rfl w.heap.size 0 rfl (pmC p.o p.e (Value.slice ra rl rc) (Value.slice qa ql qc) (Value.slice ga gl gc)) _ (rangeW_blk HY75.out.1) Try.underlying24 rfl (pmC_info _ _ _ _ _) ?_)
    | ((with_reducible refine wpList_load_want ?_ 24 (.tmp 3) rfl w.heap.size 0 rfl (pmC p.o p.e (Value.slice ra rl rc) (Value.slice qa ql qc) (Value.slice ga gl gc)) _ (rangeW_blk HY75.out.1) Try.underlying24 rfl (pmC_info _ _ _ _ _) ?_); focus rfl))
          refine QK.normal ⟨⟨rangeAt_blk HY75.out.1, rangeAt_blk HY75.out.2.1⟩, ?_⟩
          refine' wpAnyH_one 14 (by kernel_rfl) ?_ ?_; rotate_left; (simp only [List.getElem?_toArray, List.getElem?_cons_zero, List.getElem?_cons_succ]; rfl)
          try simp only [Act.put]
          go_wp2_with fail
          have hx := psame_any p p _ _ _ _ _ _ y74 HY75.out.2.2.2.1 HY75.out.2.2.2.2.2.2.2
          rw [same_self p] at hx
          refine Calls.mono hx ?_
          clear hx
          rintro e' y77 ⟨rfl, hb⟩
          have HY78 := Lib.hid (show Blk y77 w.heap.size 24 (pmC p.o p.e (Value.slice ra rl rc) (Value.slice qa ql qc) (Value.slice ga gl gc)) ∧ Blk y77 a1.heap.size 24 (pmC q.o q.e (Value.slice ra2 rl2 rc2) (Value.slice qa2 ql2 qc2) (Value.slice ga2 gl2 gc2)) ∧ Blk y77 a3.heap.size 43 (askC u (.slice ma ml mc)) ∧ PmS y77 p (Value.slice ra rl rc) (Value.slice qa ql qc) (Value.slice ga gl gc) ∧ PmS y77 q (Value.slice ra2 rl2 rc2) (Value.slice qa2 ql2 qc2) (Value.slice ga2 gl2 gc2) ∧ Below w.heap.size w y77 ∧ PmS y77 p (Value.slice x22a0 x22l0 x22c0) (Value.slice x22a1 x22l1 x22c1) (Value.slice x22a2 x22l2 x22c2) ∧ PmS y77 p (Value.slice x76a0 x76l0 x76c0) (Value.slice x76a1 x76l1 x76c1) (Value.slice x76a2 x76l2 x76c2) from ⟨HY75.out.1.below hb HY75.out.1.lt, HY75.out.2.1.below hb HY75.out.2.1.lt, HY75.out.2.2.1.below hb HY75.out.2.2.1.lt, HY75.out.2.2.2.1.below hb, HY75.out.2.2.2.2.1.below hb, below_thn HY75.out.2.2.2.2.2.1 hb (Nat.le_refl _), HY75.out.2.2.2.2.2.2.1.below hb, HY75.out.2.2.2.2.2.2.2.below hb⟩)
          clear hb
          go_wp2_with fail
          refine QK.normal ⟨⟨rangeAt_blk HY78.out.1, rangeAt_blk HY78.out.2.1⟩, ?_⟩
          refine' wpAnyH_one 15 (by kernel_rfl) ?_ ?_; rotate_left; (simp only [List.getElem?_toArray, List.getElem?_cons_zero, List.getElem?_cons_succ]; rfl)
          try simp only [Act.put]
          go_wp2_with fail
          refine QK.normal ⟨⟨rangeAt_blk HY78.out.1, rangeAt_blk HY78.out.2.1⟩, ?_⟩
          refine' wpAnyH_one 16 (by kernel_rfl) ?_ ?_; rotate_left; (simp only [List.getElem?_toArray, List.getElem?_cons_zero, List.getElem?_cons_succ]; rfl)
          try simp only [Act.put]
          go_wp2_with fail
          refine QK.normal ⟨⟨rangeAt_blk HY78.out.1, rangeAt_blk HY78.out.2.1⟩, ?_⟩
          refine wpAnyH_done (by kernel_rfl) ?_ _
          refine NoPanic.normal ?_
          go_wp2_with fail
          have C1 := Lib.hid (fun x => show Calls Try.prog 20 #[.agg (pmC p.o p.e (Value.slice ra rl rc) (Value.slice qa ql qc) (Value.slice ga gl gc)).toArray, .int .i64 u] (grew y77 x) (fun e w' => e = .returned (.bool (mayWB p u)) ∧ Below (grew y77 x).heap.size (grew y77 x) w') from mayWrite_any p u _ _ _ (grew y77 x) (HY78.out.2.2.2.1.below (below_grew y77 x)))
          have C2 := Lib.hid (fun x => show Calls Try.prog 21 #[.agg (pmC p.o p.e (Value.slice ra rl rc) (Value.slice qa ql qc) (Value.slice ga gl gc)).toArray, .int .i64 u] (grew y77 x) (fun e w' => e = .returned (.bool (mayWB p u)) ∧ Below (grew y77 x).heap.size (grew y77 x) w') from rmayWrite_any p u _ _ _ (grew y77 x) (HY78.out.2.2.2.1.below (below_grew y77 x)))
          have C3 := Lib.hid (fun x => show Calls Try.prog 22 #[.agg (pmC p.o p.e (Value.slice ra rl rc) (Value.slice qa ql qc) (Value.slice ga gl gc)).toArray, .int .i64 u, .slice ma ml mc] (grew y77 x) (fun e w' => e = .returned (.bool (mayRB p u m)) ∧ Below (grew y77 x).heap.size (grew y77 x) w') from mayRead_any p u m _ _ _ _ (grew y77 x) (HY78.out.2.2.2.1.below (below_grew y77 x)) ((HSM.out.below HY78.out.2.2.2.2.2.1).below (below_grew y77 x)))
          have C4 := Lib.hid (fun x => show Calls Try.prog 23 #[.agg (pmC p.o p.e (Value.slice ra rl rc) (Value.slice qa ql qc) (Value.slice ga gl gc)).toArray, .int .i64 u, .slice ma ml mc] (grew y77 x) (fun e w' => e = .returned (.bool (mayRB p u m)) ∧ Below (grew y77 x).heap.size (grew y77 x) w') from rmayRead_any p u m _ _ _ _ (grew y77 x) (HY78.out.2.2.2.1.below (below_grew y77 x)) ((HSM.out.below HY78.out.2.2.2.2.2.1).below (below_grew y77 x)))
          obtain ⟨r1, hr1⟩ : ∃ b, mayWB p u = b := ⟨_, rfl⟩
          obtain ⟨r2, hr2⟩ : ∃ b, mayRB p u m = b := ⟨_, rfl⟩
          rw [hr1] at C1 C2
          rw [hr2] at C3 C4
          clear hr1 hr2
          have x0 := HY78.out.2.2.1.cell 0
          have x1 := HY78.out.2.2.1.cell 1
          simp only [askC, List.getElem?_cons_zero, List.getElem?_cons_succ] at x0 x1
          replace x0 := fun q => cell_grew x0 q
          replace x1 := fun q => cell_grew x1 q
          refine wp_region_grew (by kernel_rfl) (by kernel_rfl) ?_
          repeat (first | go_big_quiet_skip | (go_big_quiet_want; (first | (refine quiet_load_mid 24 (.tmp 3) rfl w.heap.size 0 rfl (pmC p.o p.e (Value.slice ra rl rc) (Value.slice qa ql qc) (Value.slice ga gl gc)) _ (fun w' hw' => rangeAt_grew (rangeAt_blk HY78.out.1) w' hw') Try.underlying24 rfl (pmC_info _ _ _ _ _) ?_; go_simp; go_big_quiet_on) | (go_big_quiet_op; (first | go_big_quiet_on | (apply Exists.intro; refine ⟨fun _ => ?_, ?_⟩; (focus (first | (go_at_call 20; with_reducible exact calls_grew (C1.out _)) | (go_at_call 21; with_reducible exact calls_grew (C2.out _)) | (go_at_call 22; with_reducible exact calls_grew (C3.out _)) | (go_at_call 23; with_reducible exact calls_grew (C4.out _)))); go_big_quiet_on))))))
          refine wpQuiet_nil ?_
          intro w9 hw9
          obtain ⟨x9, rfl⟩ := hw9
          clear x0 x1 C1 C2 C3 C4
          go_wp2_with fail
          go_ret
          exact ⟨by simp, below_thn HY78.out.2.2.2.2.2.1 (below_grew y77 x9) (Nat.le_refl _)⟩
  · as_aux_lemma =>
    obtain ⟨sm2, hsm2⟩ : ∃ b, samePB p q = b := ⟨_, rfl⟩
    have HSM2 := Lib.hid hsm2
    clear hsm2
    go_wp2_with fail
    refine wp_region_takes (fun w' => w'.rangeAt w.heap.size 0 (pmC p.o p.e (Value.slice ra rl rc) (Value.slice qa ql qc) (Value.slice ga gl gc))) [0, 4] 15 (by kernel_rfl) rfl (by kernel_rfl) (by kernel_rfl) (rangeAt_blk HD.out.1) ?_
    iterate 2 (refine' HeldL.run ?_ ?_ ?_ ?_; rotate_left 2; (simp only [List.getElem?_toArray, List.getElem?_cons_zero, List.getElem?_cons_succ]; rfl); rfl; (rintro w' k0; exact exec_load_mid rfl rfl k0 Try.underlying24 rfl (pmC_info _ _ _ _ _)); simp only [Act.put, List.setIfInBounds_toArray, List.set_cons_zero, List.set_cons_succ])
    have sm := (Sm.refl wc).drew
    have HV80 := Lib.hid (show Blk wc.drew w.heap.size 24 (pmC p.o p.e (Value.slice ra rl rc) (Value.slice qa ql qc) (Value.slice ga gl gc)) ∧ Blk wc.drew a1.heap.size 24 (pmC q.o q.e (Value.slice ra2 rl2 rc2) (Value.slice qa2 ql2 qc2) (Value.slice ga2 gl2 gc2)) ∧ Blk wc.drew a3.heap.size 43 (askC u (.slice ma ml mc)) ∧ PmS wc.drew p (Value.slice ra rl rc) (Value.slice qa ql qc) (Value.slice ga gl gc) ∧ PmS wc.drew q (Value.slice ra2 rl2 rc2) (Value.slice qa2 ql2 qc2) (Value.slice ga2 gl2 gc2) ∧ Below w.heap.size w wc.drew from ⟨HD.out.1.below (sm.below _) HD.out.1.lt, HD.out.2.1.below (sm.below _) HD.out.2.1.lt, HD.out.2.2.1.below (sm.below _) HD.out.2.2.1.lt, HD.out.2.2.2.1.below (sm.below _), HD.out.2.2.2.2.1.below (sm.below _), below_thn HD.out.2.2.2.2.2 (sm.below _) (Nat.le_refl _)⟩)
    clear sm
    generalize wc.drew = v79 at HV80 ⊢
    refine' wpAnyH_one 1 (by kernel_rfl) ?_ ?_; rotate_left; (simp only [List.getElem?_toArray, List.getElem?_cons_zero, List.getElem?_cons_succ]; rfl)
    try simp only [Act.put]
    go_wp2_with fail
    refine (copied_any p _ _ _ v79 HV80.out.2.2.2.1 HLEN.out).mono ?_
    rintro e' y81 ⟨x83r, x83q, x83g, rfl, hs, hb, -⟩
    obtain ⟨x83a0, x83c0, rfl, -⟩ := hs.1.shape
    obtain ⟨x83a1, x83c1, rfl, -⟩ := hs.2.1.shape
    obtain ⟨x83a2, x83c2, rfl, -⟩ := hs.2.2.shape
    generalize (ofK .i64 p.r).length = x83l0 at hs ⊢
    generalize (ofK .i64 p.q).length = x83l1 at hs ⊢
    generalize (ofK .i64 p.g).length = x83l2 at hs ⊢
    have HY82 := Lib.hid (show Blk y81 w.heap.size 24 (pmC p.o p.e (Value.slice ra rl rc) (Value.slice qa ql qc) (Value.slice ga gl gc)) ∧ Blk y81 a1.heap.size 24 (pmC q.o q.e (Value.slice ra2 rl2 rc2) (Value.slice qa2 ql2 qc2) (Value.slice ga2 gl2 gc2)) ∧ Blk y81 a3.heap.size 43 (askC u (.slice ma ml mc)) ∧ PmS y81 p (Value.slice ra rl rc) (Value.slice qa ql qc) (Value.slice ga gl gc) ∧ PmS y81 q (Value.slice ra2 rl2 rc2) (Value.slice qa2 ql2 qc2) (Value.slice ga2 gl2 gc2) ∧ Below w.heap.size w y81 ∧ PmS y81 p (Value.slice x83a0 x83l0 x83c0) (Value.slice x83a1 x83l1 x83c1) (Value.slice x83a2 x83l2 x83c2) from ⟨HV80.out.1.below hb HV80.out.1.lt, HV80.out.2.1.below hb HV80.out.2.1.lt, HV80.out.2.2.1.below hb HV80.out.2.2.1.lt, HV80.out.2.2.2.1.below hb, HV80.out.2.2.2.2.1.below hb, below_thn HV80.out.2.2.2.2.2 hb (Nat.le_refl _), hs⟩)
    clear hs hb
    go_wp2_with fail
    refine QK.normal ⟨(rangeAt_blk HY82.out.1), ?_⟩
    refine' wpAnyH_one 2 (by kernel_rfl) ?_ ?_; rotate_left; (simp only [List.getElem?_toArray, List.getElem?_cons_zero, List.getElem?_cons_succ]; rfl)
    try simp only [Act.put]
    go_wp2_with fail
    have hx := check_of p true HB1.out _ _ _ y81 HY82.out.2.2.2.2.2.2
    refine Calls.mono hx ?_
    clear hx
    rintro e' y84 ⟨rfl, hb⟩
    have HY85 := Lib.hid (show Blk y84 w.heap.size 24 (pmC p.o p.e (Value.slice ra rl rc) (Value.slice qa ql qc) (Value.slice ga gl gc)) ∧ Blk y84 a1.heap.size 24 (pmC q.o q.e (Value.slice ra2 rl2 rc2) (Value.slice qa2 ql2 qc2) (Value.slice ga2 gl2 gc2)) ∧ Blk y84 a3.heap.size 43 (askC u (.slice ma ml mc)) ∧ PmS y84 p (Value.slice ra rl rc) (Value.slice qa ql qc) (Value.slice ga gl gc) ∧ PmS y84 q (Value.slice ra2 rl2 rc2) (Value.slice qa2 ql2 qc2) (Value.slice ga2 gl2 gc2) ∧ Below w.heap.size w y84 ∧ PmS y84 p (Value.slice x83a0 x83l0 x83c0) (Value.slice x83a1 x83l1 x83c1) (Value.slice x83a2 x83l2 x83c2) from ⟨HY82.out.1.below hb HY82.out.1.lt, HY82.out.2.1.below hb HY82.out.2.1.lt, HY82.out.2.2.1.below hb HY82.out.2.2.1.lt, HY82.out.2.2.2.1.below hb, HY82.out.2.2.2.2.1.below hb, below_thn HY82.out.2.2.2.2.2.1 hb (Nat.le_refl _), HY82.out.2.2.2.2.2.2.below hb⟩)
    clear hb
    go_wp2_with fail
    refine QK.normal ⟨(rangeAt_blk HY85.out.1), ?_⟩
    refine' wpAnyH_two 3 5 (by kernel_rfl) ?_ ?_ ?_ ?_; rotate_left 2; (simp only [List.getElem?_toArray, List.getElem?_cons_zero, List.getElem?_cons_succ]; rfl); (simp only [List.getElem?_toArray, List.getElem?_cons_zero, List.getElem?_cons_succ]; rfl)
    · skip
      try simp only [Act.put]
      go_wp2_with fail
      refine QK.normal ⟨(rangeAt_blk HY85.out.1), ?_⟩
      refine' wpAnyH_one 5 (by kernel_rfl) ?_ ?_; rotate_left; (simp only [List.getElem?_toArray, List.getElem?_cons_zero, List.getElem?_cons_succ]; rfl)
      try simp only [Act.put]
      go_wp2_with fail
      have hx := rright_any p _ _ _ y84 HY85.out.2.2.2.1
      rw [HB1.out] at hx
      refine Calls.mono hx ?_
      clear hx
      rintro e' y86 ⟨rfl, hb⟩
      have HY87 := Lib.hid (show Blk y86 w.heap.size 24 (pmC p.o p.e (Value.slice ra rl rc) (Value.slice qa ql qc) (Value.slice ga gl gc)) ∧ Blk y86 a1.heap.size 24 (pmC q.o q.e (Value.slice ra2 rl2 rc2) (Value.slice qa2 ql2 qc2) (Value.slice ga2 gl2 gc2)) ∧ Blk y86 a3.heap.size 43 (askC u (.slice ma ml mc)) ∧ PmS y86 p (Value.slice ra rl rc) (Value.slice qa ql qc) (Value.slice ga gl gc) ∧ PmS y86 q (Value.slice ra2 rl2 rc2) (Value.slice qa2 ql2 qc2) (Value.slice ga2 gl2 gc2) ∧ Below w.heap.size w y86 ∧ PmS y86 p (Value.slice x83a0 x83l0 x83c0) (Value.slice x83a1 x83l1 x83c1) (Value.slice x83a2 x83l2 x83c2) from ⟨HY85.out.1.below hb HY85.out.1.lt, HY85.out.2.1.below hb HY85.out.2.1.lt, HY85.out.2.2.1.below hb HY85.out.2.2.1.lt, HY85.out.2.2.2.1.below hb, HY85.out.2.2.2.2.1.below hb, below_thn HY85.out.2.2.2.2.2.1 hb (Nat.le_refl _), HY85.out.2.2.2.2.2.2.below hb⟩)
      clear hb
      go_wp2_with fail
      refine QK.normal ⟨(rangeAt_blk HY87.out.1), ?_⟩
      refine' wpAnyH_one 6 (by kernel_rfl) ?_ ?_; rotate_left; (simp only [List.getElem?_toArray, List.getElem?_cons_zero, List.getElem?_cons_succ]; rfl)
      try simp only [Act.put]
      go_wp2_with fail
      refine QK.normal ⟨(rangeAt_blk HY87.out.1), ?_⟩
      refine' wpAnyH_one 7 (by kernel_rfl) ?_ ?_; rotate_left; (simp only [List.getElem?_toArray, List.getElem?_cons_zero, List.getElem?_cons_succ]; rfl)
      try simp only [Act.put]
      go_wp2_with fail
      refine QK.normal ⟨(rangeAt_blk HY87.out.1), ?_⟩
      refine' wpAnyH_one 8 (by kernel_rfl) ?_ ?_; rotate_left; (simp only [List.getElem?_toArray, List.getElem?_cons_zero, List.getElem?_cons_succ]; rfl)
      try simp only [Act.put]
      go_wp2_with (first
    | (with_reducible refine wpList_load_any rfl 24 (.tmp 3) rfl w.heap.size 0 rfl (pmC p.o p.e (Value.slice ra rl rc) (Value.slice qa ql qc) (Value.slice ga gl gc)) _ (rangeW_blk HY87.out.1) Try.underlying24 rfl (pmC_info _ _ _ _ _) ?_)
    | ((with_reducible refine wpList_load_want ?_ 24 (.tmp 3) rfl w.heap.size 0 rfl (pmC p.o p.e (Value.slice ra rl rc) (Value.slice qa ql qc) (Value.slice ga gl gc)) _ (rangeW_blk HY87.out.1) Try.underlying24 rfl (pmC_info _ _ _ _ _) ?_); focus rfl))
      refine QK.normal ⟨(rangeAt_blk HY87.out.1), ?_⟩
      refine' wpAnyH_one 9 (by kernel_rfl) ?_ ?_; rotate_left; (simp only [List.getElem?_toArray, List.getElem?_cons_zero, List.getElem?_cons_succ]; rfl)
      try simp only [Act.put]
      go_wp2_with fail
      have hx := rright_any p _ _ _ y86 HY87.out.2.2.2.1
      rw [HB1.out] at hx
      refine Calls.mono hx ?_
      clear hx
      rintro e' y88 ⟨rfl, hb⟩
      have HY89 := Lib.hid (show Blk y88 w.heap.size 24 (pmC p.o p.e (Value.slice ra rl rc) (Value.slice qa ql qc) (Value.slice ga gl gc)) ∧ Blk y88 a1.heap.size 24 (pmC q.o q.e (Value.slice ra2 rl2 rc2) (Value.slice qa2 ql2 qc2) (Value.slice ga2 gl2 gc2)) ∧ Blk y88 a3.heap.size 43 (askC u (.slice ma ml mc)) ∧ PmS y88 p (Value.slice ra rl rc) (Value.slice qa ql qc) (Value.slice ga gl gc) ∧ PmS y88 q (Value.slice ra2 rl2 rc2) (Value.slice qa2 ql2 qc2) (Value.slice ga2 gl2 gc2) ∧ Below w.heap.size w y88 ∧ PmS y88 p (Value.slice x83a0 x83l0 x83c0) (Value.slice x83a1 x83l1 x83c1) (Value.slice x83a2 x83l2 x83c2) from ⟨HY87.out.1.below hb HY87.out.1.lt, HY87.out.2.1.below hb HY87.out.2.1.lt, HY87.out.2.2.1.below hb HY87.out.2.2.1.lt, HY87.out.2.2.2.1.below hb, HY87.out.2.2.2.2.1.below hb, below_thn HY87.out.2.2.2.2.2.1 hb (Nat.le_refl _), HY87.out.2.2.2.2.2.2.below hb⟩)
      clear hb
      go_wp2_with fail
      refine QK.normal ⟨(rangeAt_blk HY89.out.1), ?_⟩
      refine' wpAnyH_one 10 (by kernel_rfl) ?_ ?_; rotate_left; (simp only [List.getElem?_toArray, List.getElem?_cons_zero, List.getElem?_cons_succ]; rfl)
      try simp only [Act.put]
      go_wp2_with fail
      refine QK.normal ⟨(rangeAt_blk HY89.out.1), ?_⟩
      refine' wpAnyH_one 11 (by kernel_rfl) ?_ ?_; rotate_left; (simp only [List.getElem?_toArray, List.getElem?_cons_zero, List.getElem?_cons_succ]; rfl)
      try simp only [Act.put]
      go_wp2_with fail
      refine QK.normal ⟨(rangeAt_blk HY89.out.1), ?_⟩
      refine' wpAnyH_one 12 (by kernel_rfl) ?_ ?_; rotate_left; (simp only [List.getElem?_toArray, List.getElem?_cons_zero, List.getElem?_cons_succ]; rfl)
      try simp only [Act.put]
      go_wp2_with fail
      refine QK.normal ⟨(rangeAt_blk HY89.out.1), ?_⟩
      refine' wpAnyH_one 13 (by kernel_rfl) ?_ ?_; rotate_left; (simp only [List.getElem?_toArray, List.getElem?_cons_zero, List.getElem?_cons_succ]; rfl)
      try simp only [Act.put]
      go_wp2_with fail
      refine QK.normal ⟨(rangeAt_blk HY89.out.1), ?_⟩
      refine' wpAnyH_one 14 (by kernel_rfl) ?_ ?_; rotate_left; (simp only [List.getElem?_toArray, List.getElem?_cons_zero, List.getElem?_cons_succ]; rfl)
      try simp only [Act.put]
      go_wp2_with fail
      refine QK.normal ⟨(rangeAt_blk HY89.out.1), ?_⟩
      refine' wpAnyH_one 15 (by kernel_rfl) ?_ ?_; rotate_left; (simp only [List.getElem?_toArray, List.getElem?_cons_zero, List.getElem?_cons_succ]; rfl)
      try simp only [Act.put]
      go_wp2_with fail
      refine QK.normal ⟨(rangeAt_blk HY89.out.1), ?_⟩
      refine' wpAnyH_one 16 (by kernel_rfl) ?_ ?_; rotate_left; (simp only [List.getElem?_toArray, List.getElem?_cons_zero, List.getElem?_cons_succ]; rfl)
      try simp only [Act.put]
      go_wp2_with fail
      refine QK.normal ⟨(rangeAt_blk HY89.out.1), ?_⟩
      refine wpAnyH_done (by kernel_rfl) ?_ _
      refine NoPanic.normal ?_
      go_wp2_with fail
      refine wp_region_takes (fun w' => w'.rangeAt w.heap.size 0 (pmC p.o p.e (Value.slice ra rl rc) (Value.slice qa ql qc) (Value.slice ga gl gc)) ∧ w'.rangeAt a1.heap.size 0 (pmC q.o q.e (Value.slice ra2 rl2 rc2) (Value.slice qa2 ql2 qc2) (Value.slice ga2 gl2 gc2))) [0, 1, 2, 3, 5, 6] 11 (by kernel_rfl) rfl (by kernel_rfl) (by kernel_rfl) ⟨rangeAt_blk HY89.out.1, rangeAt_blk HY89.out.2.1⟩ ?_
      iterate 6 (refine' HeldL.run ?_ ?_ ?_ ?_; rotate_left 2; (simp only [List.getElem?_toArray, List.getElem?_cons_zero, List.getElem?_cons_succ]; rfl); rfl; (rintro w' ⟨k0, k1⟩; first | (go_simp; with_reducible rfl) | exact exec_load_mid rfl rfl k0 Try.underlying24 rfl (pmC_info _ _ _ _ _) | exact exec_load_mid rfl rfl k1 Try.underlying24 rfl (pmC_info _ _ _ _ _)); simp only [Act.put, List.setIfInBounds_toArray, List.set_cons_zero, List.set_cons_succ])
      have sm := (Sm.refl y88).drew
      have HV91 := Lib.hid (show Blk y88.drew w.heap.size 24 (pmC p.o p.e (Value.slice ra rl rc) (Value.slice qa ql qc) (Value.slice ga gl gc)) ∧ Blk y88.drew a1.heap.size 24 (pmC q.o q.e (Value.slice ra2 rl2 rc2) (Value.slice qa2 ql2 qc2) (Value.slice ga2 gl2 gc2)) ∧ Blk y88.drew a3.heap.size 43 (askC u (.slice ma ml mc)) ∧ PmS y88.drew p (Value.slice ra rl rc) (Value.slice qa ql qc) (Value.slice ga gl gc) ∧ PmS y88.drew q (Value.slice ra2 rl2 rc2) (Value.slice qa2 ql2 qc2) (Value.slice ga2 gl2 gc2) ∧ Below w.heap.size w y88.drew ∧ PmS y88.drew p (Value.slice x83a0 x83l0 x83c0) (Value.slice x83a1 x83l1 x83c1) (Value.slice x83a2 x83l2 x83c2) from ⟨HY89.out.1.below (sm.below _) HY89.out.1.lt, HY89.out.2.1.below (sm.below _) HY89.out.2.1.lt, HY89.out.2.2.1.below (sm.below _) HY89.out.2.2.1.lt, HY89.out.2.2.2.1.below (sm.below _), HY89.out.2.2.2.2.1.below (sm.below _), below_thn HY89.out.2.2.2.2.2.1 (sm.below _) (Nat.le_refl _), HY89.out.2.2.2.2.2.2.below (sm.below _)⟩)
      clear sm
      generalize y88.drew = v90 at HV91 ⊢
      refine' wpAnyH_one 4 (by kernel_rfl) ?_ ?_; rotate_left; (simp only [List.getElem?_toArray, List.getElem?_cons_zero, List.getElem?_cons_succ]; rfl)
      try simp only [Act.put]
      go_wp2_with fail
      have hx := psame_any p q _ _ _ _ _ _ v90 HV91.out.2.2.2.1 HV91.out.2.2.2.2.1
      rw [HSM2.out] at hx
      refine Calls.mono hx ?_
      clear hx
      rintro e' y92 ⟨rfl, hb⟩
      have HY93 := Lib.hid (show Blk y92 w.heap.size 24 (pmC p.o p.e (Value.slice ra rl rc) (Value.slice qa ql qc) (Value.slice ga gl gc)) ∧ Blk y92 a1.heap.size 24 (pmC q.o q.e (Value.slice ra2 rl2 rc2) (Value.slice qa2 ql2 qc2) (Value.slice ga2 gl2 gc2)) ∧ Blk y92 a3.heap.size 43 (askC u (.slice ma ml mc)) ∧ PmS y92 p (Value.slice ra rl rc) (Value.slice qa ql qc) (Value.slice ga gl gc) ∧ PmS y92 q (Value.slice ra2 rl2 rc2) (Value.slice qa2 ql2 qc2) (Value.slice ga2 gl2 gc2) ∧ Below w.heap.size w y92 ∧ PmS y92 p (Value.slice x83a0 x83l0 x83c0) (Value.slice x83a1 x83l1 x83c1) (Value.slice x83a2 x83l2 x83c2) from ⟨HV91.out.1.below hb HV91.out.1.lt, HV91.out.2.1.below hb HV91.out.2.1.lt, HV91.out.2.2.1.below hb HV91.out.2.2.1.lt, HV91.out.2.2.2.1.below hb, HV91.out.2.2.2.2.1.below hb, below_thn HV91.out.2.2.2.2.2.1 hb (Nat.le_refl _), HV91.out.2.2.2.2.2.2.below hb⟩)
      clear hb
      go_wp2_with fail
      refine QK.normal ⟨⟨rangeAt_blk HY93.out.1, rangeAt_blk HY93.out.2.1⟩, ?_⟩
      refine' wpAnyH_one 7 (by kernel_rfl) ?_ ?_; rotate_left; (simp only [List.getElem?_toArray, List.getElem?_cons_zero, List.getElem?_cons_succ]; rfl)
      try simp only [Act.put]
      go_wp2_with fail
      have hx := rsame_any p q _ _ _ _ _ _ y92 HY93.out.2.2.2.1 HY93.out.2.2.2.2.1
      rw [HSM2.out] at hx
      refine Calls.mono hx ?_
      clear hx
      rintro e' y94 ⟨rfl, hb⟩
      have HY95 := Lib.hid (show Blk y94 w.heap.size 24 (pmC p.o p.e (Value.slice ra rl rc) (Value.slice qa ql qc) (Value.slice ga gl gc)) ∧ Blk y94 a1.heap.size 24 (pmC q.o q.e (Value.slice ra2 rl2 rc2) (Value.slice qa2 ql2 qc2) (Value.slice ga2 gl2 gc2)) ∧ Blk y94 a3.heap.size 43 (askC u (.slice ma ml mc)) ∧ PmS y94 p (Value.slice ra rl rc) (Value.slice qa ql qc) (Value.slice ga gl gc) ∧ PmS y94 q (Value.slice ra2 rl2 rc2) (Value.slice qa2 ql2 qc2) (Value.slice ga2 gl2 gc2) ∧ Below w.heap.size w y94 ∧ PmS y94 p (Value.slice x83a0 x83l0 x83c0) (Value.slice x83a1 x83l1 x83c1) (Value.slice x83a2 x83l2 x83c2) from ⟨HY93.out.1.below hb HY93.out.1.lt, HY93.out.2.1.below hb HY93.out.2.1.lt, HY93.out.2.2.1.below hb HY93.out.2.2.1.lt, HY93.out.2.2.2.1.below hb, HY93.out.2.2.2.2.1.below hb, below_thn HY93.out.2.2.2.2.2.1 hb (Nat.le_refl _), HY93.out.2.2.2.2.2.2.below hb⟩)
      clear hb
      go_wp2_with fail
      refine QK.normal ⟨⟨rangeAt_blk HY95.out.1, rangeAt_blk HY95.out.2.1⟩, ?_⟩
      refine' wpAnyH_one 8 (by kernel_rfl) ?_ ?_; rotate_left; (simp only [List.getElem?_toArray, List.getElem?_cons_zero, List.getElem?_cons_succ]; rfl)
      try simp only [Act.put]
      go_wp2_with fail
      refine QK.normal ⟨⟨rangeAt_blk HY95.out.1, rangeAt_blk HY95.out.2.1⟩, ?_⟩
      refine' wpAnyH_one 9 (by kernel_rfl) ?_ ?_; rotate_left; (simp only [List.getElem?_toArray, List.getElem?_cons_zero, List.getElem?_cons_succ]; rfl)
      try simp only [Act.put]
      go_wp2_with fail
      refine QK.normal ⟨⟨rangeAt_blk HY95.out.1, rangeAt_blk HY95.out.2.1⟩, ?_⟩
      refine' wpAnyH_one 10 (by kernel_rfl) ?_ ?_; rotate_left; (simp only [List.getElem?_toArray, List.getElem?_cons_zero, List.getElem?_cons_succ]; rfl)
      try simp only [Act.put]
      go_wp2_with fail
      refine QK.normal ⟨⟨rangeAt_blk HY95.out.1, rangeAt_blk HY95.out.2.1⟩, ?_⟩
      refine' wpAnyH_two 11 12 (by kernel_rfl) ?_ ?_ ?_ ?_; rotate_left 2; (simp only [List.getElem?_toArray, List.getElem?_cons_zero, List.getElem?_cons_succ]; rfl); (simp only [List.getElem?_toArray, List.getElem?_cons_zero, List.getElem?_cons_succ]; rfl)
      · skip
        try simp only [Act.put]
        go_wp2_with (first
    | (with_reducible refine wpList_load_any rfl 24 (.tmp 3) rfl w.heap.size 0 rfl (pmC p.o p.e (Value.slice ra rl rc) (Value.slice qa ql qc) (Value.slice ga gl gc)) _ (rangeW_blk HY95.out.1) Try.underlying24 rfl (pmC_info _ _ _ _ _) ?_)
    | ((with_reducible refine wpList_load_want ?_ 24 (.tmp 3) rfl w.heap.size 0 rfl (pmC p.o p.e (Value.slice ra rl rc) (Value.slice qa ql qc) (Value.slice ga gl gc)) _ (rangeW_blk HY95.out.1) Try.underlying24 rfl (pmC_info _ _ _ _ _) ?_); focus rfl))
        refine QK.normal ⟨⟨rangeAt_blk HY95.out.1, rangeAt_blk HY95.out.2.1⟩, ?_⟩
        refine' wpAnyH_one 12 (by kernel_rfl) ?_ ?_; rotate_left; (simp only [List.getElem?_toArray, List.getElem?_cons_zero, List.getElem?_cons_succ]; rfl)
        try simp only [Act.put]
        go_wp2_with (first
    | (with_reducible refine wpList_load_any rfl 24 (.tmp 3) rfl w.heap.size 0 rfl (pmC p.o p.e (Value.slice ra rl rc) (Value.slice qa ql qc) (Value.slice ga gl gc)) _ (rangeW_blk HY95.out.1) Try.underlying24 rfl (pmC_info _ _ _ _ _) ?_)
    | ((with_reducible refine wpList_load_want ?_ 24 (.tmp 3) rfl w.heap.size 0 rfl (pmC p.o p.e (Value.slice ra rl rc) (Value.slice qa ql qc) (Value.slice ga gl gc)) _ (rangeW_blk HY95.out.1) Try.underlying24 rfl (pmC_info _ _ _ _ _) ?_); focus rfl))
        refine QK.normal ⟨⟨rangeAt_blk HY95.out.1, rangeAt_blk HY95.out.2.1⟩, ?_⟩
        refine' wpAnyH_one 13 (by kernel_rfl) ?_ ?_; rotate_left; (simp only [List.getElem?_toArray, List.getElem?_cons_zero, List.getElem?_cons_succ]; rfl)
        try simp only [Act.put]
        go_wp2_with fail
        refine (copied_any p _ _ _ y94 HY95.out.2.2.2.1 HLEN.out).mono ?_
        rintro e' y96 ⟨x98r, x98q, x98g, rfl, hs, hb, -⟩
        obtain ⟨x98a0, x98c0, rfl, -⟩ := hs.1.shape
        obtain ⟨x98a1, x98c1, rfl, -⟩ := hs.2.1.shape
        obtain ⟨x98a2, x98c2, rfl, -⟩ := hs.2.2.shape
        generalize (ofK .i64 p.r).length = x98l0 at hs ⊢
        generalize (ofK .i64 p.q).length = x98l1 at hs ⊢
        generalize (ofK .i64 p.g).length = x98l2 at hs ⊢
        have HY97 := Lib.hid (show Blk y96 w.heap.size 24 (pmC p.o p.e (Value.slice ra rl rc) (Value.slice qa ql qc) (Value.slice ga gl gc)) ∧ Blk y96 a1.heap.size 24 (pmC q.o q.e (Value.slice ra2 rl2 rc2) (Value.slice qa2 ql2 qc2) (Value.slice ga2 gl2 gc2)) ∧ Blk y96 a3.heap.size 43 (askC u (.slice ma ml mc)) ∧ PmS y96 p (Value.slice ra rl rc) (Value.slice qa ql qc) (Value.slice ga gl gc) ∧ PmS y96 q (Value.slice ra2 rl2 rc2) (Value.slice qa2 ql2 qc2) (Value.slice ga2 gl2 gc2) ∧ Below w.heap.size w y96 ∧ PmS y96 p (Value.slice x83a0 x83l0 x83c0) (Value.slice x83a1 x83l1 x83c1) (Value.slice x83a2 x83l2 x83c2) ∧ PmS y96 p (Value.slice x98a0 x98l0 x98c0) (Value.slice x98a1 x98l1 x98c1) (Value.slice x98a2 x98l2 x98c2) from ⟨HY95.out.1.below hb HY95.out.1.lt, HY95.out.2.1.below hb HY95.out.2.1.lt, HY95.out.2.2.1.below hb HY95.out.2.2.1.lt, HY95.out.2.2.2.1.below hb, HY95.out.2.2.2.2.1.below hb, below_thn HY95.out.2.2.2.2.2.1 hb (Nat.le_refl _), HY95.out.2.2.2.2.2.2.below hb, hs⟩)
        clear hs hb
        go_wp2_with fail
        refine QK.normal ⟨⟨rangeAt_blk HY97.out.1, rangeAt_blk HY97.out.2.1⟩, ?_⟩
        refine' wpAnyH_one 14 (by kernel_rfl) ?_ ?_; rotate_left; (simp only [List.getElem?_toArray, List.getElem?_cons_zero, List.getElem?_cons_succ]; rfl)
        try simp only [Act.put]
        go_wp2_with fail
        have hx := psame_any p p _ _ _ _ _ _ y96 HY97.out.2.2.2.1 HY97.out.2.2.2.2.2.2.2
        rw [same_self p] at hx
        refine Calls.mono hx ?_
        clear hx
        rintro e' y99 ⟨rfl, hb⟩
        have HY100 := Lib.hid (show Blk y99 w.heap.size 24 (pmC p.o p.e (Value.slice ra rl rc) (Value.slice qa ql qc) (Value.slice ga gl gc)) ∧ Blk y99 a1.heap.size 24 (pmC q.o q.e (Value.slice ra2 rl2 rc2) (Value.slice qa2 ql2 qc2) (Value.slice ga2 gl2 gc2)) ∧ Blk y99 a3.heap.size 43 (askC u (.slice ma ml mc)) ∧ PmS y99 p (Value.slice ra rl rc) (Value.slice qa ql qc) (Value.slice ga gl gc) ∧ PmS y99 q (Value.slice ra2 rl2 rc2) (Value.slice qa2 ql2 qc2) (Value.slice ga2 gl2 gc2) ∧ Below w.heap.size w y99 ∧ PmS y99 p (Value.slice x83a0 x83l0 x83c0) (Value.slice x83a1 x83l1 x83c1) (Value.slice x83a2 x83l2 x83c2) ∧ PmS y99 p (Value.slice x98a0 x98l0 x98c0) (Value.slice x98a1 x98l1 x98c1) (Value.slice x98a2 x98l2 x98c2) from ⟨HY97.out.1.below hb HY97.out.1.lt, HY97.out.2.1.below hb HY97.out.2.1.lt, HY97.out.2.2.1.below hb HY97.out.2.2.1.lt, HY97.out.2.2.2.1.below hb, HY97.out.2.2.2.2.1.below hb, below_thn HY97.out.2.2.2.2.2.1 hb (Nat.le_refl _), HY97.out.2.2.2.2.2.2.1.below hb, HY97.out.2.2.2.2.2.2.2.below hb⟩)
        clear hb
        go_wp2_with fail
        refine QK.normal ⟨⟨rangeAt_blk HY100.out.1, rangeAt_blk HY100.out.2.1⟩, ?_⟩
        refine' wpAnyH_one 15 (by kernel_rfl) ?_ ?_; rotate_left; (simp only [List.getElem?_toArray, List.getElem?_cons_zero, List.getElem?_cons_succ]; rfl)
        try simp only [Act.put]
        go_wp2_with fail
        refine QK.normal ⟨⟨rangeAt_blk HY100.out.1, rangeAt_blk HY100.out.2.1⟩, ?_⟩
        refine' wpAnyH_one 16 (by kernel_rfl) ?_ ?_; rotate_left; (simp only [List.getElem?_toArray, List.getElem?_cons_zero, List.getElem?_cons_succ]; rfl)
        try simp only [Act.put]
        go_wp2_with fail
        refine QK.normal ⟨⟨rangeAt_blk HY100.out.1, rangeAt_blk HY100.out.2.1⟩, ?_⟩
        refine wpAnyH_done (by kernel_rfl) ?_ _
        refine NoPanic.normal ?_
        go_wp2_with fail
        have C1 := Lib.hid (fun x => show Calls Try.prog 20 #[.agg (pmC p.o p.e (Value.slice ra rl rc) (Value.slice qa ql qc) (Value.slice ga gl gc)).toArray, .int .i64 u] (grew y99 x) (fun e w' => e = .returned (.bool (mayWB p u)) ∧ Below (grew y99 x).heap.size (grew y99 x) w') from mayWrite_any p u _ _ _ (grew y99 x) (HY100.out.2.2.2.1.below (below_grew y99 x)))
        have C2 := Lib.hid (fun x => show Calls Try.prog 21 #[.agg (pmC p.o p.e (Value.slice ra rl rc) (Value.slice qa ql qc) (Value.slice ga gl gc)).toArray, .int .i64 u] (grew y99 x) (fun e w' => e = .returned (.bool (mayWB p u)) ∧ Below (grew y99 x).heap.size (grew y99 x) w') from rmayWrite_any p u _ _ _ (grew y99 x) (HY100.out.2.2.2.1.below (below_grew y99 x)))
        have C3 := Lib.hid (fun x => show Calls Try.prog 22 #[.agg (pmC p.o p.e (Value.slice ra rl rc) (Value.slice qa ql qc) (Value.slice ga gl gc)).toArray, .int .i64 u, .slice ma ml mc] (grew y99 x) (fun e w' => e = .returned (.bool (mayRB p u m)) ∧ Below (grew y99 x).heap.size (grew y99 x) w') from mayRead_any p u m _ _ _ _ (grew y99 x) (HY100.out.2.2.2.1.below (below_grew y99 x)) ((HSM.out.below HY100.out.2.2.2.2.2.1).below (below_grew y99 x)))
        have C4 := Lib.hid (fun x => show Calls Try.prog 23 #[.agg (pmC p.o p.e (Value.slice ra rl rc) (Value.slice qa ql qc) (Value.slice ga gl gc)).toArray, .int .i64 u, .slice ma ml mc] (grew y99 x) (fun e w' => e = .returned (.bool (mayRB p u m)) ∧ Below (grew y99 x).heap.size (grew y99 x) w') from rmayRead_any p u m _ _ _ _ (grew y99 x) (HY100.out.2.2.2.1.below (below_grew y99 x)) ((HSM.out.below HY100.out.2.2.2.2.2.1).below (below_grew y99 x)))
        obtain ⟨r1, hr1⟩ : ∃ b, mayWB p u = b := ⟨_, rfl⟩
        obtain ⟨r2, hr2⟩ : ∃ b, mayRB p u m = b := ⟨_, rfl⟩
        rw [hr1] at C1 C2
        rw [hr2] at C3 C4
        clear hr1 hr2
        have x0 := HY100.out.2.2.1.cell 0
        have x1 := HY100.out.2.2.1.cell 1
        simp only [askC, List.getElem?_cons_zero, List.getElem?_cons_succ] at x0 x1
        replace x0 := fun q => cell_grew x0 q
        replace x1 := fun q => cell_grew x1 q
        refine wp_region_grew (by kernel_rfl) (by kernel_rfl) ?_
        repeat (first | go_big_quiet_skip | (go_big_quiet_want; (first | (refine quiet_load_mid 24 (.tmp 3) rfl w.heap.size 0 rfl (pmC p.o p.e (Value.slice ra rl rc) (Value.slice qa ql qc) (Value.slice ga gl gc)) _ (fun w' hw' => rangeAt_grew (rangeAt_blk HY100.out.1) w' hw') Try.underlying24 rfl (pmC_info _ _ _ _ _) ?_; go_simp; go_big_quiet_on) | (go_big_quiet_op; (first | go_big_quiet_on | (apply Exists.intro; refine ⟨fun _ => ?_, ?_⟩; (focus (first | (go_at_call 20; with_reducible exact calls_grew (C1.out _)) | (go_at_call 21; with_reducible exact calls_grew (C2.out _)) | (go_at_call 22; with_reducible exact calls_grew (C3.out _)) | (go_at_call 23; with_reducible exact calls_grew (C4.out _)))); go_big_quiet_on))))))
        refine wpQuiet_nil ?_
        intro w9 hw9
        obtain ⟨x9, rfl⟩ := hw9
        clear x0 x1 C1 C2 C3 C4
        go_wp2_with fail
        go_ret
        exact ⟨by simp, below_thn HY100.out.2.2.2.2.2.1 (below_grew y99 x9) (Nat.le_refl _)⟩
      · skip
        try simp only [Act.put]
        go_wp2_with (first
    | (with_reducible refine wpList_load_any rfl 24 (.tmp 3) rfl w.heap.size 0 rfl (pmC p.o p.e (Value.slice ra rl rc) (Value.slice qa ql qc) (Value.slice ga gl gc)) _ (rangeW_blk HY95.out.1) Try.underlying24 rfl (pmC_info _ _ _ _ _) ?_)
    | ((with_reducible refine wpList_load_want ?_ 24 (.tmp 3) rfl w.heap.size 0 rfl (pmC p.o p.e (Value.slice ra rl rc) (Value.slice qa ql qc) (Value.slice ga gl gc)) _ (rangeW_blk HY95.out.1) Try.underlying24 rfl (pmC_info _ _ _ _ _) ?_); focus rfl))
        refine QK.normal ⟨⟨rangeAt_blk HY95.out.1, rangeAt_blk HY95.out.2.1⟩, ?_⟩
        refine' wpAnyH_two 11 13 (by kernel_rfl) ?_ ?_ ?_ ?_; rotate_left 2; (simp only [List.getElem?_toArray, List.getElem?_cons_zero, List.getElem?_cons_succ]; rfl); (simp only [List.getElem?_toArray, List.getElem?_cons_zero, List.getElem?_cons_succ]; rfl)
        · skip
          try simp only [Act.put]
          go_wp2_with (first
    | (with_reducible refine wpList_load_any rfl 24 (.tmp 3) rfl w.heap.size 0 rfl (pmC p.o p.e (Value.slice ra rl rc) (Value.slice qa ql qc) (Value.slice ga gl gc)) _ (rangeW_blk HY95.out.1) Try.underlying24 rfl (pmC_info _ _ _ _ _) ?_)
    | ((with_reducible refine wpList_load_want ?_ 24 (.tmp 3) rfl w.heap.size 0 rfl (pmC p.o p.e (Value.slice ra rl rc) (Value.slice qa ql qc) (Value.slice ga gl gc)) _ (rangeW_blk HY95.out.1) Try.underlying24 rfl (pmC_info _ _ _ _ _) ?_); focus rfl))
          refine QK.normal ⟨⟨rangeAt_blk HY95.out.1, rangeAt_blk HY95.out.2.1⟩, ?_⟩
          refine' wpAnyH_one 13 (by kernel_rfl) ?_ ?_; rotate_left; (simp only [List.getElem?_toArray, List.getElem?_cons_zero, List.getElem?_cons_succ]; rfl)
          try simp only [Act.put]
          go_wp2_with fail
          refine (copied_any p _ _ _ y94 HY95.out.2.2.2.1 HLEN.out).mono ?_
          rintro e' y101 ⟨x103r, x103q, x103g, rfl, hs, hb, -⟩
          obtain ⟨x103a0, x103c0, rfl, -⟩ := hs.1.shape
          obtain ⟨x103a1, x103c1, rfl, -⟩ := hs.2.1.shape
          obtain ⟨x103a2, x103c2, rfl, -⟩ := hs.2.2.shape
          generalize (ofK .i64 p.r).length = x103l0 at hs ⊢
          generalize (ofK .i64 p.q).length = x103l1 at hs ⊢
          generalize (ofK .i64 p.g).length = x103l2 at hs ⊢
          have HY102 := Lib.hid (show Blk y101 w.heap.size 24 (pmC p.o p.e (Value.slice ra rl rc) (Value.slice qa ql qc) (Value.slice ga gl gc)) ∧ Blk y101 a1.heap.size 24 (pmC q.o q.e (Value.slice ra2 rl2 rc2) (Value.slice qa2 ql2 qc2) (Value.slice ga2 gl2 gc2)) ∧ Blk y101 a3.heap.size 43 (askC u (.slice ma ml mc)) ∧ PmS y101 p (Value.slice ra rl rc) (Value.slice qa ql qc) (Value.slice ga gl gc) ∧ PmS y101 q (Value.slice ra2 rl2 rc2) (Value.slice qa2 ql2 qc2) (Value.slice ga2 gl2 gc2) ∧ Below w.heap.size w y101 ∧ PmS y101 p (Value.slice x83a0 x83l0 x83c0) (Value.slice x83a1 x83l1 x83c1) (Value.slice x83a2 x83l2 x83c2) ∧ PmS y101 p (Value.slice x103a0 x103l0 x103c0) (Value.slice x103a1 x103l1 x103c1) (Value.slice x103a2 x103l2 x103c2) from ⟨HY95.out.1.below hb HY95.out.1.lt, HY95.out.2.1.below hb HY95.out.2.1.lt, HY95.out.2.2.1.below hb HY95.out.2.2.1.lt, HY95.out.2.2.2.1.below hb, HY95.out.2.2.2.2.1.below hb, below_thn HY95.out.2.2.2.2.2.1 hb (Nat.le_refl _), HY95.out.2.2.2.2.2.2.below hb, hs⟩)
          clear hs hb
          go_wp2_with fail
          refine QK.normal ⟨⟨rangeAt_blk HY102.out.1, rangeAt_blk HY102.out.2.1⟩, ?_⟩
          refine' wpAnyH_one 14 (by kernel_rfl) ?_ ?_; rotate_left; (simp only [List.getElem?_toArray, List.getElem?_cons_zero, List.getElem?_cons_succ]; rfl)
          try simp only [Act.put]
          go_wp2_with fail
          have hx := psame_any p p _ _ _ _ _ _ y101 HY102.out.2.2.2.1 HY102.out.2.2.2.2.2.2.2
          rw [same_self p] at hx
          refine Calls.mono hx ?_
          clear hx
          rintro e' y104 ⟨rfl, hb⟩
          have HY105 := Lib.hid (show Blk y104 w.heap.size 24 (pmC p.o p.e (Value.slice ra rl rc) (Value.slice qa ql qc) (Value.slice ga gl gc)) ∧ Blk y104 a1.heap.size 24 (pmC q.o q.e (Value.slice ra2 rl2 rc2) (Value.slice qa2 ql2 qc2) (Value.slice ga2 gl2 gc2)) ∧ Blk y104 a3.heap.size 43 (askC u (.slice ma ml mc)) ∧ PmS y104 p (Value.slice ra rl rc) (Value.slice qa ql qc) (Value.slice ga gl gc) ∧ PmS y104 q (Value.slice ra2 rl2 rc2) (Value.slice qa2 ql2 qc2) (Value.slice ga2 gl2 gc2) ∧ Below w.heap.size w y104 ∧ PmS y104 p (Value.slice x83a0 x83l0 x83c0) (Value.slice x83a1 x83l1 x83c1) (Value.slice x83a2 x83l2 x83c2) ∧ PmS y104 p (Value.slice x103a0 x103l0 x103c0) (Value.slice x103a1 x103l1 x103c1) (Value.slice x103a2 x103l2 x103c2) from ⟨HY102.out.1.below hb HY102.out.1.lt, HY102.out.2.1.below hb HY102.out.2.1.lt, HY102.out.2.2.1.below hb HY102.out.2.2.1.lt, HY102.out.2.2.2.1.below hb, HY102.out.2.2.2.2.1.below hb, below_thn HY102.out.2.2.2.2.2.1 hb (Nat.le_refl _), HY102.out.2.2.2.2.2.2.1.below hb, HY102.out.2.2.2.2.2.2.2.below hb⟩)
          clear hb
          go_wp2_with fail
          refine QK.normal ⟨⟨rangeAt_blk HY105.out.1, rangeAt_blk HY105.out.2.1⟩, ?_⟩
          refine' wpAnyH_one 15 (by kernel_rfl) ?_ ?_; rotate_left; (simp only [List.getElem?_toArray, List.getElem?_cons_zero, List.getElem?_cons_succ]; rfl)
          try simp only [Act.put]
          go_wp2_with fail
          refine QK.normal ⟨⟨rangeAt_blk HY105.out.1, rangeAt_blk HY105.out.2.1⟩, ?_⟩
          refine' wpAnyH_one 16 (by kernel_rfl) ?_ ?_; rotate_left; (simp only [List.getElem?_toArray, List.getElem?_cons_zero, List.getElem?_cons_succ]; rfl)
          try simp only [Act.put]
          go_wp2_with fail
          refine QK.normal ⟨⟨rangeAt_blk HY105.out.1, rangeAt_blk HY105.out.2.1⟩, ?_⟩
          refine wpAnyH_done (by kernel_rfl) ?_ _
          refine NoPanic.normal ?_
          go_wp2_with fail
          have C1 := Lib.hid (fun x => show Calls Try.prog 20 #[.agg (pmC p.o p.e (Value.slice ra rl rc) (Value.slice qa ql qc) (Value.slice ga gl gc)).toArray, .int .i64 u] (grew y104 x) (fun e w' => e = .returned (.bool (mayWB p u)) ∧ Below (grew y104 x).heap.size (grew y104 x) w') from mayWrite_any p u _ _ _ (grew y104 x) (HY105.out.2.2.2.1.below (below_grew y104 x)))
          have C2 := Lib.hid (fun x => show Calls Try.prog 21 #[.agg (pmC p.o p.e (Value.slice ra rl rc) (Value.slice qa ql qc) (Value.slice ga gl gc)).toArray, .int .i64 u] (grew y104 x) (fun e w' => e = .returned (.bool (mayWB p u)) ∧ Below (grew y104 x).heap.size (grew y104 x) w') from rmayWrite_any p u _ _ _ (grew y104 x) (HY105.out.2.2.2.1.below (below_grew y104 x)))
          have C3 := Lib.hid (fun x => show Calls Try.prog 22 #[.agg (pmC p.o p.e (Value.slice ra rl rc) (Value.slice qa ql qc) (Value.slice ga gl gc)).toArray, .int .i64 u, .slice ma ml mc] (grew y104 x) (fun e w' => e = .returned (.bool (mayRB p u m)) ∧ Below (grew y104 x).heap.size (grew y104 x) w') from mayRead_any p u m _ _ _ _ (grew y104 x) (HY105.out.2.2.2.1.below (below_grew y104 x)) ((HSM.out.below HY105.out.2.2.2.2.2.1).below (below_grew y104 x)))
          have C4 := Lib.hid (fun x => show Calls Try.prog 23 #[.agg (pmC p.o p.e (Value.slice ra rl rc) (Value.slice qa ql qc) (Value.slice ga gl gc)).toArray, .int .i64 u, .slice ma ml mc] (grew y104 x) (fun e w' => e = .returned (.bool (mayRB p u m)) ∧ Below (grew y104 x).heap.size (grew y104 x) w') from rmayRead_any p u m _ _ _ _ (grew y104 x) (HY105.out.2.2.2.1.below (below_grew y104 x)) ((HSM.out.below HY105.out.2.2.2.2.2.1).below (below_grew y104 x)))
          obtain ⟨r1, hr1⟩ : ∃ b, mayWB p u = b := ⟨_, rfl⟩
          obtain ⟨r2, hr2⟩ : ∃ b, mayRB p u m = b := ⟨_, rfl⟩
          rw [hr1] at C1 C2
          rw [hr2] at C3 C4
          clear hr1 hr2
          have x0 := HY105.out.2.2.1.cell 0
          have x1 := HY105.out.2.2.1.cell 1
          simp only [askC, List.getElem?_cons_zero, List.getElem?_cons_succ] at x0 x1
          replace x0 := fun q => cell_grew x0 q
          replace x1 := fun q => cell_grew x1 q
          refine wp_region_grew (by kernel_rfl) (by kernel_rfl) ?_
          repeat (first | go_big_quiet_skip | (go_big_quiet_want; (first | (refine quiet_load_mid 24 (.tmp 3) rfl w.heap.size 0 rfl (pmC p.o p.e (Value.slice ra rl rc) (Value.slice qa ql qc) (Value.slice ga gl gc)) _ (fun w' hw' => rangeAt_grew (rangeAt_blk HY105.out.1) w' hw') Try.underlying24 rfl (pmC_info _ _ _ _ _) ?_; go_simp; go_big_quiet_on) | (go_big_quiet_op; (first | go_big_quiet_on | (apply Exists.intro; refine ⟨fun _ => ?_, ?_⟩; (focus (first | (go_at_call 20; with_reducible exact calls_grew (C1.out _)) | (go_at_call 21; with_reducible exact calls_grew (C2.out _)) | (go_at_call 22; with_reducible exact calls_grew (C3.out _)) | (go_at_call 23; with_reducible exact calls_grew (C4.out _)))); go_big_quiet_on))))))
          refine wpQuiet_nil ?_
          intro w9 hw9
          obtain ⟨x9, rfl⟩ := hw9
          clear x0 x1 C1 C2 C3 C4
          go_wp2_with fail
          go_ret
          exact ⟨by simp, below_thn HY105.out.2.2.2.2.2.1 (below_grew y104 x9) (Nat.le_refl _)⟩
        · skip
          try simp only [Act.put]
          go_wp2_with fail
          refine (copied_any p _ _ _ y94 HY95.out.2.2.2.1 HLEN.out).mono ?_
          rintro e' y106 ⟨x108r, x108q, x108g, rfl, hs, hb, -⟩
          obtain ⟨x108a0, x108c0, rfl, -⟩ := hs.1.shape
          obtain ⟨x108a1, x108c1, rfl, -⟩ := hs.2.1.shape
          obtain ⟨x108a2, x108c2, rfl, -⟩ := hs.2.2.shape
          generalize (ofK .i64 p.r).length = x108l0 at hs ⊢
          generalize (ofK .i64 p.q).length = x108l1 at hs ⊢
          generalize (ofK .i64 p.g).length = x108l2 at hs ⊢
          have HY107 := Lib.hid (show Blk y106 w.heap.size 24 (pmC p.o p.e (Value.slice ra rl rc) (Value.slice qa ql qc) (Value.slice ga gl gc)) ∧ Blk y106 a1.heap.size 24 (pmC q.o q.e (Value.slice ra2 rl2 rc2) (Value.slice qa2 ql2 qc2) (Value.slice ga2 gl2 gc2)) ∧ Blk y106 a3.heap.size 43 (askC u (.slice ma ml mc)) ∧ PmS y106 p (Value.slice ra rl rc) (Value.slice qa ql qc) (Value.slice ga gl gc) ∧ PmS y106 q (Value.slice ra2 rl2 rc2) (Value.slice qa2 ql2 qc2) (Value.slice ga2 gl2 gc2) ∧ Below w.heap.size w y106 ∧ PmS y106 p (Value.slice x83a0 x83l0 x83c0) (Value.slice x83a1 x83l1 x83c1) (Value.slice x83a2 x83l2 x83c2) ∧ PmS y106 p (Value.slice x108a0 x108l0 x108c0) (Value.slice x108a1 x108l1 x108c1) (Value.slice x108a2 x108l2 x108c2) from ⟨HY95.out.1.below hb HY95.out.1.lt, HY95.out.2.1.below hb HY95.out.2.1.lt, HY95.out.2.2.1.below hb HY95.out.2.2.1.lt, HY95.out.2.2.2.1.below hb, HY95.out.2.2.2.2.1.below hb, below_thn HY95.out.2.2.2.2.2.1 hb (Nat.le_refl _), HY95.out.2.2.2.2.2.2.below hb, hs⟩)
          clear hs hb
          go_wp2_with fail
          refine QK.normal ⟨⟨rangeAt_blk HY107.out.1, rangeAt_blk HY107.out.2.1⟩, ?_⟩
          refine' wpAnyH_one 11 (by kernel_rfl) ?_ ?_; rotate_left; (simp only [List.getElem?_toArray, List.getElem?_cons_zero, List.getElem?_cons_succ]; rfl)
          try simp only [Act.put]
          go_wp2_with (first
    | (with_reducible refine wpList_load_any rfl 24 (.tmp 3) rfl w.heap.size 0 rfl (pmC p.o p.e (Value.slice ra rl rc) (Value.slice qa ql qc) (Value.slice ga gl gc)) _ (rangeW_blk HY107.out.1) Try.underlying24 rfl (pmC_info _ _ _ _ _) ?_)
    | ((with_reducible refine wpList_load_want ?_ 24 (.tmp 3) rfl w.heap.size 0 rfl (pmC p.o p.e (Value.slice ra rl rc) (Value.slice qa ql qc) (Value.slice ga gl gc)) _ (rangeW_blk HY107.out.1) Try.underlying24 rfl (pmC_info _ _ _ _ _) ?_); focus rfl))
          refine QK.normal ⟨⟨rangeAt_blk HY107.out.1, rangeAt_blk HY107.out.2.1⟩, ?_⟩
          refine' wpAnyH_one 14 (by kernel_rfl) ?_ ?_; rotate_left; (simp only [List.getElem?_toArray, List.getElem?_cons_zero, List.getElem?_cons_succ]; rfl)
          try simp only [Act.put]
          go_wp2_with fail
          have hx := psame_any p p _ _ _ _ _ _ y106 HY107.out.2.2.2.1 HY107.out.2.2.2.2.2.2.2
          rw [same_self p] at hx
          refine Calls.mono hx ?_
          clear hx
          rintro e' y109 ⟨rfl, hb⟩
          have HY110 := Lib.hid (show Blk y109 w.heap.size 24 (pmC p.o p.e (Value.slice ra rl rc) (Value.slice qa ql qc) (Value.slice ga gl gc)) ∧ Blk y109 a1.heap.size 24 (pmC q.o q.e (Value.slice ra2 rl2 rc2) (Value.slice qa2 ql2 qc2) (Value.slice ga2 gl2 gc2)) ∧ Blk y109 a3.heap.size 43 (askC u (.slice ma ml mc)) ∧ PmS y109 p (Value.slice ra rl rc) (Value.slice qa ql qc) (Value.slice ga gl gc) ∧ PmS y109 q (Value.slice ra2 rl2 rc2) (Value.slice qa2 ql2 qc2) (Value.slice ga2 gl2 gc2) ∧ Below w.heap.size w y109 ∧ PmS y109 p (Value.slice x83a0 x83l0 x83c0) (Value.slice x83a1 x83l1 x83c1) (Value.slice x83a2 x83l2 x83c2) ∧ PmS y109 p (Value.slice x108a0 x108l0 x108c0) (Value.slice x108a1 x108l1 x108c1) (Value.slice x108a2 x108l2 x108c2) from ⟨HY107.out.1.below hb HY107.out.1.lt, HY107.out.2.1.below hb HY107.out.2.1.lt, HY107.out.2.2.1.below hb HY107.out.2.2.1.lt, HY107.out.2.2.2.1.below hb, HY107.out.2.2.2.2.1.below hb, below_thn HY107.out.2.2.2.2.2.1 hb (Nat.le_refl _), HY107.out.2.2.2.2.2.2.1.below hb, HY107.out.2.2.2.2.2.2.2.below hb⟩)
          clear hb
          go_wp2_with fail
          refine QK.normal ⟨⟨rangeAt_blk HY110.out.1, rangeAt_blk HY110.out.2.1⟩, ?_⟩
          refine' wpAnyH_one 15 (by kernel_rfl) ?_ ?_; rotate_left; (simp only [List.getElem?_toArray, List.getElem?_cons_zero, List.getElem?_cons_succ]; rfl)
          try simp only [Act.put]
          go_wp2_with fail
          refine QK.normal ⟨⟨rangeAt_blk HY110.out.1, rangeAt_blk HY110.out.2.1⟩, ?_⟩
          refine' wpAnyH_one 16 (by kernel_rfl) ?_ ?_; rotate_left; (simp only [List.getElem?_toArray, List.getElem?_cons_zero, List.getElem?_cons_succ]; rfl)
          try simp only [Act.put]
          go_wp2_with fail
          refine QK.normal ⟨⟨rangeAt_blk HY110.out.1, rangeAt_blk HY110.out.2.1⟩, ?_⟩
          refine wpAnyH_done (by kernel_rfl) ?_ _
          refine NoPanic.normal ?_
          go_wp2_with fail
          have C1 := Lib.hid (fun x => show Calls Try.prog 20 #[.agg (pmC p.o p.e (Value.slice ra rl rc) (Value.slice qa ql qc) (Value.slice ga gl gc)).toArray, .int .i64 u] (grew y109 x) (fun e w' => e = .returned (.bool (mayWB p u)) ∧ Below (grew y109 x).heap.size (grew y109 x) w') from mayWrite_any p u _ _ _ (grew y109 x) (HY110.out.2.2.2.1.below (below_grew y109 x)))
          have C2 := Lib.hid (fun x => show Calls Try.prog 21 #[.agg (pmC p.o p.e (Value.slice ra rl rc) (Value.slice qa ql qc) (Value.slice ga gl gc)).toArray, .int .i64 u] (grew y109 x) (fun e w' => e = .returned (.bool (mayWB p u)) ∧ Below (grew y109 x).heap.size (grew y109 x) w') from rmayWrite_any p u _ _ _ (grew y109 x) (HY110.out.2.2.2.1.below (below_grew y109 x)))
          have C3 := Lib.hid (fun x => show Calls Try.prog 22 #[.agg (pmC p.o p.e (Value.slice ra rl rc) (Value.slice qa ql qc) (Value.slice ga gl gc)).toArray, .int .i64 u, .slice ma ml mc] (grew y109 x) (fun e w' => e = .returned (.bool (mayRB p u m)) ∧ Below (grew y109 x).heap.size (grew y109 x) w') from mayRead_any p u m _ _ _ _ (grew y109 x) (HY110.out.2.2.2.1.below (below_grew y109 x)) ((HSM.out.below HY110.out.2.2.2.2.2.1).below (below_grew y109 x)))
          have C4 := Lib.hid (fun x => show Calls Try.prog 23 #[.agg (pmC p.o p.e (Value.slice ra rl rc) (Value.slice qa ql qc) (Value.slice ga gl gc)).toArray, .int .i64 u, .slice ma ml mc] (grew y109 x) (fun e w' => e = .returned (.bool (mayRB p u m)) ∧ Below (grew y109 x).heap.size (grew y109 x) w') from rmayRead_any p u m _ _ _ _ (grew y109 x) (HY110.out.2.2.2.1.below (below_grew y109 x)) ((HSM.out.below HY110.out.2.2.2.2.2.1).below (below_grew y109 x)))
          obtain ⟨r1, hr1⟩ : ∃ b, mayWB p u = b := ⟨_, rfl⟩
          obtain ⟨r2, hr2⟩ : ∃ b, mayRB p u m = b := ⟨_, rfl⟩
          rw [hr1] at C1 C2
          rw [hr2] at C3 C4
          clear hr1 hr2
          have x0 := HY110.out.2.2.1.cell 0
          have x1 := HY110.out.2.2.1.cell 1
          simp only [askC, List.getElem?_cons_zero, List.getElem?_cons_succ] at x0 x1
          replace x0 := fun q => cell_grew x0 q
          replace x1 := fun q => cell_grew x1 q
          refine wp_region_grew (by kernel_rfl) (by kernel_rfl) ?_
          repeat (first | go_big_quiet_skip | (go_big_quiet_want; (first | (refine quiet_load_mid 24 (.tmp 3) rfl w.heap.size 0 rfl (pmC p.o p.e (Value.slice ra rl rc) (Value.slice qa ql qc) (Value.slice ga gl gc)) _ (fun w' hw' => rangeAt_grew (rangeAt_blk HY110.out.1) w' hw') Try.underlying24 rfl (pmC_info _ _ _ _ _) ?_; go_simp; go_big_quiet_on) | (go_big_quiet_op; (first | go_big_quiet_on | (apply Exists.intro; refine ⟨fun _ => ?_, ?_⟩; (focus (first | (go_at_call 20; with_reducible exact calls_grew (C1.out _)) | (go_at_call 21; with_reducible exact calls_grew (C2.out _)) | (go_at_call 22; with_reducible exact calls_grew (C3.out _)) | (go_at_call 23; with_reducible exact calls_grew (C4.out _)))); go_big_quiet_on))))))
          refine wpQuiet_nil ?_
          intro w9 hw9
          obtain ⟨x9, rfl⟩ := hw9
          clear x0 x1 C1 C2 C3 C4
          go_wp2_with fail
          go_ret
          exact ⟨by simp, below_thn HY110.out.2.2.2.2.2.1 (below_grew y109 x9) (Nat.le_refl _)⟩
    · skip
      try simp only [Act.put]
      go_wp2_with fail
      have hx := rright_any p _ _ _ y84 HY85.out.2.2.2.1
      rw [HB1.out] at hx
      refine Calls.mono hx ?_
      clear hx
      rintro e' y111 ⟨rfl, hb⟩
      have HY112 := Lib.hid (show Blk y111 w.heap.size 24 (pmC p.o p.e (Value.slice ra rl rc) (Value.slice qa ql qc) (Value.slice ga gl gc)) ∧ Blk y111 a1.heap.size 24 (pmC q.o q.e (Value.slice ra2 rl2 rc2) (Value.slice qa2 ql2 qc2) (Value.slice ga2 gl2 gc2)) ∧ Blk y111 a3.heap.size 43 (askC u (.slice ma ml mc)) ∧ PmS y111 p (Value.slice ra rl rc) (Value.slice qa ql qc) (Value.slice ga gl gc) ∧ PmS y111 q (Value.slice ra2 rl2 rc2) (Value.slice qa2 ql2 qc2) (Value.slice ga2 gl2 gc2) ∧ Below w.heap.size w y111 ∧ PmS y111 p (Value.slice x83a0 x83l0 x83c0) (Value.slice x83a1 x83l1 x83c1) (Value.slice x83a2 x83l2 x83c2) from ⟨HY85.out.1.below hb HY85.out.1.lt, HY85.out.2.1.below hb HY85.out.2.1.lt, HY85.out.2.2.1.below hb HY85.out.2.2.1.lt, HY85.out.2.2.2.1.below hb, HY85.out.2.2.2.2.1.below hb, below_thn HY85.out.2.2.2.2.2.1 hb (Nat.le_refl _), HY85.out.2.2.2.2.2.2.below hb⟩)
      clear hb
      go_wp2_with fail
      refine QK.normal ⟨(rangeAt_blk HY112.out.1), ?_⟩
      refine' wpAnyH_one 3 (by kernel_rfl) ?_ ?_; rotate_left; (simp only [List.getElem?_toArray, List.getElem?_cons_zero, List.getElem?_cons_succ]; rfl)
      try simp only [Act.put]
      go_wp2_with fail
      refine QK.normal ⟨(rangeAt_blk HY112.out.1), ?_⟩
      refine' wpAnyH_one 6 (by kernel_rfl) ?_ ?_; rotate_left; (simp only [List.getElem?_toArray, List.getElem?_cons_zero, List.getElem?_cons_succ]; rfl)
      try simp only [Act.put]
      go_wp2_with fail
      refine QK.normal ⟨(rangeAt_blk HY112.out.1), ?_⟩
      refine' wpAnyH_one 7 (by kernel_rfl) ?_ ?_; rotate_left; (simp only [List.getElem?_toArray, List.getElem?_cons_zero, List.getElem?_cons_succ]; rfl)
      try simp only [Act.put]
      go_wp2_with fail
      refine QK.normal ⟨(rangeAt_blk HY112.out.1), ?_⟩
      refine' wpAnyH_one 8 (by kernel_rfl) ?_ ?_; rotate_left; (simp only [List.getElem?_toArray, List.getElem?_cons_zero, List.getElem?_cons_succ]; rfl)
      try simp only [Act.put]
      go_wp2_with (first
    | (with_reducible refine wpList_load_any rfl 24 (.tmp 3) rfl w.heap.size 0 rfl (pmC p.o p.e (Value.slice ra rl rc) (Value.slice qa ql qc) (Value.slice ga gl gc)) _ (rangeW_blk HY112.out.1) Try.underlying24 rfl (pmC_info _ _ _ _ _) ?_)
    | ((with_reducible refine wpList_load_want ?_ 24 (.tmp 3) rfl w.heap.size 0 rfl (pmC p.o p.e (Value.slice ra rl rc) (Value.slice qa ql qc) (Value.slice ga gl gc)) _ (rangeW_blk HY112.out.1) Try.underlying24 rfl (pmC_info _ _ _ _ _) ?_); focus rfl))
      refine QK.normal ⟨(rangeAt_blk HY112.out.1), ?_⟩
      refine' wpAnyH_one 9 (by kernel_rfl) ?_ ?_; rotate_left; (simp only [List.getElem?_toArray, List.getElem?_cons_zero, List.getElem?_cons_succ]; rfl)
      try simp only [Act.put]
      go_wp2_with fail
      have hx := rright_any p _ _ _ y111 HY112.out.2.2.2.1
      rw [HB1.out] at hx
      refine Calls.mono hx ?_
      clear hx
      rintro e' y113 ⟨rfl, hb⟩
      have HY114 := Lib.hid (show Blk y113 w.heap.size 24 (pmC p.o p.e (Value.slice ra rl rc) (Value.slice qa ql qc) (Value.slice ga gl gc)) ∧ Blk y113 a1.heap.size 24 (pmC q.o q.e (Value.slice ra2 rl2 rc2) (Value.slice qa2 ql2 qc2) (Value.slice ga2 gl2 gc2)) ∧ Blk y113 a3.heap.size 43 (askC u (.slice ma ml mc)) ∧ PmS y113 p (Value.slice ra rl rc) (Value.slice qa ql qc) (Value.slice ga gl gc) ∧ PmS y113 q (Value.slice ra2 rl2 rc2) (Value.slice qa2 ql2 qc2) (Value.slice ga2 gl2 gc2) ∧ Below w.heap.size w y113 ∧ PmS y113 p (Value.slice x83a0 x83l0 x83c0) (Value.slice x83a1 x83l1 x83c1) (Value.slice x83a2 x83l2 x83c2) from ⟨HY112.out.1.below hb HY112.out.1.lt, HY112.out.2.1.below hb HY112.out.2.1.lt, HY112.out.2.2.1.below hb HY112.out.2.2.1.lt, HY112.out.2.2.2.1.below hb, HY112.out.2.2.2.2.1.below hb, below_thn HY112.out.2.2.2.2.2.1 hb (Nat.le_refl _), HY112.out.2.2.2.2.2.2.below hb⟩)
      clear hb
      go_wp2_with fail
      refine QK.normal ⟨(rangeAt_blk HY114.out.1), ?_⟩
      refine' wpAnyH_one 10 (by kernel_rfl) ?_ ?_; rotate_left; (simp only [List.getElem?_toArray, List.getElem?_cons_zero, List.getElem?_cons_succ]; rfl)
      try simp only [Act.put]
      go_wp2_with fail
      refine QK.normal ⟨(rangeAt_blk HY114.out.1), ?_⟩
      refine' wpAnyH_one 11 (by kernel_rfl) ?_ ?_; rotate_left; (simp only [List.getElem?_toArray, List.getElem?_cons_zero, List.getElem?_cons_succ]; rfl)
      try simp only [Act.put]
      go_wp2_with fail
      refine QK.normal ⟨(rangeAt_blk HY114.out.1), ?_⟩
      refine' wpAnyH_one 12 (by kernel_rfl) ?_ ?_; rotate_left; (simp only [List.getElem?_toArray, List.getElem?_cons_zero, List.getElem?_cons_succ]; rfl)
      try simp only [Act.put]
      go_wp2_with fail
      refine QK.normal ⟨(rangeAt_blk HY114.out.1), ?_⟩
      refine' wpAnyH_one 13 (by kernel_rfl) ?_ ?_; rotate_left; (simp only [List.getElem?_toArray, List.getElem?_cons_zero, List.getElem?_cons_succ]; rfl)
      try simp only [Act.put]
      go_wp2_with fail
      refine QK.normal ⟨(rangeAt_blk HY114.out.1), ?_⟩
      refine' wpAnyH_one 14 (by kernel_rfl) ?_ ?_; rotate_left; (simp only [List.getElem?_toArray, List.getElem?_cons_zero, List.getElem?_cons_succ]; rfl)
      try simp only [Act.put]
      go_wp2_with fail
      refine QK.normal ⟨(rangeAt_blk HY114.out.1), ?_⟩
      refine' wpAnyH_one 15 (by kernel_rfl) ?_ ?_; rotate_left; (simp only [List.getElem?_toArray, List.getElem?_cons_zero, List.getElem?_cons_succ]; rfl)
      try simp only [Act.put]
      go_wp2_with fail
      refine QK.normal ⟨(rangeAt_blk HY114.out.1), ?_⟩
      refine' wpAnyH_one 16 (by kernel_rfl) ?_ ?_; rotate_left; (simp only [List.getElem?_toArray, List.getElem?_cons_zero, List.getElem?_cons_succ]; rfl)
      try simp only [Act.put]
      go_wp2_with fail
      refine QK.normal ⟨(rangeAt_blk HY114.out.1), ?_⟩
      refine wpAnyH_done (by kernel_rfl) ?_ _
      refine NoPanic.normal ?_
      go_wp2_with fail
      refine wp_region_takes (fun w' => w'.rangeAt w.heap.size 0 (pmC p.o p.e (Value.slice ra rl rc) (Value.slice qa ql qc) (Value.slice ga gl gc)) ∧ w'.rangeAt a1.heap.size 0 (pmC q.o q.e (Value.slice ra2 rl2 rc2) (Value.slice qa2 ql2 qc2) (Value.slice ga2 gl2 gc2))) [0, 1, 2, 3, 5, 6] 11 (by kernel_rfl) rfl (by kernel_rfl) (by kernel_rfl) ⟨rangeAt_blk HY114.out.1, rangeAt_blk HY114.out.2.1⟩ ?_
      iterate 6 (refine' HeldL.run ?_ ?_ ?_ ?_; rotate_left 2; (simp only [List.getElem?_toArray, List.getElem?_cons_zero, List.getElem?_cons_succ]; rfl); rfl; (rintro w' ⟨k0, k1⟩; first | (go_simp; with_reducible rfl) | exact exec_load_mid rfl rfl k0 Try.underlying24 rfl (pmC_info _ _ _ _ _) | exact exec_load_mid rfl rfl k1 Try.underlying24 rfl (pmC_info _ _ _ _ _)); simp only [Act.put, List.setIfInBounds_toArray, List.set_cons_zero, List.set_cons_succ])
      have sm := (Sm.refl y113).drew
      have HV116 := Lib.hid (show Blk y113.drew w.heap.size 24 (pmC p.o p.e (Value.slice ra rl rc) (Value.slice qa ql qc) (Value.slice ga gl gc)) ∧ Blk y113.drew a1.heap.size 24 (pmC q.o q.e (Value.slice ra2 rl2 rc2) (Value.slice qa2 ql2 qc2) (Value.slice ga2 gl2 gc2)) ∧ Blk y113.drew a3.heap.size 43 (askC u (.slice ma ml mc)) ∧ PmS y113.drew p (Value.slice ra rl rc) (Value.slice qa ql qc) (Value.slice ga gl gc) ∧ PmS y113.drew q (Value.slice ra2 rl2 rc2) (Value.slice qa2 ql2 qc2) (Value.slice ga2 gl2 gc2) ∧ Below w.heap.size w y113.drew ∧ PmS y113.drew p (Value.slice x83a0 x83l0 x83c0) (Value.slice x83a1 x83l1 x83c1) (Value.slice x83a2 x83l2 x83c2) from ⟨HY114.out.1.below (sm.below _) HY114.out.1.lt, HY114.out.2.1.below (sm.below _) HY114.out.2.1.lt, HY114.out.2.2.1.below (sm.below _) HY114.out.2.2.1.lt, HY114.out.2.2.2.1.below (sm.below _), HY114.out.2.2.2.2.1.below (sm.below _), below_thn HY114.out.2.2.2.2.2.1 (sm.below _) (Nat.le_refl _), HY114.out.2.2.2.2.2.2.below (sm.below _)⟩)
      clear sm
      generalize y113.drew = v115 at HV116 ⊢
      refine' wpAnyH_one 4 (by kernel_rfl) ?_ ?_; rotate_left; (simp only [List.getElem?_toArray, List.getElem?_cons_zero, List.getElem?_cons_succ]; rfl)
      try simp only [Act.put]
      go_wp2_with fail
      have hx := psame_any p q _ _ _ _ _ _ v115 HV116.out.2.2.2.1 HV116.out.2.2.2.2.1
      rw [HSM2.out] at hx
      refine Calls.mono hx ?_
      clear hx
      rintro e' y117 ⟨rfl, hb⟩
      have HY118 := Lib.hid (show Blk y117 w.heap.size 24 (pmC p.o p.e (Value.slice ra rl rc) (Value.slice qa ql qc) (Value.slice ga gl gc)) ∧ Blk y117 a1.heap.size 24 (pmC q.o q.e (Value.slice ra2 rl2 rc2) (Value.slice qa2 ql2 qc2) (Value.slice ga2 gl2 gc2)) ∧ Blk y117 a3.heap.size 43 (askC u (.slice ma ml mc)) ∧ PmS y117 p (Value.slice ra rl rc) (Value.slice qa ql qc) (Value.slice ga gl gc) ∧ PmS y117 q (Value.slice ra2 rl2 rc2) (Value.slice qa2 ql2 qc2) (Value.slice ga2 gl2 gc2) ∧ Below w.heap.size w y117 ∧ PmS y117 p (Value.slice x83a0 x83l0 x83c0) (Value.slice x83a1 x83l1 x83c1) (Value.slice x83a2 x83l2 x83c2) from ⟨HV116.out.1.below hb HV116.out.1.lt, HV116.out.2.1.below hb HV116.out.2.1.lt, HV116.out.2.2.1.below hb HV116.out.2.2.1.lt, HV116.out.2.2.2.1.below hb, HV116.out.2.2.2.2.1.below hb, below_thn HV116.out.2.2.2.2.2.1 hb (Nat.le_refl _), HV116.out.2.2.2.2.2.2.below hb⟩)
      clear hb
      go_wp2_with fail
      refine QK.normal ⟨⟨rangeAt_blk HY118.out.1, rangeAt_blk HY118.out.2.1⟩, ?_⟩
      refine' wpAnyH_one 7 (by kernel_rfl) ?_ ?_; rotate_left; (simp only [List.getElem?_toArray, List.getElem?_cons_zero, List.getElem?_cons_succ]; rfl)
      try simp only [Act.put]
      go_wp2_with fail
      have hx := rsame_any p q _ _ _ _ _ _ y117 HY118.out.2.2.2.1 HY118.out.2.2.2.2.1
      rw [HSM2.out] at hx
      refine Calls.mono hx ?_
      clear hx
      rintro e' y119 ⟨rfl, hb⟩
      have HY120 := Lib.hid (show Blk y119 w.heap.size 24 (pmC p.o p.e (Value.slice ra rl rc) (Value.slice qa ql qc) (Value.slice ga gl gc)) ∧ Blk y119 a1.heap.size 24 (pmC q.o q.e (Value.slice ra2 rl2 rc2) (Value.slice qa2 ql2 qc2) (Value.slice ga2 gl2 gc2)) ∧ Blk y119 a3.heap.size 43 (askC u (.slice ma ml mc)) ∧ PmS y119 p (Value.slice ra rl rc) (Value.slice qa ql qc) (Value.slice ga gl gc) ∧ PmS y119 q (Value.slice ra2 rl2 rc2) (Value.slice qa2 ql2 qc2) (Value.slice ga2 gl2 gc2) ∧ Below w.heap.size w y119 ∧ PmS y119 p (Value.slice x83a0 x83l0 x83c0) (Value.slice x83a1 x83l1 x83c1) (Value.slice x83a2 x83l2 x83c2) from ⟨HY118.out.1.below hb HY118.out.1.lt, HY118.out.2.1.below hb HY118.out.2.1.lt, HY118.out.2.2.1.below hb HY118.out.2.2.1.lt, HY118.out.2.2.2.1.below hb, HY118.out.2.2.2.2.1.below hb, below_thn HY118.out.2.2.2.2.2.1 hb (Nat.le_refl _), HY118.out.2.2.2.2.2.2.below hb⟩)
      clear hb
      go_wp2_with fail
      refine QK.normal ⟨⟨rangeAt_blk HY120.out.1, rangeAt_blk HY120.out.2.1⟩, ?_⟩
      refine' wpAnyH_one 8 (by kernel_rfl) ?_ ?_; rotate_left; (simp only [List.getElem?_toArray, List.getElem?_cons_zero, List.getElem?_cons_succ]; rfl)
      try simp only [Act.put]
      go_wp2_with fail
      refine QK.normal ⟨⟨rangeAt_blk HY120.out.1, rangeAt_blk HY120.out.2.1⟩, ?_⟩
      refine' wpAnyH_one 9 (by kernel_rfl) ?_ ?_; rotate_left; (simp only [List.getElem?_toArray, List.getElem?_cons_zero, List.getElem?_cons_succ]; rfl)
      try simp only [Act.put]
      go_wp2_with fail
      refine QK.normal ⟨⟨rangeAt_blk HY120.out.1, rangeAt_blk HY120.out.2.1⟩, ?_⟩
      refine' wpAnyH_one 10 (by kernel_rfl) ?_ ?_; rotate_left; (simp only [List.getElem?_toArray, List.getElem?_cons_zero, List.getElem?_cons_succ]; rfl)
      try simp only [Act.put]
      go_wp2_with fail
      refine QK.normal ⟨⟨rangeAt_blk HY120.out.1, rangeAt_blk HY120.out.2.1⟩, ?_⟩
      refine' wpAnyH_two 11 12 (by kernel_rfl) ?_ ?_ ?_ ?_; rotate_left 2; (simp only [List.getElem?_toArray, List.getElem?_cons_zero, List.getElem?_cons_succ]; rfl); (simp only [List.getElem?_toArray, List.getElem?_cons_zero, List.getElem?_cons_succ]; rfl)
      · skip
        try simp only [Act.put]
        go_wp2_with (first
    | (with_reducible refine wpList_load_any rfl 24 (.tmp 3) rfl w.heap.size 0 rfl (pmC p.o p.e (Value.slice ra rl rc) (Value.slice qa ql qc) (Value.slice ga gl gc)) _ (rangeW_blk HY120.out.1) Try.underlying24 rfl (pmC_info _ _ _ _ _) ?_)
    | ((with_reducible refine wpList_load_want ?_ 24 (.tmp 3) rfl w.heap.size 0 rfl (pmC p.o p.e (Value.slice ra rl rc) (Value.slice qa ql qc) (Value.slice ga gl gc)) _ (rangeW_blk HY120.out.1) Try.underlying24 rfl (pmC_info _ _ _ _ _) ?_); focus rfl))
        refine QK.normal ⟨⟨rangeAt_blk HY120.out.1, rangeAt_blk HY120.out.2.1⟩, ?_⟩
        refine' wpAnyH_one 12 (by kernel_rfl) ?_ ?_; rotate_left; (simp only [List.getElem?_toArray, List.getElem?_cons_zero, List.getElem?_cons_succ]; rfl)
        try simp only [Act.put]
        go_wp2_with (first
    | (with_reducible refine wpList_load_any rfl 24 (.tmp 3) rfl w.heap.size 0 rfl (pmC p.o p.e (Value.slice ra rl rc) (Value.slice qa ql qc) (Value.slice ga gl gc)) _ (rangeW_blk HY120.out.1) Try.underlying24 rfl (pmC_info _ _ _ _ _) ?_)
    | ((with_reducible refine wpList_load_want ?_ 24 (.tmp 3) rfl w.heap.size 0 rfl (pmC p.o p.e (Value.slice ra rl rc) (Value.slice qa ql qc) (Value.slice ga gl gc)) _ (rangeW_blk HY120.out.1) Try.underlying24 rfl (pmC_info _ _ _ _ _) ?_); focus rfl))
        refine QK.normal ⟨⟨rangeAt_blk HY120.out.1, rangeAt_blk HY120.out.2.1⟩, ?_⟩
        refine' wpAnyH_one 13 (by kernel_rfl) ?_ ?_; rotate_left; (simp only [List.getElem?_toArray, List.getElem?_cons_zero, List.getElem?_cons_succ]; rfl)
        try simp only [Act.put]
        go_wp2_with fail
        refine (copied_any p _ _ _ y119 HY120.out.2.2.2.1 HLEN.out).mono ?_
        rintro e' y121 ⟨x123r, x123q, x123g, rfl, hs, hb, -⟩
        obtain ⟨x123a0, x123c0, rfl, -⟩ := hs.1.shape
        obtain ⟨x123a1, x123c1, rfl, -⟩ := hs.2.1.shape
        obtain ⟨x123a2, x123c2, rfl, -⟩ := hs.2.2.shape
        generalize (ofK .i64 p.r).length = x123l0 at hs ⊢
        generalize (ofK .i64 p.q).length = x123l1 at hs ⊢
        generalize (ofK .i64 p.g).length = x123l2 at hs ⊢
        have HY122 := Lib.hid (show Blk y121 w.heap.size 24 (pmC p.o p.e (Value.slice ra rl rc) (Value.slice qa ql qc) (Value.slice ga gl gc)) ∧ Blk y121 a1.heap.size 24 (pmC q.o q.e (Value.slice ra2 rl2 rc2) (Value.slice qa2 ql2 qc2) (Value.slice ga2 gl2 gc2)) ∧ Blk y121 a3.heap.size 43 (askC u (.slice ma ml mc)) ∧ PmS y121 p (Value.slice ra rl rc) (Value.slice qa ql qc) (Value.slice ga gl gc) ∧ PmS y121 q (Value.slice ra2 rl2 rc2) (Value.slice qa2 ql2 qc2) (Value.slice ga2 gl2 gc2) ∧ Below w.heap.size w y121 ∧ PmS y121 p (Value.slice x83a0 x83l0 x83c0) (Value.slice x83a1 x83l1 x83c1) (Value.slice x83a2 x83l2 x83c2) ∧ PmS y121 p (Value.slice x123a0 x123l0 x123c0) (Value.slice x123a1 x123l1 x123c1) (Value.slice x123a2 x123l2 x123c2) from ⟨HY120.out.1.below hb HY120.out.1.lt, HY120.out.2.1.below hb HY120.out.2.1.lt, HY120.out.2.2.1.below hb HY120.out.2.2.1.lt, HY120.out.2.2.2.1.below hb, HY120.out.2.2.2.2.1.below hb, below_thn HY120.out.2.2.2.2.2.1 hb (Nat.le_refl _), HY120.out.2.2.2.2.2.2.below hb, hs⟩)
        clear hs hb
        go_wp2_with fail
        refine QK.normal ⟨⟨rangeAt_blk HY122.out.1, rangeAt_blk HY122.out.2.1⟩, ?_⟩
        refine' wpAnyH_one 14 (by kernel_rfl) ?_ ?_; rotate_left; (simp only [List.getElem?_toArray, List.getElem?_cons_zero, List.getElem?_cons_succ]; rfl)
        try simp only [Act.put]
        go_wp2_with fail
        have hx := psame_any p p _ _ _ _ _ _ y121 HY122.out.2.2.2.1 HY122.out.2.2.2.2.2.2.2
        rw [same_self p] at hx
        refine Calls.mono hx ?_
        clear hx
        rintro e' y124 ⟨rfl, hb⟩
        have HY125 := Lib.hid (show Blk y124 w.heap.size 24 (pmC p.o p.e (Value.slice ra rl rc) (Value.slice qa ql qc) (Value.slice ga gl gc)) ∧ Blk y124 a1.heap.size 24 (pmC q.o q.e (Value.slice ra2 rl2 rc2) (Value.slice qa2 ql2 qc2) (Value.slice ga2 gl2 gc2)) ∧ Blk y124 a3.heap.size 43 (askC u (.slice ma ml mc)) ∧ PmS y124 p (Value.slice ra rl rc) (Value.slice qa ql qc) (Value.slice ga gl gc) ∧ PmS y124 q (Value.slice ra2 rl2 rc2) (Value.slice qa2 ql2 qc2) (Value.slice ga2 gl2 gc2) ∧ Below w.heap.size w y124 ∧ PmS y124 p (Value.slice x83a0 x83l0 x83c0) (Value.slice x83a1 x83l1 x83c1) (Value.slice x83a2 x83l2 x83c2) ∧ PmS y124 p (Value.slice x123a0 x123l0 x123c0) (Value.slice x123a1 x123l1 x123c1) (Value.slice x123a2 x123l2 x123c2) from ⟨HY122.out.1.below hb HY122.out.1.lt, HY122.out.2.1.below hb HY122.out.2.1.lt, HY122.out.2.2.1.below hb HY122.out.2.2.1.lt, HY122.out.2.2.2.1.below hb, HY122.out.2.2.2.2.1.below hb, below_thn HY122.out.2.2.2.2.2.1 hb (Nat.le_refl _), HY122.out.2.2.2.2.2.2.1.below hb, HY122.out.2.2.2.2.2.2.2.below hb⟩)
        clear hb
        go_wp2_with fail
        refine QK.normal ⟨⟨rangeAt_blk HY125.out.1, rangeAt_blk HY125.out.2.1⟩, ?_⟩
        refine' wpAnyH_one 15 (by kernel_rfl) ?_ ?_; rotate_left; (simp only [List.getElem?_toArray, List.getElem?_cons_zero, List.getElem?_cons_succ]; rfl)
        try simp only [Act.put]
        go_wp2_with fail
        refine QK.normal ⟨⟨rangeAt_blk HY125.out.1, rangeAt_blk HY125.out.2.1⟩, ?_⟩
        refine' wpAnyH_one 16 (by kernel_rfl) ?_ ?_; rotate_left; (simp only [List.getElem?_toArray, List.getElem?_cons_zero, List.getElem?_cons_succ]; rfl)
        try simp only [Act.put]
        go_wp2_with fail
        refine QK.normal ⟨⟨rangeAt_blk HY125.out.1, rangeAt_blk HY125.out.2.1⟩, ?_⟩
        refine wpAnyH_done (by kernel_rfl) ?_ _
        refine NoPanic.normal ?_
        go_wp2_with fail
        have C1 := Lib.hid (fun x => show Calls Try.prog 20 #[.agg (pmC p.o p.e (Value.slice ra rl rc) (Value.slice qa ql qc) (Value.slice ga gl gc)).toArray, .int .i64 u] (grew y124 x) (fun e w' => e = .returned (.bool (mayWB p u)) ∧ Below (grew y124 x).heap.size (grew y124 x) w') from mayWrite_any p u _ _ _ (grew y124 x) (HY125.out.2.2.2.1.below (below_grew y124 x)))
        have C2 := Lib.hid (fun x => show Calls Try.prog 21 #[.agg (pmC p.o p.e (Value.slice ra rl rc) (Value.slice qa ql qc) (Value.slice ga gl gc)).toArray, .int .i64 u] (grew y124 x) (fun e w' => e = .returned (.bool (mayWB p u)) ∧ Below (grew y124 x).heap.size (grew y124 x) w') from rmayWrite_any p u _ _ _ (grew y124 x) (HY125.out.2.2.2.1.below (below_grew y124 x)))
        have C3 := Lib.hid (fun x => show Calls Try.prog 22 #[.agg (pmC p.o p.e (Value.slice ra rl rc) (Value.slice qa ql qc) (Value.slice ga gl gc)).toArray, .int .i64 u, .slice ma ml mc] (grew y124 x) (fun e w' => e = .returned (.bool (mayRB p u m)) ∧ Below (grew y124 x).heap.size (grew y124 x) w') from mayRead_any p u m _ _ _ _ (grew y124 x) (HY125.out.2.2.2.1.below (below_grew y124 x)) ((HSM.out.below HY125.out.2.2.2.2.2.1).below (below_grew y124 x)))
        have C4 := Lib.hid (fun x => show Calls Try.prog 23 #[.agg (pmC p.o p.e (Value.slice ra rl rc) (Value.slice qa ql qc) (Value.slice ga gl gc)).toArray, .int .i64 u, .slice ma ml mc] (grew y124 x) (fun e w' => e = .returned (.bool (mayRB p u m)) ∧ Below (grew y124 x).heap.size (grew y124 x) w') from rmayRead_any p u m _ _ _ _ (grew y124 x) (HY125.out.2.2.2.1.below (below_grew y124 x)) ((HSM.out.below HY125.out.2.2.2.2.2.1).below (below_grew y124 x)))
        obtain ⟨r1, hr1⟩ : ∃ b, mayWB p u = b := ⟨_, rfl⟩
        obtain ⟨r2, hr2⟩ : ∃ b, mayRB p u m = b := ⟨_, rfl⟩
        rw [hr1] at C1 C2
        rw [hr2] at C3 C4
        clear hr1 hr2
        have x0 := HY125.out.2.2.1.cell 0
        have x1 := HY125.out.2.2.1.cell 1
        simp only [askC, List.getElem?_cons_zero, List.getElem?_cons_succ] at x0 x1
        replace x0 := fun q => cell_grew x0 q
        replace x1 := fun q => cell_grew x1 q
        refine wp_region_grew (by kernel_rfl) (by kernel_rfl) ?_
        repeat (first | go_big_quiet_skip | (go_big_quiet_want; (first | (refine quiet_load_mid 24 (.tmp 3) rfl w.heap.size 0 rfl (pmC p.o p.e (Value.slice ra rl rc) (Value.slice qa ql qc) (Value.slice ga gl gc)) _ (fun w' hw' => rangeAt_grew (rangeAt_blk HY125.out.1) w' hw') Try.underlying24 rfl (pmC_info _ _ _ _ _) ?_; go_simp; go_big_quiet_on) | (go_big_quiet_op; (first | go_big_quiet_on | (apply Exists.intro; refine ⟨fun _ => ?_, ?_⟩; (focus (first | (go_at_call 20; with_reducible exact calls_grew (C1.out _)) | (go_at_call 21; with_reducible exact calls_grew (C2.out _)) | (go_at_call 22; with_reducible exact calls_grew (C3.out _)) | (go_at_call 23; with_reducible exact calls_grew (C4.out _)))); go_big_quiet_on))))))
        refine wpQuiet_nil ?_
        intro w9 hw9
        obtain ⟨x9, rfl⟩ := hw9
        clear x0 x1 C1 C2 C3 C4
        go_wp2_with fail
        go_ret
        exact ⟨by simp, below_thn HY125.out.2.2.2.2.2.1 (below_grew y124 x9) (Nat.le_refl _)⟩
      · skip
        try simp only [Act.put]
        go_wp2_with (first
    | (with_reducible refine wpList_load_any rfl 24 (.tmp 3) rfl w.heap.size 0 rfl (pmC p.o p.e (Value.slice ra rl rc) (Value.slice qa ql qc) (Value.slice ga gl gc)) _ (rangeW_blk HY120.out.1) Try.underlying24 rfl (pmC_info _ _ _ _ _) ?_)
    | ((with_reducible refine wpList_load_want ?_ 24 (.tmp 3) rfl w.heap.size 0 rfl (pmC p.o p.e (Value.slice ra rl rc) (Value.slice qa ql qc) (Value.slice ga gl gc)) _ (rangeW_blk HY120.out.1) Try.underlying24 rfl (pmC_info _ _ _ _ _) ?_); focus rfl))
        refine QK.normal ⟨⟨rangeAt_blk HY120.out.1, rangeAt_blk HY120.out.2.1⟩, ?_⟩
        refine' wpAnyH_two 11 13 (by kernel_rfl) ?_ ?_ ?_ ?_; rotate_left 2; (simp only [List.getElem?_toArray, List.getElem?_cons_zero, List.getElem?_cons_succ]; rfl); (simp only [List.getElem?_toArray, List.getElem?_cons_zero, List.getElem?_cons_succ]; rfl)
        · skip
          try simp only [Act.put]
          go_wp2_with (first
    | (with_reducible refine wpList_load_any rfl 24 (.tmp 3) rfl w.heap.size 0 rfl (pmC p.o p.e (Value.slice ra rl rc) (Value.slice qa ql qc) (Value.slice ga gl gc)) _ (rangeW_blk HY120.out.1) Try.underlying24 rfl (pmC_info _ _ _ _ _) ?_)
    | ((with_reducible refine wpList_load_want ?_ 24 (.tmp 3) rfl w.heap.size 0 rfl (pmC p.o p.e (Value.slice ra rl rc) (Value.slice qa ql qc) (Value.slice ga gl gc)) _ (rangeW_blk HY120.out.1) Try.underlying24 rfl (pmC_info _ _ _ _ _) ?_); focus rfl))
          refine QK.normal ⟨⟨rangeAt_blk HY120.out.1, rangeAt_blk HY120.out.2.1⟩, ?_⟩
          refine' wpAnyH_one 13 (by kernel_rfl) ?_ ?_; rotate_left; (simp only [List.getElem?_toArray, List.getElem?_cons_zero, List.getElem?_cons_succ]; rfl)
          try simp only [Act.put]
          go_wp2_with fail
          refine (copied_any p _ _ _ y119 HY120.out.2.2.2.1 HLEN.out).mono ?_
          rintro e' y126 ⟨x128r, x128q, x128g, rfl, hs, hb, -⟩
          obtain ⟨x128a0, x128c0, rfl, -⟩ := hs.1.shape
          obtain ⟨x128a1, x128c1, rfl, -⟩ := hs.2.1.shape
          obtain ⟨x128a2, x128c2, rfl, -⟩ := hs.2.2.shape
          generalize (ofK .i64 p.r).length = x128l0 at hs ⊢
          generalize (ofK .i64 p.q).length = x128l1 at hs ⊢
          generalize (ofK .i64 p.g).length = x128l2 at hs ⊢
          have HY127 := Lib.hid (show Blk y126 w.heap.size 24 (pmC p.o p.e (Value.slice ra rl rc) (Value.slice qa ql qc) (Value.slice ga gl gc)) ∧ Blk y126 a1.heap.size 24 (pmC q.o q.e (Value.slice ra2 rl2 rc2) (Value.slice qa2 ql2 qc2) (Value.slice ga2 gl2 gc2)) ∧ Blk y126 a3.heap.size 43 (askC u (.slice ma ml mc)) ∧ PmS y126 p (Value.slice ra rl rc) (Value.slice qa ql qc) (Value.slice ga gl gc) ∧ PmS y126 q (Value.slice ra2 rl2 rc2) (Value.slice qa2 ql2 qc2) (Value.slice ga2 gl2 gc2) ∧ Below w.heap.size w y126 ∧ PmS y126 p (Value.slice x83a0 x83l0 x83c0) (Value.slice x83a1 x83l1 x83c1) (Value.slice x83a2 x83l2 x83c2) ∧ PmS y126 p (Value.slice x128a0 x128l0 x128c0) (Value.slice x128a1 x128l1 x128c1) (Value.slice x128a2 x128l2 x128c2) from ⟨HY120.out.1.below hb HY120.out.1.lt, HY120.out.2.1.below hb HY120.out.2.1.lt, HY120.out.2.2.1.below hb HY120.out.2.2.1.lt, HY120.out.2.2.2.1.below hb, HY120.out.2.2.2.2.1.below hb, below_thn HY120.out.2.2.2.2.2.1 hb (Nat.le_refl _), HY120.out.2.2.2.2.2.2.below hb, hs⟩)
          clear hs hb
          go_wp2_with fail
          refine QK.normal ⟨⟨rangeAt_blk HY127.out.1, rangeAt_blk HY127.out.2.1⟩, ?_⟩
          refine' wpAnyH_one 14 (by kernel_rfl) ?_ ?_; rotate_left; (simp only [List.getElem?_toArray, List.getElem?_cons_zero, List.getElem?_cons_succ]; rfl)
          try simp only [Act.put]
          go_wp2_with fail
          have hx := psame_any p p _ _ _ _ _ _ y126 HY127.out.2.2.2.1 HY127.out.2.2.2.2.2.2.2
          rw [same_self p] at hx
          refine Calls.mono hx ?_
          clear hx
          rintro e' y129 ⟨rfl, hb⟩
          have HY130 := Lib.hid (show Blk y129 w.heap.size 24 (pmC p.o p.e (Value.slice ra rl rc) (Value.slice qa ql qc) (Value.slice ga gl gc)) ∧ Blk y129 a1.heap.size 24 (pmC q.o q.e (Value.slice ra2 rl2 rc2) (Value.slice qa2 ql2 qc2) (Value.slice ga2 gl2 gc2)) ∧ Blk y129 a3.heap.size 43 (askC u (.slice ma ml mc)) ∧ PmS y129 p (Value.slice ra rl rc) (Value.slice qa ql qc) (Value.slice ga gl gc) ∧ PmS y129 q (Value.slice ra2 rl2 rc2) (Value.slice qa2 ql2 qc2) (Value.slice ga2 gl2 gc2) ∧ Below w.heap.size w y129 ∧ PmS y129 p (Value.slice x83a0 x83l0 x83c0) (Value.slice x83a1 x83l1 x83c1) (Value.slice x83a2 x83l2 x83c2) ∧ PmS y129 p (Value.slice x128a0 x128l0 x128c0) (Value.slice x128a1 x128l1 x128c1) (Value.slice x128a2 x128l2 x128c2) from ⟨HY127.out.1.below hb HY127.out.1.lt, HY127.out.2.1.below hb HY127.out.2.1.lt, HY127.out.2.2.1.below hb HY127.out.2.2.1.lt, HY127.out.2.2.2.1.below hb, HY127.out.2.2.2.2.1.below hb, below_thn HY127.out.2.2.2.2.2.1 hb (Nat.le_refl _), HY127.out.2.2.2.2.2.2.1.below hb, HY127.out.2.2.2.2.2.2.2.below hb⟩)
          clear hb
          go_wp2_with fail
          refine QK.normal ⟨⟨rangeAt_blk HY130.out.1, rangeAt_blk HY130.out.2.1⟩, ?_⟩
          refine' wpAnyH_one 15 (by kernel_rfl) ?_ ?_; rotate_left; (simp only [List.getElem?_toArray, List.getElem?_cons_zero, List.getElem?_cons_succ]; rfl)
          try simp only [Act.put]
          go_wp2_with fail
          refine QK.normal ⟨⟨rangeAt_blk HY130.out.1, rangeAt_blk HY130.out.2.1⟩, ?_⟩
          refine' wpAnyH_one 16 (by kernel_rfl) ?_ ?_; rotate_left; (simp only [List.getElem?_toArray, List.getElem?_cons_zero, List.getElem?_cons_succ]; rfl)
          try simp only [Act.put]
          go_wp2_with fail
          refine QK.normal ⟨⟨rangeAt_blk HY130.out.1, rangeAt_blk HY130.out.2.1⟩, ?_⟩
          refine wpAnyH_done (by kernel_rfl) ?_ _
          refine NoPanic.normal ?_
          go_wp2_with fail
          have C1 := Lib.hid (fun x => show Calls Try.prog 20 #[.agg (pmC p.o p.e (Value.slice ra rl rc) (Value.slice qa ql qc) (Value.slice ga gl gc)).toArray, .int .i64 u] (grew y129 x) (fun e w' => e = .returned (.bool (mayWB p u)) ∧ Below (grew y129 x).heap.size (grew y129 x) w') from mayWrite_any p u _ _ _ (grew y129 x) (HY130.out.2.2.2.1.below (below_grew y129 x)))
          have C2 := Lib.hid (fun x => show Calls Try.prog 21 #[.agg (pmC p.o p.e (Value.slice ra rl rc) (Value.slice qa ql qc) (Value.slice ga gl gc)).toArray, .int .i64 u] (grew y129 x) (fun e w' => e = .returned (.bool (mayWB p u)) ∧ Below (grew y129 x).heap.size (grew y129 x) w') from rmayWrite_any p u _ _ _ (grew y129 x) (HY130.out.2.2.2.1.below (below_grew y129 x)))
          have C3 := Lib.hid (fun x => show Calls Try.prog 22 #[.agg (pmC p.o p.e (Value.slice ra rl rc) (Value.slice qa ql qc) (Value.slice ga gl gc)).toArray, .int .i64 u, .slice ma ml mc] (grew y129 x) (fun e w' => e = .returned (.bool (mayRB p u m)) ∧ Below (grew y129 x).heap.size (grew y129 x) w') from mayRead_any p u m _ _ _ _ (grew y129 x) (HY130.out.2.2.2.1.below (below_grew y129 x)) ((HSM.out.below HY130.out.2.2.2.2.2.1).below (below_grew y129 x)))
          have C4 := Lib.hid (fun x => show Calls Try.prog 23 #[.agg (pmC p.o p.e (Value.slice ra rl rc) (Value.slice qa ql qc) (Value.slice ga gl gc)).toArray, .int .i64 u, .slice ma ml mc] (grew y129 x) (fun e w' => e = .returned (.bool (mayRB p u m)) ∧ Below (grew y129 x).heap.size (grew y129 x) w') from rmayRead_any p u m _ _ _ _ (grew y129 x) (HY130.out.2.2.2.1.below (below_grew y129 x)) ((HSM.out.below HY130.out.2.2.2.2.2.1).below (below_grew y129 x)))
          obtain ⟨r1, hr1⟩ : ∃ b, mayWB p u = b := ⟨_, rfl⟩
          obtain ⟨r2, hr2⟩ : ∃ b, mayRB p u m = b := ⟨_, rfl⟩
          rw [hr1] at C1 C2
          rw [hr2] at C3 C4
          clear hr1 hr2
          have x0 := HY130.out.2.2.1.cell 0
          have x1 := HY130.out.2.2.1.cell 1
          simp only [askC, List.getElem?_cons_zero, List.getElem?_cons_succ] at x0 x1
          replace x0 := fun q => cell_grew x0 q
          replace x1 := fun q => cell_grew x1 q
          refine wp_region_grew (by kernel_rfl) (by kernel_rfl) ?_
          repeat (first | go_big_quiet_skip | (go_big_quiet_want; (first | (refine quiet_load_mid 24 (.tmp 3) rfl w.heap.size 0 rfl (pmC p.o p.e (Value.slice ra rl rc) (Value.slice qa ql qc) (Value.slice ga gl gc)) _ (fun w' hw' => rangeAt_grew (rangeAt_blk HY130.out.1) w' hw') Try.underlying24 rfl (pmC_info _ _ _ _ _) ?_; go_simp; go_big_quiet_on) | (go_big_quiet_op; (first | go_big_quiet_on | (apply Exists.intro; refine ⟨fun _ => ?_, ?_⟩; (focus (first | (go_at_call 20; with_reducible exact calls_grew (C1.out _)) | (go_at_call 21; with_reducible exact calls_grew (C2.out _)) | (go_at_call 22; with_reducible exact calls_grew (C3.out _)) | (go_at_call 23; with_reducible exact calls_grew (C4.out _)))); go_big_quiet_on))))))
          refine wpQuiet_nil ?_
          intro w9 hw9
          obtain ⟨x9, rfl⟩ := hw9
          clear x0 x1 C1 C2 C3 C4
          go_wp2_with fail
          go_ret
          exact ⟨by simp, below_thn HY130.out.2.2.2.2.2.1 (below_grew y129 x9) (Nat.le_refl _)⟩
        · skip
          try simp only [Act.put]
          go_wp2_with fail
          refine (copied_any p _ _ _ y119 HY120.out.2.2.2.1 HLEN.out).mono ?_
          rintro e' y131 ⟨x133r, x133q, x133g, rfl, hs, hb, -⟩
          obtain ⟨x133a0, x133c0, rfl, -⟩ := hs.1.shape
          obtain ⟨x133a1, x133c1, rfl, -⟩ := hs.2.1.shape
          obtain ⟨x133a2, x133c2, rfl, -⟩ := hs.2.2.shape
          generalize (ofK .i64 p.r).length = x133l0 at hs ⊢
          generalize (ofK .i64 p.q).length = x133l1 at hs ⊢
          generalize (ofK .i64 p.g).length = x133l2 at hs ⊢
          have HY132 := Lib.hid (show Blk y131 w.heap.size 24 (pmC p.o p.e (Value.slice ra rl rc) (Value.slice qa ql qc) (Value.slice ga gl gc)) ∧ Blk y131 a1.heap.size 24 (pmC q.o q.e (Value.slice ra2 rl2 rc2) (Value.slice qa2 ql2 qc2) (Value.slice ga2 gl2 gc2)) ∧ Blk y131 a3.heap.size 43 (askC u (.slice ma ml mc)) ∧ PmS y131 p (Value.slice ra rl rc) (Value.slice qa ql qc) (Value.slice ga gl gc) ∧ PmS y131 q (Value.slice ra2 rl2 rc2) (Value.slice qa2 ql2 qc2) (Value.slice ga2 gl2 gc2) ∧ Below w.heap.size w y131 ∧ PmS y131 p (Value.slice x83a0 x83l0 x83c0) (Value.slice x83a1 x83l1 x83c1) (Value.slice x83a2 x83l2 x83c2) ∧ PmS y131 p (Value.slice x133a0 x133l0 x133c0) (Value.slice x133a1 x133l1 x133c1) (Value.slice x133a2 x133l2 x133c2) from ⟨HY120.out.1.below hb HY120.out.1.lt, HY120.out.2.1.below hb HY120.out.2.1.lt, HY120.out.2.2.1.below hb HY120.out.2.2.1.lt, HY120.out.2.2.2.1.below hb, HY120.out.2.2.2.2.1.below hb, below_thn HY120.out.2.2.2.2.2.1 hb (Nat.le_refl _), HY120.out.2.2.2.2.2.2.below hb, hs⟩)
          clear hs hb
          go_wp2_with fail
          refine QK.normal ⟨⟨rangeAt_blk HY132.out.1, rangeAt_blk HY132.out.2.1⟩, ?_⟩
          refine' wpAnyH_one 11 (by kernel_rfl) ?_ ?_; rotate_left; (simp only [List.getElem?_toArray, List.getElem?_cons_zero, List.getElem?_cons_succ]; rfl)
          try simp only [Act.put]
          go_wp2_with (first
    | (with_reducible refine wpList_load_any rfl 24 (.tmp 3) rfl w.heap.size 0 rfl (pmC p.o p.e (Value.slice ra rl rc) (Value.slice qa ql qc) (Value.slice ga gl gc)) _ (rangeW_blk HY132.out.1) Try.underlying24 rfl (pmC_info _ _ _ _ _) ?_)
    | ((with_reducible refine wpList_load_want ?_ 24 (.tmp 3) rfl w.heap.size 0 rfl (pmC p.o p.e (Value.slice ra rl rc) (Value.slice qa ql qc) (Value.slice ga gl gc)) _ (rangeW_blk HY132.out.1) Try.underlying24 rfl (pmC_info _ _ _ _ _) ?_); focus rfl))
          refine QK.normal ⟨⟨rangeAt_blk HY132.out.1, rangeAt_blk HY132.out.2.1⟩, ?_⟩
          refine' wpAnyH_one 14 (by kernel_rfl) ?_ ?_; rotate_left; (simp only [List.getElem?_toArray, List.getElem?_cons_zero, List.getElem?_cons_succ]; rfl)
          try simp only [Act.put]
          go_wp2_with fail
          have hx := psame_any p p _ _ _ _ _ _ y131 HY132.out.2.2.2.1 HY132.out.2.2.2.2.2.2.2
          rw [same_self p] at hx
          refine Calls.mono hx ?_
          clear hx
          rintro e' y134 ⟨rfl, hb⟩
          have HY135 := Lib.hid (show Blk y134 w.heap.size 24 (pmC p.o p.e (Value.slice ra rl rc) (Value.slice qa ql qc) (Value.slice ga gl gc)) ∧ Blk y134 a1.heap.size 24 (pmC q.o q.e (Value.slice ra2 rl2 rc2) (Value.slice qa2 ql2 qc2) (Value.slice ga2 gl2 gc2)) ∧ Blk y134 a3.heap.size 43 (askC u (.slice ma ml mc)) ∧ PmS y134 p (Value.slice ra rl rc) (Value.slice qa ql qc) (Value.slice ga gl gc) ∧ PmS y134 q (Value.slice ra2 rl2 rc2) (Value.slice qa2 ql2 qc2) (Value.slice ga2 gl2 gc2) ∧ Below w.heap.size w y134 ∧ PmS y134 p (Value.slice x83a0 x83l0 x83c0) (Value.slice x83a1 x83l1 x83c1) (Value.slice x83a2 x83l2 x83c2) ∧ PmS y134 p (Value.slice x133a0 x133l0 x133c0) (Value.slice x133a1 x133l1 x133c1) (Value.slice x133a2 x133l2 x133c2) from ⟨HY132.out.1.below hb HY132.out.1.lt, HY132.out.2.1.below hb HY132.out.2.1.lt, HY132.out.2.2.1.below hb HY132.out.2.2.1.lt, HY132.out.2.2.2.1.below hb, HY132.out.2.2.2.2.1.below hb, below_thn HY132.out.2.2.2.2.2.1 hb (Nat.le_refl _), HY132.out.2.2.2.2.2.2.1.below hb, HY132.out.2.2.2.2.2.2.2.below hb⟩)
          clear hb
          go_wp2_with fail
          refine QK.normal ⟨⟨rangeAt_blk HY135.out.1, rangeAt_blk HY135.out.2.1⟩, ?_⟩
          refine' wpAnyH_one 15 (by kernel_rfl) ?_ ?_; rotate_left; (simp only [List.getElem?_toArray, List.getElem?_cons_zero, List.getElem?_cons_succ]; rfl)
          try simp only [Act.put]
          go_wp2_with fail
          refine QK.normal ⟨⟨rangeAt_blk HY135.out.1, rangeAt_blk HY135.out.2.1⟩, ?_⟩
          refine' wpAnyH_one 16 (by kernel_rfl) ?_ ?_; rotate_left; (simp only [List.getElem?_toArray, List.getElem?_cons_zero, List.getElem?_cons_succ]; rfl)
          try simp only [Act.put]
          go_wp2_with fail
          refine QK.normal ⟨⟨rangeAt_blk HY135.out.1, rangeAt_blk HY135.out.2.1⟩, ?_⟩
          refine wpAnyH_done (by kernel_rfl) ?_ _
          refine NoPanic.normal ?_
          go_wp2_with fail
          have C1 := Lib.hid (fun x => show Calls Try.prog 20 #[.agg (pmC p.o p.e (Value.slice ra rl rc) (Value.slice qa ql qc) (Value.slice ga gl gc)).toArray, .int .i64 u] (grew y134 x) (fun e w' => e = .returned (.bool (mayWB p u)) ∧ Below (grew y134 x).heap.size (grew y134 x) w') from mayWrite_any p u _ _ _ (grew y134 x) (HY135.out.2.2.2.1.below (below_grew y134 x)))
          have C2 := Lib.hid (fun x => show Calls Try.prog 21 #[.agg (pmC p.o p.e (Value.slice ra rl rc) (Value.slice qa ql qc) (Value.slice ga gl gc)).toArray, .int .i64 u] (grew y134 x) (fun e w' => e = .returned (.bool (mayWB p u)) ∧ Below (grew y134 x).heap.size (grew y134 x) w') from rmayWrite_any p u _ _ _ (grew y134 x) (HY135.out.2.2.2.1.below (below_grew y134 x)))
          have C3 := Lib.hid (fun x => show Calls Try.prog 22 #[.agg (pmC p.o p.e (Value.slice ra rl rc) (Value.slice qa ql qc) (Value.slice ga gl gc)).toArray, .int .i64 u, .slice ma ml mc] (grew y134 x) (fun e w' => e = .returned (.bool (mayRB p u m)) ∧ Below (grew y134 x).heap.size (grew y134 x) w') from mayRead_any p u m _ _ _ _ (grew y134 x) (HY135.out.2.2.2.1.below (below_grew y134 x)) ((HSM.out.below HY135.out.2.2.2.2.2.1).below (below_grew y134 x)))
          have C4 := Lib.hid (fun x => show Calls Try.prog 23 #[.agg (pmC p.o p.e (Value.slice ra rl rc) (Value.slice qa ql qc) (Value.slice ga gl gc)).toArray, .int .i64 u, .slice ma ml mc] (grew y134 x) (fun e w' => e = .returned (.bool (mayRB p u m)) ∧ Below (grew y134 x).heap.size (grew y134 x) w') from rmayRead_any p u m _ _ _ _ (grew y134 x) (HY135.out.2.2.2.1.below (below_grew y134 x)) ((HSM.out.below HY135.out.2.2.2.2.2.1).below (below_grew y134 x)))
          obtain ⟨r1, hr1⟩ : ∃ b, mayWB p u = b := ⟨_, rfl⟩
          obtain ⟨r2, hr2⟩ : ∃ b, mayRB p u m = b := ⟨_, rfl⟩
          rw [hr1] at C1 C2
          rw [hr2] at C3 C4
          clear hr1 hr2
          have x0 := HY135.out.2.2.1.cell 0
          have x1 := HY135.out.2.2.1.cell 1
          simp only [askC, List.getElem?_cons_zero, List.getElem?_cons_succ] at x0 x1
          replace x0 := fun q => cell_grew x0 q
          replace x1 := fun q => cell_grew x1 q
          refine wp_region_grew (by kernel_rfl) (by kernel_rfl) ?_
          repeat (first | go_big_quiet_skip | (go_big_quiet_want; (first | (refine quiet_load_mid 24 (.tmp 3) rfl w.heap.size 0 rfl (pmC p.o p.e (Value.slice ra rl rc) (Value.slice qa ql qc) (Value.slice ga gl gc)) _ (fun w' hw' => rangeAt_grew (rangeAt_blk HY135.out.1) w' hw') Try.underlying24 rfl (pmC_info _ _ _ _ _) ?_; go_simp; go_big_quiet_on) | (go_big_quiet_op; (first | go_big_quiet_on | (apply Exists.intro; refine ⟨fun _ => ?_, ?_⟩; (focus (first | (go_at_call 20; with_reducible exact calls_grew (C1.out _)) | (go_at_call 21; with_reducible exact calls_grew (C2.out _)) | (go_at_call 22; with_reducible exact calls_grew (C3.out _)) | (go_at_call 23; with_reducible exact calls_grew (C4.out _)))); go_big_quiet_on))))))
          refine wpQuiet_nil ?_
          intro w9 hw9
          obtain ⟨x9, rfl⟩ := hw9
          clear x0 x1 C1 C2 C3 C4
          go_wp2_with fail
          go_ret
          exact ⟨by simp, below_thn HY135.out.2.2.2.2.2.1 (below_grew y134 x9) (Nat.le_refl _)⟩


end Go.Proofs.Ytampheimonmggaa
