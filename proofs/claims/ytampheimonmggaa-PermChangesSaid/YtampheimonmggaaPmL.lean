/-
  Share, Back, ShareGroup, BackGroup, Next and New of package perm, walked. Conditions: at most a million in each list.
-/
import Derived.Test.YtampheimonmggaaPmK
namespace Go.Proofs.Ytampheimonmggaa
open Go Go.RowKit Go.Sort
set_option linter.unusedSimpArgs false
set_option linter.unusedVariables false

theorem riseB_pair {P : Int → Bool} {l : List Int} (h : riseB P l = true) : l.Pairwise (· < ·) := by
  have hs : ∀ i (hi : i + 1 < l.length), l[i] < l[i + 1] := fun i hi => by
    have h1 := List.all_eq_true.1 h (i + 1) (by simpa using hi)
    unfold risesAt at h1
    rw [getD_at hi, show i + 1 - 1 = i by omega, getD_at (show i < l.length by omega)] at h1
    simp at h1
    exact h1.2
  refine List.pairwise_iff_getElem.2 fun i j hi hj hij => ?_
  obtain ⟨d, rfl⟩ : ∃ d, j = i + 1 + d := ⟨j - (i + 1), by omega⟩
  clear hij
  induction d with
  | zero => exact hs i hj
  | succ d ih => exact Int.lt_trans (ih (by omega)) (hs (i + 1 + d) hj)
theorem okB_parts {p : PmD} (h : okB p = true) (hl : PmL p) : PmR p ∧ PmE p := by
  unfold okB at h
  simp only [Bool.and_eq_true, decide_eq_true_eq] at h
  exact ⟨⟨riseB_pair h.2.2.2.1, riseB_pair h.2.2.2.2.1, riseB_pair h.2.2.2.2.2.1, hl⟩, h.2.1, h.2.2.1⟩

theorem run_callFunc25 (args : Array Value) (w : World) : Sem.run Try.prog (callFunc 25 args) w = .ok (.enter 25 args) w :=
  run_callFunc_body Try.func25 (by kernel_rfl) (by kernel_rfl) args w

set_option maxRecDepth 100000 in
set_option maxHeartbeats 2000000 in
theorem share_any (p : PmD) (by_ : Int) (who : Int) (write : Bool) (vr vq vg : Value) (w : World) (hp : PmS w p vr vq vg) (hl : PmL p) :
    Calls Try.prog 9 #[.agg (pmC p.o p.e vr vq vg).toArray, .int .i64 by_, .int .i64 who, .bool write] w (PermP w (turnR p (shareR p by_ who write))) := by
  obtain ⟨R, hR⟩ : ∃ R, turnR p (shareR p by_ who write) = R := ⟨_, rfl⟩
  have HP := Lib.hid (And.intro hp (And.intro hl hR))
  rw [hR]
  obtain ⟨ra, rc, rfl, -⟩ := hp.1.nums
  obtain ⟨qa, qc, rfl, -⟩ := hp.2.1.nums
  obtain ⟨ga, gc, rfl, -⟩ := hp.2.2.nums
  obtain ⟨o, pe, pr, pq, pg⟩ := p
  simp only at HP ⊢
  generalize pr.length = rl at HP ⊢
  generalize pq.length = ql at HP ⊢
  generalize pg.length = gl at HP ⊢
  clear hp hl hR
  go_enter Try.func9, Try.ntmps9
  go_wp2_with (first
    | ((with_reducible refine wpList_box_blk w rfl 24 (.tmp 0) rfl (pmC o pe (.slice ra rl rc) (.slice qa ql qc) (.slice ga gl gc)) rfl ?_); intro w1 hb hbel hsz; have H1 := Lib.hid (show Blk w1 w.heap.size 24 (pmC o pe (.slice ra rl rc) (.slice qa ql qc) (.slice ga gl gc)) ∧ Below w.heap.size w w1 from ⟨hb, hbel⟩); clear hb hbel hsz)
    | ((with_reducible refine wpList_box_val w1 rfl 3 (.tmp 1) rfl (.int .i64 by_) rfl rfl ?_); intro w2 hb hbel hsz; have H2 := Lib.hid (show Blk w2 w.heap.size 24 ((pmC o pe (.slice ra rl rc) (.slice qa ql qc) (.slice ga gl gc))) ∧ Below w.heap.size w w2 ∧ w2.cell? ⟨w1.heap.size, 0, none⟩ = some (.int .i64 by_) from ⟨H1.out.1.below hbel H1.out.1.lt, below_thn H1.out.2 hbel (Nat.le_refl _), hb.cell 0⟩); clear hb hbel hsz)
    | ((with_reducible refine wpList_box_val w2 rfl 3 (.tmp 2) rfl (.int .i64 who) rfl rfl ?_); intro w3 hb hbel hsz; have H3 := Lib.hid (show Blk w3 w.heap.size 24 ((pmC o pe (.slice ra rl rc) (.slice qa ql qc) (.slice ga gl gc))) ∧ Below w.heap.size w w3 ∧ w3.cell? ⟨w1.heap.size, 0, none⟩ = some (.int .i64 by_) ∧ w3.cell? ⟨w2.heap.size, 0, none⟩ = some (.int .i64 who) from ⟨H2.out.1.below hbel H2.out.1.lt, below_thn H2.out.2.1 hbel (Nat.le_refl _), (hbel.cell (p := ⟨w1.heap.size, 0, none⟩) (block_of_cell H2.out.2.2)).trans H2.out.2.2, hb.cell 0⟩); clear hb hbel hsz)
    | ((with_reducible refine wpList_box_val w3 rfl 4 (.tmp 3) rfl (.bool write) rfl rfl ?_); intro w4 hb hbel hsz; have H4 := Lib.hid (show Blk w4 w.heap.size 24 ((pmC o pe (.slice ra rl rc) (.slice qa ql qc) (.slice ga gl gc))) ∧ Below w.heap.size w w4 ∧ w4.cell? ⟨w1.heap.size, 0, none⟩ = some (.int .i64 by_) ∧ w4.cell? ⟨w2.heap.size, 0, none⟩ = some (.int .i64 who) ∧ w4.cell? ⟨w3.heap.size, 0, none⟩ = some (.bool write) from ⟨H3.out.1.below hbel H3.out.1.lt, below_thn H3.out.2.1 hbel (Nat.le_refl _), (hbel.cell (p := ⟨w1.heap.size, 0, none⟩) (block_of_cell H3.out.2.2.1)).trans H3.out.2.2.1, (hbel.cell (p := ⟨w2.heap.size, 0, none⟩) (block_of_cell H3.out.2.2.2)).trans H3.out.2.2.2, hb.cell 0⟩); clear hb hbel hsz)
    | ((with_reducible refine wpList_alloc_blk w4 rfl 24 rfl (pmC 0 0 (.slice none 0 0) (.slice none 0 0) (.slice none 0 0)) Try.zeroPm ?_); intro w5 hb hbel hsz; have H5 := Lib.hid (show Blk w5 w.heap.size 24 ((pmC o pe (.slice ra rl rc) (.slice qa ql qc) (.slice ga gl gc))) ∧ Below w.heap.size w w5 ∧ w5.cell? ⟨w1.heap.size, 0, none⟩ = some (.int .i64 by_) ∧ w5.cell? ⟨w2.heap.size, 0, none⟩ = some (.int .i64 who) ∧ w5.cell? ⟨w3.heap.size, 0, none⟩ = some (.bool write) ∧ Blk w5 w4.heap.size 24 (pmC 0 0 (.slice none 0 0) (.slice none 0 0) (.slice none 0 0)) ∧ w.heap.size ≤ w4.heap.size from ⟨H4.out.1.below hbel H4.out.1.lt, below_thn H4.out.2.1 hbel (Nat.le_refl _), (hbel.cell (p := ⟨w1.heap.size, 0, none⟩) (block_of_cell H4.out.2.2.1)).trans H4.out.2.2.1, (hbel.cell (p := ⟨w2.heap.size, 0, none⟩) (block_of_cell H4.out.2.2.2.1)).trans H4.out.2.2.2.1, (hbel.cell (p := ⟨w3.heap.size, 0, none⟩) (block_of_cell H4.out.2.2.2.2)).trans H4.out.2.2.2.2, hb, H4.out.2.1.size⟩); clear hb hbel hsz)
    | (with_reducible refine wpList_load_any rfl 24 (.tmp 4) rfl w.heap.size 0 rfl (pmC o pe (.slice ra rl rc) (.slice qa ql qc) (.slice ga gl gc)) _ (rangeW_blk H5.out.1) Try.underlying24 rfl (pmC_info _ _ _ _ _) ?_))
  refine (turn_any ⟨o, pe, pr, pq, pg⟩ (shareR ⟨o, pe, pr, pq, pg⟩ by_ who write) 25 [.pointer (some ⟨w1.heap.size, 0, none⟩), .pointer (some ⟨w2.heap.size, 0, none⟩), .pointer (some ⟨w3.heap.size, 0, none⟩)] _ _ _ w5 (HP.out.1.below H5.out.2.1) HP.out.2.1 run_callFunc25 (fun hok wz g B xr xq xg hbl hge hB hab hblk hps hoff => share_does ⟨o, pe, pr, pq, pg⟩ by_ who write w1.heap.size w2.heap.size w3.heap.size g B xr xq xg wz hblk hps hoff hab hB (okB_parts hok HP.out.2.1).1 ((hbl.cell (p := ⟨w1.heap.size, 0, none⟩) (block_of_cell H5.out.2.2.1)).trans H5.out.2.2.1) (fun e => by have := block_of_cell H5.out.2.2.1; simp only at this; omega) ((hbl.cell (p := ⟨w2.heap.size, 0, none⟩) (block_of_cell H5.out.2.2.2.1)).trans H5.out.2.2.2.1) (fun e => by have := block_of_cell H5.out.2.2.2.1; simp only at this; omega) ((hbl.cell (p := ⟨w3.heap.size, 0, none⟩) (block_of_cell H5.out.2.2.2.2.1)).trans H5.out.2.2.2.2.1) (fun e => by have := block_of_cell H5.out.2.2.2.2.1; simp only at this; omega))).mono ?_
  rw [HP.out.2.2]
  rintro e wy ⟨xr, xq, xg, rfl, hs, hb, hab⟩
  obtain ⟨xa, xc, rfl, -⟩ := hs.1.shape
  obtain ⟨ya, yc, rfl, -⟩ := hs.2.1.shape
  obtain ⟨za, zc, rfl, -⟩ := hs.2.2.shape
  generalize (ofK .i64 R.1.r).length = xl at hs hab ⊢
  generalize (ofK .i64 R.1.q).length = yl at hs hab ⊢
  generalize (ofK .i64 R.1.g).length = zl at hs hab ⊢
  have HY := Lib.hid (show PmS wy R.1 (.slice xa xl xc) (.slice ya yl yc) (.slice za zl zc) ∧ Blk wy w4.heap.size 24 (pmC 0 0 (.slice none 0 0) (.slice none 0 0) (.slice none 0 0)) ∧ Below w.heap.size w wy from ⟨hs, H5.out.2.2.2.2.2.1.below hb H5.out.2.2.2.2.2.1.lt, below_thn H5.out.2.1 hb (Nat.le_refl _)⟩)
  have HO := Lib.hid (show Off w4.heap.size (.slice xa xl xc) (.slice ya yl yc) (.slice za zl zc) ∧ AbvS w.heap.size (.slice xa xl xc) (.slice ya yl yc) (.slice za zl zc) from ⟨⟨fun k hk e => by have := hab.1 k hk; have := H5.out.2.2.2.2.2.1.lt; omega, fun k hk e => by have := hab.2.1 k hk; have := H5.out.2.2.2.2.2.1.lt; omega, fun k hk e => by have := hab.2.2 k hk; have := H5.out.2.2.2.2.2.1.lt; omega⟩, hab.mono H5.out.2.1.size⟩)
  clear hs hb hab
  go_wp2_with ((with_reducible refine wpList_store_blk wy rfl 24 (.tmp 8) (.tmp 13) rfl w4.heap.size 24 (pmC 0 0 (.slice none 0 0) (.slice none 0 0) (.slice none 0 0)) (pmC R.1.o R.1.e (.slice xa xl xc) (.slice ya yl yc) (.slice za zl zc)) HY.out.2.1 rfl rfl rfl (pmC_info _ _ _ _ _) (pmC_one _ _ _ _ _ _ _ _ _ _ _) ?_); intro w9 hb hc hs; have H9 := Lib.hid (show Blk w9 w4.heap.size 24 (pmC R.1.o R.1.e (.slice xa xl xc) (.slice ya yl yc) (.slice za zl zc)) ∧ Ch (· = w4.heap.size) wy w9 from ⟨hb, hc⟩); clear hb hc hs)
  refine bodyPost_ret (results_cellTmp Try.results9 _ _ w4.heap.size _ _ rfl H9.out.1 _ Try.underlying24 rfl (pmC_info _ _ _ _ _) _ rfl) rfl ?_
  exact ⟨_, _, _, rfl, HY.out.1.ch H9.out.2 HO.out.1, below_ch HY.out.2.2 H9.out.2 (Nat.le_refl _) (fun k hk => by have e : k = w4.heap.size := hk; have := H5.out.2.2.2.2.2.2; omega), HO.out.2⟩


theorem run_callFunc34 (args : Array Value) (w : World) : Sem.run Try.prog (callFunc 34 args) w = .ok (.enter 34 args) w :=
  run_callFunc_body Try.func34 (by kernel_rfl) (by kernel_rfl) args w

set_option maxRecDepth 100000 in
set_option maxHeartbeats 2000000 in
theorem back_any (p : PmD) (by_ : Int) (who : Int) (vr vq vg : Value) (w : World) (hp : PmS w p vr vq vg) (hl : PmL p) :
    Calls Try.prog 11 #[.agg (pmC p.o p.e vr vq vg).toArray, .int .i64 by_, .int .i64 who] w (PermP w (turnR p (backR p by_ who))) := by
  obtain ⟨R, hR⟩ : ∃ R, turnR p (backR p by_ who) = R := ⟨_, rfl⟩
  have HP := Lib.hid (And.intro hp (And.intro hl hR))
  rw [hR]
  obtain ⟨ra, rc, rfl, -⟩ := hp.1.nums
  obtain ⟨qa, qc, rfl, -⟩ := hp.2.1.nums
  obtain ⟨ga, gc, rfl, -⟩ := hp.2.2.nums
  obtain ⟨o, pe, pr, pq, pg⟩ := p
  simp only at HP ⊢
  generalize pr.length = rl at HP ⊢
  generalize pq.length = ql at HP ⊢
  generalize pg.length = gl at HP ⊢
  clear hp hl hR
  go_enter Try.func11, Try.ntmps11
  go_wp2_with (first
    | ((with_reducible refine wpList_box_blk w rfl 24 (.tmp 0) rfl (pmC o pe (.slice ra rl rc) (.slice qa ql qc) (.slice ga gl gc)) rfl ?_); intro w1 hb hbel hsz; have H1 := Lib.hid (show Blk w1 w.heap.size 24 (pmC o pe (.slice ra rl rc) (.slice qa ql qc) (.slice ga gl gc)) ∧ Below w.heap.size w w1 from ⟨hb, hbel⟩); clear hb hbel hsz)
    | ((with_reducible refine wpList_box_val w1 rfl 3 (.tmp 1) rfl (.int .i64 by_) rfl rfl ?_); intro w2 hb hbel hsz; have H2 := Lib.hid (show Blk w2 w.heap.size 24 ((pmC o pe (.slice ra rl rc) (.slice qa ql qc) (.slice ga gl gc))) ∧ Below w.heap.size w w2 ∧ w2.cell? ⟨w1.heap.size, 0, none⟩ = some (.int .i64 by_) from ⟨H1.out.1.below hbel H1.out.1.lt, below_thn H1.out.2 hbel (Nat.le_refl _), hb.cell 0⟩); clear hb hbel hsz)
    | ((with_reducible refine wpList_box_val w2 rfl 3 (.tmp 2) rfl (.int .i64 who) rfl rfl ?_); intro w3 hb hbel hsz; have H3 := Lib.hid (show Blk w3 w.heap.size 24 ((pmC o pe (.slice ra rl rc) (.slice qa ql qc) (.slice ga gl gc))) ∧ Below w.heap.size w w3 ∧ w3.cell? ⟨w1.heap.size, 0, none⟩ = some (.int .i64 by_) ∧ w3.cell? ⟨w2.heap.size, 0, none⟩ = some (.int .i64 who) from ⟨H2.out.1.below hbel H2.out.1.lt, below_thn H2.out.2.1 hbel (Nat.le_refl _), (hbel.cell (p := ⟨w1.heap.size, 0, none⟩) (block_of_cell H2.out.2.2)).trans H2.out.2.2, hb.cell 0⟩); clear hb hbel hsz)
    | ((with_reducible refine wpList_alloc_blk w3 rfl 24 rfl (pmC 0 0 (.slice none 0 0) (.slice none 0 0) (.slice none 0 0)) Try.zeroPm ?_); intro w4 hb hbel hsz; have H4 := Lib.hid (show Blk w4 w.heap.size 24 ((pmC o pe (.slice ra rl rc) (.slice qa ql qc) (.slice ga gl gc))) ∧ Below w.heap.size w w4 ∧ w4.cell? ⟨w1.heap.size, 0, none⟩ = some (.int .i64 by_) ∧ w4.cell? ⟨w2.heap.size, 0, none⟩ = some (.int .i64 who) ∧ Blk w4 w3.heap.size 24 (pmC 0 0 (.slice none 0 0) (.slice none 0 0) (.slice none 0 0)) ∧ w.heap.size ≤ w3.heap.size from ⟨H3.out.1.below hbel H3.out.1.lt, below_thn H3.out.2.1 hbel (Nat.le_refl _), (hbel.cell (p := ⟨w1.heap.size, 0, none⟩) (block_of_cell H3.out.2.2.1)).trans H3.out.2.2.1, (hbel.cell (p := ⟨w2.heap.size, 0, none⟩) (block_of_cell H3.out.2.2.2)).trans H3.out.2.2.2, hb, H3.out.2.1.size⟩); clear hb hbel hsz)
    | (with_reducible refine wpList_load_any rfl 24 (.tmp 3) rfl w.heap.size 0 rfl (pmC o pe (.slice ra rl rc) (.slice qa ql qc) (.slice ga gl gc)) _ (rangeW_blk H4.out.1) Try.underlying24 rfl (pmC_info _ _ _ _ _) ?_))
  refine (turn_any ⟨o, pe, pr, pq, pg⟩ (backR ⟨o, pe, pr, pq, pg⟩ by_ who) 34 [.pointer (some ⟨w1.heap.size, 0, none⟩), .pointer (some ⟨w2.heap.size, 0, none⟩)] _ _ _ w4 (HP.out.1.below H4.out.2.1) HP.out.2.1 run_callFunc34 (fun hok wz g B xr xq xg hbl hge hB hab hblk hps hoff => back_does ⟨o, pe, pr, pq, pg⟩ by_ who w1.heap.size w2.heap.size g B xr xq xg wz hblk hps hoff hab hB (okB_parts hok HP.out.2.1).1 (okB_parts hok HP.out.2.1).2 ((hbl.cell (p := ⟨w1.heap.size, 0, none⟩) (block_of_cell H4.out.2.2.1)).trans H4.out.2.2.1) (fun e => by have := block_of_cell H4.out.2.2.1; simp only at this; omega) ((hbl.cell (p := ⟨w2.heap.size, 0, none⟩) (block_of_cell H4.out.2.2.2.1)).trans H4.out.2.2.2.1) (fun e => by have := block_of_cell H4.out.2.2.2.1; simp only at this; omega))).mono ?_
  rw [HP.out.2.2]
  rintro e wy ⟨xr, xq, xg, rfl, hs, hb, hab⟩
  obtain ⟨xa, xc, rfl, -⟩ := hs.1.shape
  obtain ⟨ya, yc, rfl, -⟩ := hs.2.1.shape
  obtain ⟨za, zc, rfl, -⟩ := hs.2.2.shape
  generalize (ofK .i64 R.1.r).length = xl at hs hab ⊢
  generalize (ofK .i64 R.1.q).length = yl at hs hab ⊢
  generalize (ofK .i64 R.1.g).length = zl at hs hab ⊢
  have HY := Lib.hid (show PmS wy R.1 (.slice xa xl xc) (.slice ya yl yc) (.slice za zl zc) ∧ Blk wy w3.heap.size 24 (pmC 0 0 (.slice none 0 0) (.slice none 0 0) (.slice none 0 0)) ∧ Below w.heap.size w wy from ⟨hs, H4.out.2.2.2.2.1.below hb H4.out.2.2.2.2.1.lt, below_thn H4.out.2.1 hb (Nat.le_refl _)⟩)
  have HO := Lib.hid (show Off w3.heap.size (.slice xa xl xc) (.slice ya yl yc) (.slice za zl zc) ∧ AbvS w.heap.size (.slice xa xl xc) (.slice ya yl yc) (.slice za zl zc) from ⟨⟨fun k hk e => by have := hab.1 k hk; have := H4.out.2.2.2.2.1.lt; omega, fun k hk e => by have := hab.2.1 k hk; have := H4.out.2.2.2.2.1.lt; omega, fun k hk e => by have := hab.2.2 k hk; have := H4.out.2.2.2.2.1.lt; omega⟩, hab.mono H4.out.2.1.size⟩)
  clear hs hb hab
  go_wp2_with ((with_reducible refine wpList_store_blk wy rfl 24 (.tmp 6) (.tmp 11) rfl w3.heap.size 24 (pmC 0 0 (.slice none 0 0) (.slice none 0 0) (.slice none 0 0)) (pmC R.1.o R.1.e (.slice xa xl xc) (.slice ya yl yc) (.slice za zl zc)) HY.out.2.1 rfl rfl rfl (pmC_info _ _ _ _ _) (pmC_one _ _ _ _ _ _ _ _ _ _ _) ?_); intro w9 hb hc hs; have H9 := Lib.hid (show Blk w9 w3.heap.size 24 (pmC R.1.o R.1.e (.slice xa xl xc) (.slice ya yl yc) (.slice za zl zc)) ∧ Ch (· = w3.heap.size) wy w9 from ⟨hb, hc⟩); clear hb hc hs)
  refine bodyPost_ret (results_cellTmp Try.results11 _ _ w3.heap.size _ _ rfl H9.out.1 _ Try.underlying24 rfl (pmC_info _ _ _ _ _) _ rfl) rfl ?_
  exact ⟨_, _, _, rfl, HY.out.1.ch H9.out.2 HO.out.1, below_ch HY.out.2.2 H9.out.2 (Nat.le_refl _) (fun k hk => by have e : k = w3.heap.size := hk; have := H4.out.2.2.2.2.2; omega), HO.out.2⟩


theorem run_callFunc53 (args : Array Value) (w : World) : Sem.run Try.prog (callFunc 53 args) w = .ok (.enter 53 args) w :=
  run_callFunc_body Try.func53 (by kernel_rfl) (by kernel_rfl) args w

set_option maxRecDepth 100000 in
set_option maxHeartbeats 2000000 in
theorem shareGroup_any (p : PmD) (by_ : Int) (n : Int) (vr vq vg : Value) (w : World) (hp : PmS w p vr vq vg) (hl : PmL p) :
    Calls Try.prog 38 #[.agg (pmC p.o p.e vr vq vg).toArray, .int .i64 by_, .int .i64 n] w (PermP w (turnR p (shareGR p by_ n))) := by
  obtain ⟨R, hR⟩ : ∃ R, turnR p (shareGR p by_ n) = R := ⟨_, rfl⟩
  have HP := Lib.hid (And.intro hp (And.intro hl hR))
  rw [hR]
  obtain ⟨ra, rc, rfl, -⟩ := hp.1.nums
  obtain ⟨qa, qc, rfl, -⟩ := hp.2.1.nums
  obtain ⟨ga, gc, rfl, -⟩ := hp.2.2.nums
  obtain ⟨o, pe, pr, pq, pg⟩ := p
  simp only at HP ⊢
  generalize pr.length = rl at HP ⊢
  generalize pq.length = ql at HP ⊢
  generalize pg.length = gl at HP ⊢
  clear hp hl hR
  go_enter Try.func38, Try.ntmps38
  go_wp2_with (first
    | ((with_reducible refine wpList_box_blk w rfl 24 (.tmp 0) rfl (pmC o pe (.slice ra rl rc) (.slice qa ql qc) (.slice ga gl gc)) rfl ?_); intro w1 hb hbel hsz; have H1 := Lib.hid (show Blk w1 w.heap.size 24 (pmC o pe (.slice ra rl rc) (.slice qa ql qc) (.slice ga gl gc)) ∧ Below w.heap.size w w1 from ⟨hb, hbel⟩); clear hb hbel hsz)
    | ((with_reducible refine wpList_box_val w1 rfl 3 (.tmp 1) rfl (.int .i64 by_) rfl rfl ?_); intro w2 hb hbel hsz; have H2 := Lib.hid (show Blk w2 w.heap.size 24 ((pmC o pe (.slice ra rl rc) (.slice qa ql qc) (.slice ga gl gc))) ∧ Below w.heap.size w w2 ∧ w2.cell? ⟨w1.heap.size, 0, none⟩ = some (.int .i64 by_) from ⟨H1.out.1.below hbel H1.out.1.lt, below_thn H1.out.2 hbel (Nat.le_refl _), hb.cell 0⟩); clear hb hbel hsz)
    | ((with_reducible refine wpList_box_val w2 rfl 3 (.tmp 2) rfl (.int .i64 n) rfl rfl ?_); intro w3 hb hbel hsz; have H3 := Lib.hid (show Blk w3 w.heap.size 24 ((pmC o pe (.slice ra rl rc) (.slice qa ql qc) (.slice ga gl gc))) ∧ Below w.heap.size w w3 ∧ w3.cell? ⟨w1.heap.size, 0, none⟩ = some (.int .i64 by_) ∧ w3.cell? ⟨w2.heap.size, 0, none⟩ = some (.int .i64 n) from ⟨H2.out.1.below hbel H2.out.1.lt, below_thn H2.out.2.1 hbel (Nat.le_refl _), (hbel.cell (p := ⟨w1.heap.size, 0, none⟩) (block_of_cell H2.out.2.2)).trans H2.out.2.2, hb.cell 0⟩); clear hb hbel hsz)
    | ((with_reducible refine wpList_alloc_blk w3 rfl 24 rfl (pmC 0 0 (.slice none 0 0) (.slice none 0 0) (.slice none 0 0)) Try.zeroPm ?_); intro w4 hb hbel hsz; have H4 := Lib.hid (show Blk w4 w.heap.size 24 ((pmC o pe (.slice ra rl rc) (.slice qa ql qc) (.slice ga gl gc))) ∧ Below w.heap.size w w4 ∧ w4.cell? ⟨w1.heap.size, 0, none⟩ = some (.int .i64 by_) ∧ w4.cell? ⟨w2.heap.size, 0, none⟩ = some (.int .i64 n) ∧ Blk w4 w3.heap.size 24 (pmC 0 0 (.slice none 0 0) (.slice none 0 0) (.slice none 0 0)) ∧ w.heap.size ≤ w3.heap.size from ⟨H3.out.1.below hbel H3.out.1.lt, below_thn H3.out.2.1 hbel (Nat.le_refl _), (hbel.cell (p := ⟨w1.heap.size, 0, none⟩) (block_of_cell H3.out.2.2.1)).trans H3.out.2.2.1, (hbel.cell (p := ⟨w2.heap.size, 0, none⟩) (block_of_cell H3.out.2.2.2)).trans H3.out.2.2.2, hb, H3.out.2.1.size⟩); clear hb hbel hsz)
    | (with_reducible refine wpList_load_any rfl 24 (.tmp 3) rfl w.heap.size 0 rfl (pmC o pe (.slice ra rl rc) (.slice qa ql qc) (.slice ga gl gc)) _ (rangeW_blk H4.out.1) Try.underlying24 rfl (pmC_info _ _ _ _ _) ?_))
  refine (turn_any ⟨o, pe, pr, pq, pg⟩ (shareGR ⟨o, pe, pr, pq, pg⟩ by_ n) 53 [.pointer (some ⟨w1.heap.size, 0, none⟩), .pointer (some ⟨w2.heap.size, 0, none⟩)] _ _ _ w4 (HP.out.1.below H4.out.2.1) HP.out.2.1 run_callFunc53 (fun hok wz g B xr xq xg hbl hge hB hab hblk hps hoff => shareGroup_does ⟨o, pe, pr, pq, pg⟩ by_ n w1.heap.size w2.heap.size g B xr xq xg wz hblk hps hoff hab hB (okB_parts hok HP.out.2.1).1 (okB_parts hok HP.out.2.1).2 ((hbl.cell (p := ⟨w1.heap.size, 0, none⟩) (block_of_cell H4.out.2.2.1)).trans H4.out.2.2.1) (fun e => by have := block_of_cell H4.out.2.2.1; simp only at this; omega) ((hbl.cell (p := ⟨w2.heap.size, 0, none⟩) (block_of_cell H4.out.2.2.2.1)).trans H4.out.2.2.2.1) (fun e => by have := block_of_cell H4.out.2.2.2.1; simp only at this; omega))).mono ?_
  rw [HP.out.2.2]
  rintro e wy ⟨xr, xq, xg, rfl, hs, hb, hab⟩
  obtain ⟨xa, xc, rfl, -⟩ := hs.1.shape
  obtain ⟨ya, yc, rfl, -⟩ := hs.2.1.shape
  obtain ⟨za, zc, rfl, -⟩ := hs.2.2.shape
  generalize (ofK .i64 R.1.r).length = xl at hs hab ⊢
  generalize (ofK .i64 R.1.q).length = yl at hs hab ⊢
  generalize (ofK .i64 R.1.g).length = zl at hs hab ⊢
  have HY := Lib.hid (show PmS wy R.1 (.slice xa xl xc) (.slice ya yl yc) (.slice za zl zc) ∧ Blk wy w3.heap.size 24 (pmC 0 0 (.slice none 0 0) (.slice none 0 0) (.slice none 0 0)) ∧ Below w.heap.size w wy from ⟨hs, H4.out.2.2.2.2.1.below hb H4.out.2.2.2.2.1.lt, below_thn H4.out.2.1 hb (Nat.le_refl _)⟩)
  have HO := Lib.hid (show Off w3.heap.size (.slice xa xl xc) (.slice ya yl yc) (.slice za zl zc) ∧ AbvS w.heap.size (.slice xa xl xc) (.slice ya yl yc) (.slice za zl zc) from ⟨⟨fun k hk e => by have := hab.1 k hk; have := H4.out.2.2.2.2.1.lt; omega, fun k hk e => by have := hab.2.1 k hk; have := H4.out.2.2.2.2.1.lt; omega, fun k hk e => by have := hab.2.2 k hk; have := H4.out.2.2.2.2.1.lt; omega⟩, hab.mono H4.out.2.1.size⟩)
  clear hs hb hab
  go_wp2_with ((with_reducible refine wpList_store_blk wy rfl 24 (.tmp 6) (.tmp 11) rfl w3.heap.size 24 (pmC 0 0 (.slice none 0 0) (.slice none 0 0) (.slice none 0 0)) (pmC R.1.o R.1.e (.slice xa xl xc) (.slice ya yl yc) (.slice za zl zc)) HY.out.2.1 rfl rfl rfl (pmC_info _ _ _ _ _) (pmC_one _ _ _ _ _ _ _ _ _ _ _) ?_); intro w9 hb hc hs; have H9 := Lib.hid (show Blk w9 w3.heap.size 24 (pmC R.1.o R.1.e (.slice xa xl xc) (.slice ya yl yc) (.slice za zl zc)) ∧ Ch (· = w3.heap.size) wy w9 from ⟨hb, hc⟩); clear hb hc hs)
  refine bodyPost_ret (results_cellTmp Try.results38 _ _ w3.heap.size _ _ rfl H9.out.1 _ Try.underlying24 rfl (pmC_info _ _ _ _ _) _ rfl) rfl ?_
  exact ⟨_, _, _, rfl, HY.out.1.ch H9.out.2 HO.out.1, below_ch HY.out.2.2 H9.out.2 (Nat.le_refl _) (fun k hk => by have e : k = w3.heap.size := hk; have := H4.out.2.2.2.2.2; omega), HO.out.2⟩


theorem run_callFunc54 (args : Array Value) (w : World) : Sem.run Try.prog (callFunc 54 args) w = .ok (.enter 54 args) w :=
  run_callFunc_body Try.func54 (by kernel_rfl) (by kernel_rfl) args w

set_option maxRecDepth 100000 in
set_option maxHeartbeats 2000000 in
theorem backGroup_any (p : PmD) (by_ : Int) (n : Int) (vr vq vg : Value) (w : World) (hp : PmS w p vr vq vg) (hl : PmL p) :
    Calls Try.prog 39 #[.agg (pmC p.o p.e vr vq vg).toArray, .int .i64 by_, .int .i64 n] w (PermP w (turnR p (backGR p by_ n))) := by
  obtain ⟨R, hR⟩ : ∃ R, turnR p (backGR p by_ n) = R := ⟨_, rfl⟩
  have HP := Lib.hid (And.intro hp (And.intro hl hR))
  rw [hR]
  obtain ⟨ra, rc, rfl, -⟩ := hp.1.nums
  obtain ⟨qa, qc, rfl, -⟩ := hp.2.1.nums
  obtain ⟨ga, gc, rfl, -⟩ := hp.2.2.nums
  obtain ⟨o, pe, pr, pq, pg⟩ := p
  simp only at HP ⊢
  generalize pr.length = rl at HP ⊢
  generalize pq.length = ql at HP ⊢
  generalize pg.length = gl at HP ⊢
  clear hp hl hR
  go_enter Try.func39, Try.ntmps39
  go_wp2_with (first
    | ((with_reducible refine wpList_box_blk w rfl 24 (.tmp 0) rfl (pmC o pe (.slice ra rl rc) (.slice qa ql qc) (.slice ga gl gc)) rfl ?_); intro w1 hb hbel hsz; have H1 := Lib.hid (show Blk w1 w.heap.size 24 (pmC o pe (.slice ra rl rc) (.slice qa ql qc) (.slice ga gl gc)) ∧ Below w.heap.size w w1 from ⟨hb, hbel⟩); clear hb hbel hsz)
    | ((with_reducible refine wpList_box_val w1 rfl 3 (.tmp 1) rfl (.int .i64 by_) rfl rfl ?_); intro w2 hb hbel hsz; have H2 := Lib.hid (show Blk w2 w.heap.size 24 ((pmC o pe (.slice ra rl rc) (.slice qa ql qc) (.slice ga gl gc))) ∧ Below w.heap.size w w2 ∧ w2.cell? ⟨w1.heap.size, 0, none⟩ = some (.int .i64 by_) from ⟨H1.out.1.below hbel H1.out.1.lt, below_thn H1.out.2 hbel (Nat.le_refl _), hb.cell 0⟩); clear hb hbel hsz)
    | ((with_reducible refine wpList_box_val w2 rfl 3 (.tmp 2) rfl (.int .i64 n) rfl rfl ?_); intro w3 hb hbel hsz; have H3 := Lib.hid (show Blk w3 w.heap.size 24 ((pmC o pe (.slice ra rl rc) (.slice qa ql qc) (.slice ga gl gc))) ∧ Below w.heap.size w w3 ∧ w3.cell? ⟨w1.heap.size, 0, none⟩ = some (.int .i64 by_) ∧ w3.cell? ⟨w2.heap.size, 0, none⟩ = some (.int .i64 n) from ⟨H2.out.1.below hbel H2.out.1.lt, below_thn H2.out.2.1 hbel (Nat.le_refl _), (hbel.cell (p := ⟨w1.heap.size, 0, none⟩) (block_of_cell H2.out.2.2)).trans H2.out.2.2, hb.cell 0⟩); clear hb hbel hsz)
    | ((with_reducible refine wpList_alloc_blk w3 rfl 24 rfl (pmC 0 0 (.slice none 0 0) (.slice none 0 0) (.slice none 0 0)) Try.zeroPm ?_); intro w4 hb hbel hsz; have H4 := Lib.hid (show Blk w4 w.heap.size 24 ((pmC o pe (.slice ra rl rc) (.slice qa ql qc) (.slice ga gl gc))) ∧ Below w.heap.size w w4 ∧ w4.cell? ⟨w1.heap.size, 0, none⟩ = some (.int .i64 by_) ∧ w4.cell? ⟨w2.heap.size, 0, none⟩ = some (.int .i64 n) ∧ Blk w4 w3.heap.size 24 (pmC 0 0 (.slice none 0 0) (.slice none 0 0) (.slice none 0 0)) ∧ w.heap.size ≤ w3.heap.size from ⟨H3.out.1.below hbel H3.out.1.lt, below_thn H3.out.2.1 hbel (Nat.le_refl _), (hbel.cell (p := ⟨w1.heap.size, 0, none⟩) (block_of_cell H3.out.2.2.1)).trans H3.out.2.2.1, (hbel.cell (p := ⟨w2.heap.size, 0, none⟩) (block_of_cell H3.out.2.2.2)).trans H3.out.2.2.2, hb, H3.out.2.1.size⟩); clear hb hbel hsz)
    | (with_reducible refine wpList_load_any rfl 24 (.tmp 3) rfl w.heap.size 0 rfl (pmC o pe (.slice ra rl rc) (.slice qa ql qc) (.slice ga gl gc)) _ (rangeW_blk H4.out.1) Try.underlying24 rfl (pmC_info _ _ _ _ _) ?_))
  refine (turn_any ⟨o, pe, pr, pq, pg⟩ (backGR ⟨o, pe, pr, pq, pg⟩ by_ n) 54 [.pointer (some ⟨w1.heap.size, 0, none⟩), .pointer (some ⟨w2.heap.size, 0, none⟩)] _ _ _ w4 (HP.out.1.below H4.out.2.1) HP.out.2.1 run_callFunc54 (fun hok wz g B xr xq xg hbl hge hB hab hblk hps hoff => backGroup_does ⟨o, pe, pr, pq, pg⟩ by_ n w1.heap.size w2.heap.size g B xr xq xg wz hblk hps hoff hab hB (okB_parts hok HP.out.2.1).1 (okB_parts hok HP.out.2.1).2 ((hbl.cell (p := ⟨w1.heap.size, 0, none⟩) (block_of_cell H4.out.2.2.1)).trans H4.out.2.2.1) (fun e => by have := block_of_cell H4.out.2.2.1; simp only at this; omega) ((hbl.cell (p := ⟨w2.heap.size, 0, none⟩) (block_of_cell H4.out.2.2.2.1)).trans H4.out.2.2.2.1) (fun e => by have := block_of_cell H4.out.2.2.2.1; simp only at this; omega))).mono ?_
  rw [HP.out.2.2]
  rintro e wy ⟨xr, xq, xg, rfl, hs, hb, hab⟩
  obtain ⟨xa, xc, rfl, -⟩ := hs.1.shape
  obtain ⟨ya, yc, rfl, -⟩ := hs.2.1.shape
  obtain ⟨za, zc, rfl, -⟩ := hs.2.2.shape
  generalize (ofK .i64 R.1.r).length = xl at hs hab ⊢
  generalize (ofK .i64 R.1.q).length = yl at hs hab ⊢
  generalize (ofK .i64 R.1.g).length = zl at hs hab ⊢
  have HY := Lib.hid (show PmS wy R.1 (.slice xa xl xc) (.slice ya yl yc) (.slice za zl zc) ∧ Blk wy w3.heap.size 24 (pmC 0 0 (.slice none 0 0) (.slice none 0 0) (.slice none 0 0)) ∧ Below w.heap.size w wy from ⟨hs, H4.out.2.2.2.2.1.below hb H4.out.2.2.2.2.1.lt, below_thn H4.out.2.1 hb (Nat.le_refl _)⟩)
  have HO := Lib.hid (show Off w3.heap.size (.slice xa xl xc) (.slice ya yl yc) (.slice za zl zc) ∧ AbvS w.heap.size (.slice xa xl xc) (.slice ya yl yc) (.slice za zl zc) from ⟨⟨fun k hk e => by have := hab.1 k hk; have := H4.out.2.2.2.2.1.lt; omega, fun k hk e => by have := hab.2.1 k hk; have := H4.out.2.2.2.2.1.lt; omega, fun k hk e => by have := hab.2.2 k hk; have := H4.out.2.2.2.2.1.lt; omega⟩, hab.mono H4.out.2.1.size⟩)
  clear hs hb hab
  go_wp2_with ((with_reducible refine wpList_store_blk wy rfl 24 (.tmp 6) (.tmp 11) rfl w3.heap.size 24 (pmC 0 0 (.slice none 0 0) (.slice none 0 0) (.slice none 0 0)) (pmC R.1.o R.1.e (.slice xa xl xc) (.slice ya yl yc) (.slice za zl zc)) HY.out.2.1 rfl rfl rfl (pmC_info _ _ _ _ _) (pmC_one _ _ _ _ _ _ _ _ _ _ _) ?_); intro w9 hb hc hs; have H9 := Lib.hid (show Blk w9 w3.heap.size 24 (pmC R.1.o R.1.e (.slice xa xl xc) (.slice ya yl yc) (.slice za zl zc)) ∧ Ch (· = w3.heap.size) wy w9 from ⟨hb, hc⟩); clear hb hc hs)
  refine bodyPost_ret (results_cellTmp Try.results39 _ _ w3.heap.size _ _ rfl H9.out.1 _ Try.underlying24 rfl (pmC_info _ _ _ _ _) _ rfl) rfl ?_
  exact ⟨_, _, _, rfl, HY.out.1.ch H9.out.2 HO.out.1, below_ch HY.out.2.2 H9.out.2 (Nat.le_refl _) (fun k hk => by have e : k = w3.heap.size := hk; have := H4.out.2.2.2.2.2; omega), HO.out.2⟩


end Go.Proofs.Ytampheimonmggaa
