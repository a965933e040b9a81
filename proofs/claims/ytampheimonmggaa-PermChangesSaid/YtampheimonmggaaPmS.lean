/-
  perm.MayRead, walked. Conditions: lengths within the form's reach.
-/
import Derived.Test.YtampheimonmggaaPmR
namespace Go.Proofs.Ytampheimonmggaa
open Go Go.RowKit Go.Shelf
set_option linter.unusedSimpArgs false
set_option linter.unusedVariables false
attribute [local go_sem] Oper.semAt_some

theorem Try.zeroB : ∀ w, (zeroValue 4).run Try.prog w = .ok (.bool false) w := fun w => by kernel_rfl
theorem wpList_alloc_one {P : Program} (w : World) {ops : Array Oper} {rest : List Oper} {o : Oper} {a : Act} {Q : Exit → Act → World → Prop} (hgd : o.guard = none) (t : TypeId) (ho : o.op = .alloc t) (v : Value) (hv : v.cells = #[v]) (hz : ∀ w, (zeroValue t).run P w = .ok v w)
    (h : ∀ w', Blk w' w.heap.size t [v] → Below w.heap.size w w' → w'.heap.size = w.heap.size + 1 → wpList P ops Q rest (a.put o.dst (.pointer (some ⟨w.heap.size, 0, none⟩))) w') : wpList P ops Q (o :: rest) a w := by
  refine wpList_plain hgd fun K' hK' => ?_
  have hrun : (execOp a.eval o).run P w = .ok (.value (.pointer (some ⟨w.heap.size, 0, none⟩))) (w.alloc (.cells [v].toArray t)) := by
    simp [execOp, ho, Instr.alloc, hz, Result.andThen, run_newVar', hv]
  unfold Oper.wp
  rw [hrun]
  exact hK' _ _ (h _ (Blk.new w [v] t) ((Below.refl _ _).alloc (Nat.le_refl _) _) (by simp))

theorem groups_any (v : Value) (hv : v.cells = #[v]) (who : Int) (w : World) :
    Calls Try.prog 45 #[v, .int .i64 who] w (fun e w' => ∃ bl bw, e = .returned (.func (.func 55) #[] #[.pointer (some ⟨bl, 0, none⟩), .pointer (some ⟨bw, 0, none⟩)]) ∧ Blk w' bl 41 [v] ∧ Blk w' bw 3 [.int .i64 who] ∧ w.heap.size ≤ bl ∧ w.heap.size ≤ bw ∧ Below w.heap.size w w') := by
  have HV := Lib.hid hv
  clear hv
  go_enter Try.func45, Try.ntmps45
  go_wp2_with (first
    | ((refine wpList_box_val w rfl 41 (.tmp 0) rfl v HV.out rfl ?_); intro w1 hb hbel hsz; have H1 := Lib.hid (And.intro hb hbel); clear hb hbel hsz)
    | ((with_reducible refine wpList_box_val w1 rfl 3 (.tmp 1) rfl (.int .i64 who) rfl rfl ?_); intro w2 hb hbel hsz; have H2 := Lib.hid (show Blk w2 w.heap.size 41 [v] ∧ Blk w2 w1.heap.size 3 [.int .i64 who] ∧ w.heap.size ≤ w1.heap.size ∧ Below w.heap.size w w2 from ⟨H1.out.1.below hbel H1.out.1.lt, hb, H1.out.2.size, below_thn H1.out.2 hbel (Nat.le_refl _)⟩); clear hb hbel hsz))
  go_ret
  exact ⟨_, _, rfl, H2.out.1, H2.out.2.1, Nat.le_refl _, H2.out.2.2.1, H2.out.2.2.2⟩

def mayRB (p : PmD) (n : Int) (ls : List (Int × Int)) : Bool := okB p && ((n == p.o || p.r.any (n == ·)) || (userB n && (grpL ls n).any (fun g => p.g.any (g == ·))))


theorem cell_own {X Y : World} {row : Option Nat} {p : Addr} {v : Value} (h : X.cell? p = some v) (hg : X.grownBy Y row) (hr : ∀ r, row = some r → ∃ o : Obj, X.heap[r]? = some o ∧ o.isCells = false) : Y.cell? p = some v := by
  rw [World.cell?_of_block (w := X) (hg.block p.block (block_of_cell h) (fun e => ?_))]
  · exact h
  · obtain ⟨o, ho, hc⟩ := hr p.block e.symm
    rw [World.cell?, ho] at h
    cases o <;> first | (have h' : (none : Option Value) = some v := h; cases h'; done) | (cases hc; done)
theorem Sl.own {X Y : World} {row : Option Nat} {v : Value} {xs : List Value} (h : Sl X v xs) (hg : X.grownBy Y row) (hr : ∀ r, row = some r → ∃ o : Obj, X.heap[r]? = some o ∧ o.isCells = false) : Sl Y v xs := by
  rcases h with h | ⟨ad, c, h1, h2, h3, h4⟩
  · exact .inl h
  · exact .inr ⟨ad, c, h1, h2, h3, fun i u hu => cell_own (h4 i u hu) hg hr⟩
theorem blk_own {X Y : World} {row : Option Nat} {g : Nat} {e : TypeId} {xs : List Value} (h : Blk X g e xs) (hg : X.grownBy Y row) (hr : ∀ r, row = some r → ∃ o : Obj, X.heap[r]? = some o ∧ o.isCells = false) : Blk Y g e xs := by
  unfold Blk at *
  rw [hg.block g (lt_of_block h) (fun e' => by
    obtain ⟨o, ho, hc⟩ := hr g e'.symm
    rw [h] at ho; cases ho; cases hc)]
  exact h
theorem blk_cells {w : World} {g : Nat} {e : TypeId} {xs : List Value} (h : Blk w g e xs) : ∀ o, w.heap[g]? = some o → o.isCells = true := fun o ho => by
  unfold Blk at h; rw [h] at ho; cases ho; rfl
theorem keepsFrom_ch {W W' : World} {B rb : Nat} {e : TypeId} {xs : List Value} (hc : Ch (· = rb) W W') (hb : Blk W rb e xs) : KeepsFrom B W W' :=
  ⟨hc.size, fun k o _ hk ho => (hc.block k (Array.getElem?_eq_some_iff.1 hk).1 (fun e => by
    have h1 : k = rb := e
    subst h1
    rw [blk_cells hb o hk] at ho; cases ho)).trans hk⟩
theorem zip1 (p : Tmp) (u : Value) : (#[p] : Array Tmp).zip #[u] = #[(p, u)] := by simp
theorem foldl1 {α β : Type} (f : β → α → β) (b : β) (x : α) : (#[x] : Array α).foldl f b = f b x := by simp
theorem grpT_lt {bw : Nat} {who : Int} {v : Value} {ls : List (Int × Int)} {w : World} (h : GrpW bw who v ls w) {x : Int} {k : Nat} (hk : GrpT bw v ls.length x k) : k < w.heap.size := by
  rcases hk with rfl | ⟨h0, hk⟩
  · exact h.box.lt
  · obtain ⟨ao, c, h1, h2, h3, h4⟩ := h.sl
    obtain ⟨b, o, rfl, h6, h7⟩ := h4 h0
    rw [h1] at hk
    have e : some b = some k := hk
    cases e; exact h6
/-- between two rounds -/
structure ReadI (w0 : World) (p : PmD) (u : Bool) (n : Int) (vr vq vg : Value) (rb wb : Nat) (pre : List Int) (W : World) : Prop where
  frb : Blk W rb 4 [.bool false]
  fp : Blk W w0.heap.size 24 (pmC p.o p.e vr vq vg)
  fwb : Blk W wb 3 [.int .i64 n]
  fs : PmS W p vr vq vg
  fbel : Below w0.heap.size w0 W
  fno : ∀ g ∈ pre, (u && p.g.any (g == ·)) = false
def ReadX (w0 : World) (p : PmD) (u : Bool) (n : Int) (rb : Nat) (c : Code) (pre : List Int) (W : World) : Prop :=
  c = .ret ∧ Blk W rb 4 [.bool true] ∧ Below w0.heap.size w0 W ∧ ∃ g ∈ pre, (u && p.g.any (g == ·)) = true
theorem readI_own {w0 : World} {p : PmD} {u : Bool} {n : Int} {vr vq vg : Value} {rb wb B : Nat} (hB : w0.heap.size ≤ B) : OwnFrom B (ReadI w0 p u n vr vq vg rb wb) := fun _ _ _ _ hs hg hr =>
  have hr' := fun r e => (hr r e).2
  ⟨blk_own hs.frb hg hr', blk_own hs.fp hg hr', blk_own hs.fwb hg hr', ⟨hs.fs.1.own hg hr', hs.fs.2.1.own hg hr', hs.fs.2.2.own hg hr'⟩, hs.fbel.grown hg hs.fbel.size (fun k e => Nat.le_trans hB (hr k e).1), hs.fno⟩
theorem readX_own {w0 : World} {p : PmD} {u : Bool} {n : Int} {rb B : Nat} (hB : w0.heap.size ≤ B) (c : Code) : OwnFrom B (ReadX w0 p u n rb c) := fun _ _ _ _ hs hg hr =>
  ⟨hs.1, blk_own hs.2.1 hg (fun r e => (hr r e).2), hs.2.2.1.grown hg hs.2.2.1.size (fun k e => Nat.le_trans hB (hr k e).1), hs.2.2.2⟩


set_option maxRecDepth 100000 in
set_option maxHeartbeats 8000000 in
theorem mayRead_any (p : PmD) (n : Int) (ls : List (Int × Int)) (vr vq vg vm : Value) (w : World) (hp : PmS w p vr vq vg) (hm : SlP w vm .i64 .i64 ls) :
    Calls Try.prog 22 #[.agg (pmC p.o p.e vr vq vg).toArray, .int .i64 n, vm] w (fun e w' => e = .returned (.bool (mayRB p n ls)) ∧ Below w.heap.size w w') := by
  obtain ⟨ma, mc, rfl, -⟩ := id hm
  obtain ⟨R, hR⟩ : ∃ R, mayRB p n ls = R := ⟨_, rfl⟩
  rw [hR]
  obtain ⟨b, hb⟩ : ∃ b, okB p = b := ⟨_, rfl⟩
  obtain ⟨z, hz⟩ : ∃ z, (n == p.o) = z := ⟨_, rfl⟩
  obtain ⟨m, hmm⟩ : ∃ m, p.r.any (n == ·) = m := ⟨_, rfl⟩
  obtain ⟨u, hu⟩ : ∃ u, userB n = u := ⟨_, rfl⟩
  have hR2 : R = (b && ((z || m) || (u && (grpL ls n).any (fun g => p.g.any (g == ·))))) := by rw [← hR, ← hb, ← hz, ← hmm, ← hu]; rfl
  obtain ⟨ra, rc, rfl, -⟩ := hp.1.nums
  obtain ⟨qa, qc, rfl, -⟩ := hp.2.1.nums
  obtain ⟨ga, gc, rfl, -⟩ := hp.2.2.nums
  obtain ⟨o, pe, pr, pq, pg⟩ := p
  simp only at hp hb hz hmm hR2 ⊢
  generalize pr.length = rl at hp ⊢
  generalize pq.length = ql at hp ⊢
  generalize pg.length = gl at hp ⊢
  generalize hls : ls.length = ml at hm ⊢
  have HLS := Lib.hid hls
  have HB := Lib.hid hb
  have HRR := Lib.hid hR2
  have HM := Lib.hid (And.intro hmm (And.intro hu hm))
  have H0 := Lib.hid (show PmS w ⟨o, pe, pr, pq, pg⟩ (Value.slice ra rl rc) (Value.slice qa ql qc) (Value.slice ga gl gc) ∧ Below w.heap.size w w from ⟨hp, Below.refl _ _⟩)
  have hg := (by kernel_rfl : Try.prog.funcs[22]? = some Try.f22)
  refine callsIn_wide.1 (callsIn_of_wp_marks (F := Fence.wide) (n := 9) (fn := Try.f22) hg rfl trivial (wpIn_wide.2 ?_) rfl)
  simp only [Try.ntmps22, List.size_toArray, List.length_cons, List.length_nil, Nat.reduceAdd, Nat.reduceSub, Array.replicate_succ, Array.replicate_zero, List.push_toArray, List.append_toArray, List.nil_append, List.cons_append]
  clear hg hp hm hb hmm hu hR hR2 hls
  go_wp2_with (first
    | ((with_reducible refine wpList_box_blk w rfl 24 (.tmp 0) rfl (pmC o pe (Value.slice ra rl rc) (Value.slice qa ql qc) (Value.slice ga gl gc)) rfl ?_); intro a1 hb hbel hsz; have HA2 := Lib.hid (show PmS a1 ⟨o, pe, pr, pq, pg⟩ (Value.slice ra rl rc) (Value.slice qa ql qc) (Value.slice ga gl gc) ∧ Below w.heap.size w a1 ∧ Blk a1 w.heap.size 24 (pmC o pe (Value.slice ra rl rc) (Value.slice qa ql qc) (Value.slice ga gl gc)) from ⟨H0.out.1.below hbel, below_thn H0.out.2 hbel (Nat.le_refl _), hb⟩); clear hb hbel hsz)
    | ((with_reducible refine wpList_box_val a1 rfl 3 (.tmp 1) rfl (.int .i64 n) rfl rfl ?_); intro w2 hb hbel hsz; have H2 := Lib.hid (show PmS w2 ⟨o, pe, pr, pq, pg⟩ (Value.slice ra rl rc) (Value.slice qa ql qc) (Value.slice ga gl gc) ∧ Below w.heap.size w w2 ∧ Blk w2 w.heap.size 24 (pmC o pe (Value.slice ra rl rc) (Value.slice qa ql qc) (Value.slice ga gl gc)) ∧ Blk w2 a1.heap.size 3 ([.int .i64 n]) from ⟨HA2.out.1.below hbel, below_thn HA2.out.2.1 hbel (Nat.le_refl _), HA2.out.2.2.below hbel HA2.out.2.2.lt, hb⟩); clear hb hbel hsz)
    | ((with_reducible refine wpList_alloc_one w2 rfl 4 rfl (.bool false) rfl Try.zeroB ?_); intro w3 hb hbel hsz; have H3 := Lib.hid (show PmS w3 ⟨o, pe, pr, pq, pg⟩ (Value.slice ra rl rc) (Value.slice qa ql qc) (Value.slice ga gl gc) ∧ Below w.heap.size w w3 ∧ Blk w3 w.heap.size 24 (pmC o pe (Value.slice ra rl rc) (Value.slice qa ql qc) (Value.slice ga gl gc)) ∧ Blk w3 a1.heap.size 3 ([.int .i64 n]) ∧ Blk w3 w2.heap.size 4 ([.bool false]) from ⟨H2.out.1.below hbel, below_thn H2.out.2.1 hbel (Nat.le_refl _), H2.out.2.2.1.below hbel H2.out.2.2.1.lt, H2.out.2.2.2.below hbel H2.out.2.2.2.lt, hb⟩); clear hb hbel hsz)
    | (with_reducible refine wpList_load_any rfl 24 (.tmp 3) rfl w.heap.size 0 rfl (pmC o pe (Value.slice ra rl rc) (Value.slice qa ql qc) (Value.slice ga gl gc)) _ (rangeW_blk H3.out.2.2.1) Try.underlying24 rfl (pmC_info _ _ _ _ _) ?_))
  refine (check_of ⟨o, pe, pr, pq, pg⟩ b HB.out _ _ _ w3 H3.out.1).mono ?_
  rintro e' w4 ⟨rfl, hb⟩
  have H4 := Lib.hid (show PmS w4 ⟨o, pe, pr, pq, pg⟩ (Value.slice ra rl rc) (Value.slice qa ql qc) (Value.slice ga gl gc) ∧ Below w.heap.size w w4 ∧ Blk w4 w.heap.size 24 (pmC o pe (Value.slice ra rl rc) (Value.slice qa ql qc) (Value.slice ga gl gc)) ∧ Blk w4 a1.heap.size 3 ([.int .i64 n]) ∧ Blk w4 w2.heap.size 4 ([.bool false]) from ⟨H3.out.1.below hb, below_thn H3.out.2.1 hb (Nat.le_refl _), H3.out.2.2.1.below hb H3.out.2.2.1.lt, H3.out.2.2.2.1.below hb H3.out.2.2.2.1.lt, H3.out.2.2.2.2.below hb H3.out.2.2.2.2.lt⟩)
  clear hb
  cases b
  · have HE := Lib.hid (show R = false from HRR.out)
    have r0 := H4.out.2.2.2.2.cell 0
    have r1 := H4.out.2.2.2.2.free 0
    simp only [List.getElem?_cons_zero] at r0
    go_wp2_with fail
    have H9 := Lib.hid (show Blk (w4.setCell ⟨w2.heap.size, 0, none⟩ (.bool false)) w2.heap.size 4 [.bool false] ∧ Below w.heap.size w (w4.setCell ⟨w2.heap.size, 0, none⟩ (.bool false)) from ⟨H4.out.2.2.2.2.set 0 (.bool false), below_ch H4.out.2.1 (Ch.set w4 ⟨w2.heap.size, 0, none⟩ (.bool false)) (Nat.le_refl _) (fun k hk => by have e : k = w2.heap.size := hk; have := H2.out.2.1.size; omega)⟩)
    refine ⟨.bool false, (by have hcc := H9.out.1.cell 0; simp only [List.getElem?_cons_zero] at hcc; simp [results, Try.results22, go_sem, hcc]), by rw [HE.out], H9.out.2⟩
  · have hbz := hz
    have c0 := H4.out.2.2.1.cell 0
    have c2 := H4.out.2.2.1.cell 2
    simp only [pmC, List.getElem?_cons_zero, List.getElem?_cons_succ] at c0 c2
    have k0 := H4.out.2.2.2.1.cell 0
    simp only [List.getElem?_cons_zero] at k0
    cases z
    rotate_left
    · have HE := Lib.hid (show R = true from HRR.out)
      have r0 := H4.out.2.2.2.2.cell 0
      have r1 := H4.out.2.2.2.2.free 0
      simp only [List.getElem?_cons_zero] at r0
      go_wp2_with fail
      have H9 := Lib.hid (show Blk (w4.setCell ⟨w2.heap.size, 0, none⟩ (.bool true)) w2.heap.size 4 [.bool true] ∧ Below w.heap.size w (w4.setCell ⟨w2.heap.size, 0, none⟩ (.bool true)) from ⟨H4.out.2.2.2.2.set 0 (.bool true), below_ch H4.out.2.1 (Ch.set w4 ⟨w2.heap.size, 0, none⟩ (.bool true)) (Nat.le_refl _) (fun k hk => by have e : k = w2.heap.size := hk; have := H2.out.2.1.size; omega)⟩)
      refine ⟨.bool true, (by have hcc := H9.out.1.cell 0; simp only [List.getElem?_cons_zero] at hcc; simp [results, Try.results22, go_sem, hcc]), by rw [HE.out], H9.out.2⟩
    have HCT := Lib.hid (contains_any n _ pr w4 H4.out.1.1)
    rw [HM.out.1] at HCT
    have r0 := H4.out.2.2.2.2.cell 0
    have r1 := H4.out.2.2.2.2.free 0
    simp only [List.getElem?_cons_zero] at r0
    go_wp2_with fail
    refine HCT.out.mono ?_
    rintro e' w5 ⟨rfl, rfl⟩
    clear r0 r1 hbz
    cases m
    rotate_left
    · have HE := Lib.hid (show R = true from HRR.out)
      clear c0 c2 k0
      have r0 := H4.out.2.2.2.2.cell 0
      have r1 := H4.out.2.2.2.2.free 0
      simp only [List.getElem?_cons_zero] at r0
      go_wp2_with fail
      have H9 := Lib.hid (show Blk (w4.setCell ⟨w2.heap.size, 0, none⟩ (.bool true)) w2.heap.size 4 [.bool true] ∧ Below w.heap.size w (w4.setCell ⟨w2.heap.size, 0, none⟩ (.bool true)) from ⟨H4.out.2.2.2.2.set 0 (.bool true), below_ch H4.out.2.1 (Ch.set w4 ⟨w2.heap.size, 0, none⟩ (.bool true)) (Nat.le_refl _) (fun k hk => by have e : k = w2.heap.size := hk; have := H2.out.2.1.size; omega)⟩)
      refine ⟨.bool true, (by have hcc := H9.out.1.cell 0; simp only [List.getElem?_cons_zero] at hcc; simp [results, Try.results22, go_sem, hcc]), by rw [HE.out], H9.out.2⟩
    have HE := Lib.hid (show R = (u && (grpL ls n).any (fun g => pg.any (g == ·))) from HRR.out)
    go_wp2_with fail
    refine (groups_any (.slice ma ml mc) rfl n w4).mono ?_
    rintro e' w5 ⟨bl, bw, rfl, hbl, hbw, hge, hgw, hb⟩
    have H5 := Lib.hid (show PmS w5 ⟨o, pe, pr, pq, pg⟩ (Value.slice ra rl rc) (Value.slice qa ql qc) (Value.slice ga gl gc) ∧ Below w.heap.size w w5 ∧ Blk w5 w.heap.size 24 (pmC o pe (Value.slice ra rl rc) (Value.slice qa ql qc) (Value.slice ga gl gc)) ∧ Blk w5 a1.heap.size 3 ([.int .i64 n]) ∧ Blk w5 w2.heap.size 4 ([.bool false]) from ⟨H4.out.1.below hb, below_thn H4.out.2.1 hb (Nat.le_refl _), H4.out.2.2.1.below hb H4.out.2.2.1.lt, H4.out.2.2.2.1.below hb H4.out.2.2.2.1.lt, H4.out.2.2.2.2.below hb H4.out.2.2.2.2.lt⟩)
    have HG := Lib.hid (show Blk w5 bl 41 [.slice ma ml mc] ∧ GrpW bw n (.slice ma ml mc) ls w5 from ⟨hbl, hbw, HM.out.2.2.below (below_thn H4.out.2.1 hb (Nat.le_refl _))⟩)
    clear hbl hbw hge hgw hb c0 c2 k0
    go_wp2_with fail
    have HRB := Lib.hid (show w2.heap.size < w5.heap.size ∧ a1.heap.size < w2.heap.size ∧ w.heap.size < a1.heap.size from ⟨H5.out.2.2.2.2.lt, H2.out.2.2.2.lt, HA2.out.2.2.lt⟩)
    obtain ⟨rbb, hrbb⟩ : ∃ k, w2.heap.size = k := ⟨_, rfl⟩
    obtain ⟨wbb, hwbb⟩ : ∃ k, a1.heap.size = k := ⟨_, rfl⟩
    have HI0 := Lib.hid (show ReadI w ⟨o, pe, pr, pq, pg⟩ u n (Value.slice ra rl rc) (Value.slice qa ql qc) (Value.slice ga gl gc) rbb wbb [] w5 from by rw [← hrbb, ← hwbb]; exact ⟨H5.out.2.2.2.2, H5.out.2.2.1, H5.out.2.2.2.1, H5.out.1, H5.out.2.1, fun g hg => by cases hg⟩)
    rw [hrbb, hwbb] at HRB ⊢
    refine (wpIn_wide (n := 9)).1 ?_
    refine wpIn_range_mem (F := Fence.wide) rfl (by omega) (gf := 55) (lb := #[.pointer (some ⟨bl, 0, none⟩), .pointer (some ⟨bw, 0, none⟩)]) rfl trivial (enters_of Try.func55 (by kernel_rfl) rfl) (groups_mem n bl bw (.slice ma ml mc) ls w5 HG.out.1 HG.out.2) (Below.refl _ _) (fun _ => rfl)
      (fun pre x sz W k _ hk => .inl (grpT_lt HG.out.2 hk)) (fun _ _ _ _ _ _ _ _ _ => trivial) (ReadI w ⟨o, pe, pr, pq, pg⟩ u n (Value.slice ra rl rc) (Value.slice qa ql qc) (Value.slice ga gl gc) rbb wbb) (ReadX w ⟨o, pe, pr, pq, pg⟩ u n rbb) (readI_own (Nat.le_of_lt (by have := HRB.out; omega))) (fun c => readX_own (Nat.le_of_lt (by have := HRB.out; omega)) c) HI0.out
      (fun x => { tmps := #[.agg (pmC o pe (Value.slice ra rl rc) (Value.slice qa ql qc) (Value.slice ga gl gc)).toArray, .int .i64 n, .slice ma ml mc, .pointer (some ⟨w.heap.size, 0, none⟩), .pointer (some ⟨wbb, 0, none⟩), undef, .pointer (some ⟨rbb, 0, none⟩), .int .i64 x, .agg (pmC o pe (Value.slice ra rl rc) (Value.slice qa ql qc) (Value.slice ga gl gc)).toArray, .int .i64 0, .bool false, .int .i64 n, .pointer (some ⟨w.heap.size, 0, none⟩), .int .i64 o, .bool false, .bool false, .pointer (some ⟨w.heap.size, 2, none⟩), .slice ra rl rc, .int .i64 n, .bool false, .bool false, .slice ma ml mc, .int .i64 n, .func (.func 55) #[] #[.pointer (some ⟨bl, 0, none⟩), .pointer (some ⟨bw, 0, none⟩)], .int .i64 x, undef, undef, undef, undef, undef, undef, undef, undef], defers := [] })
      ?assign ?body ?done ?stop
    case assign =>
      rintro l x W K hK
      rw [zip1, foldl1]
      simp only [List.setIfInBounds_toArray, List.set_cons_zero, List.set_cons_succ]
      gi_wp2
      exact hK
    case body =>
      rintro l pre x W0' W hl - hI0 hI hgr hpr
      have HI := Lib.hid hI
      have HU := Lib.hid ((WideF.round l).calls (n := 6) (user_any n W))
      rw [HM.out.2.1] at HU
      obtain ⟨cg, hcg⟩ : ∃ b, pg.any (x == ·) = b := ⟨_, rfl⟩
      have HCG := Lib.hid ((WideF.round l).calls (n := 6) (contains_any x _ pg W hI.fs.2.2))
      rw [hcg] at HCG
      have HCE := Lib.hid hcg
      have k0 := hI.fwb.cell 0
      have c4 := hI.fp.cell 4
      have r0 := hI.frb.cell 0
      have r1 := hI.frb.free 0
      simp only [pmC, List.getElem?_cons_zero, List.getElem?_cons_succ] at c4 k0 r0
      clear hI hI0 hgr hpr hcg
      cases u
      · gi_wp2_with fail
        refine ⟨trivial, ?_⟩
        refine HU.out.mono ?_
        rintro e w' ⟨rfl, rfl⟩
        gi_wp2_with fail
        refine ⟨trivial, ?_⟩
        gi_wp2_with fail
        refine ⟨KeepsFrom.refl _ _, fun _ _ => rfl, ⟨HI.out.frb, HI.out.fp, HI.out.fwb, HI.out.fs, HI.out.fbel, fun g hg => rfl⟩⟩
      · gi_wp2_with fail
        refine ⟨trivial, ?_⟩
        refine HU.out.mono ?_
        rintro e w' ⟨rfl, rfl⟩
        gi_wp2_with fail
        refine ⟨trivial, ?_⟩
        refine HCG.out.mono ?_
        rintro e w' ⟨rfl, rfl⟩
        cases cg
        · gi_wp2_with fail
          refine ⟨KeepsFrom.refl _ _, fun _ _ => rfl, ⟨HI.out.frb, HI.out.fp, HI.out.fwb, HI.out.fs, HI.out.fbel, fun g hg => ?_⟩⟩
          rcases List.mem_append.1 hg with hg | hg
          · exact HI.out.fno g hg
          · obtain rfl : g = x := by simpa using hg
            show (true && pg.any (g == ·)) = false
            rw [HCE.out]; rfl
        · gi_wp2_with fail
          have hc := Ch.set W ⟨rbb, 0, none⟩ (.bool true)
          refine ⟨keepsFrom_ch hc HI.out.frb, rfl, HI.out.frb.set 0 (.bool true), below_ch HI.out.fbel hc (Nat.le_refl _) (fun k hk => by have e : k = rbb := hk; have := HRB.out; omega), x, by simp, ?_⟩
          show (true && pg.any (x == ·)) = true
          rw [HCE.out]; rfl
    case done =>
      rintro D xs W hD rfl hI hK
      have HF := Lib.hid (show R = false by
        rw [HE.out]
        cases u
        · rfl
        · rw [Bool.true_and, List.any_eq_false]
          intro g hg
          have := hI.fno g hg
          rw [Bool.true_and] at this
          rw [this]; simp)
      have HI := Lib.hid hI
      have HD := Lib.hid hK
      have r0 := hI.frb.cell 0
      have r1 := hI.frb.free 0
      simp only [List.getElem?_cons_zero] at r0
      clear hI hK
      go_wp2_with fail
      have hc := Ch.set W ⟨rbb, 0, none⟩ (.bool false)
      have hK2 : (W.setCell ⟨rbb, 0, none⟩ (.bool false)).heap[D]? = some (.deferred (some [])) := (hc.block D (lt_of_block HD.out) (fun e => by have e : D = rbb := e; have := HRB.out; omega)).trans HD.out
      refine ⟨by simp, .inl ⟨_, _, rfl, run_takeDeferred hK2, ?_⟩⟩
      have hb5 := blk_own (HI.out.frb.set 0 (.bool false)) (grownBy_putObj' (W.setCell ⟨rbb, 0, none⟩ (.bool false)) D (.deferred none)) (fun r e => by cases e; exact ⟨_, hK2, rfl⟩)
      have hb6 : Below w.heap.size w (W.setCell ⟨rbb, 0, none⟩ (.bool false)) := below_ch HI.out.fbel hc (Nat.le_refl _) (fun k hk => by have e : k = rbb := hk; have := HRB.out; omega)
      refine ⟨.bool false, (by have hcc := hb5.cell 0; simp only [List.set_cons_zero, List.getElem?_cons_zero] at hcc; simp [results, Try.results22, go_sem, hcc]), by rw [HF.out], ?_⟩
      exact hb6.grown (grownBy_putObj' _ D (.deferred none)) hb6.size (fun k e => by cases e; have := HRB.out; omega)
    case stop =>
      rintro D c pre W hD hSp ⟨rfl, hrb, hbel, g, hg, hgt⟩ hK
      have HF := Lib.hid (show R = true by
        rw [HE.out]
        have h1 : u = true := by cases u with
          | true => rfl
          | false => cases hgt
        subst h1
        rw [Bool.true_and, List.any_eq_true]
        exact ⟨g, hSp.subset hg, hgt⟩)
      have HD := Lib.hid hK
      have HB9 := Lib.hid (And.intro hrb hbel)
      clear hSp hg hgt hK hrb hbel
      refine wpIn_wide.2 ?_
      go_wp2_with fail
      refine ⟨by simp, .inl ⟨_, _, rfl, run_takeDeferred HD.out, ?_⟩⟩
      have hb5 := blk_own HB9.out.1 (grownBy_putObj' W D (.deferred none)) (fun r e => by cases e; exact ⟨_, HD.out, rfl⟩)
      refine ⟨.bool true, (by have hcc := hb5.cell 0; simp only [List.getElem?_cons_zero] at hcc; simp [results, Try.results22, go_sem, hcc]), by rw [HF.out], ?_⟩
      exact HB9.out.2.grown (grownBy_putObj' _ D (.deferred none)) HB9.out.2.size (fun k e => by cases e; have := HRB.out; omega)


end Go.Proofs.Ytampheimonmggaa
