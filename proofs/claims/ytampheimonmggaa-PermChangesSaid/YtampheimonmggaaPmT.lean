/-
  perm.Next, the law's kind and do, walked. Conditions: lengths within the form's reach.
-/
import Derived.Test.YtampheimonmggaaPmS
import Derived.Test.YtampheimonmggaaPmQ
namespace Go.Proofs.Ytampheimonmggaa
open Go Go.RowKit Go.Sort
set_option linter.unusedSimpArgs false
set_option linter.unusedVariables false

theorem run_callFunc36 (args : Array Value) (w : World) : Sem.run Try.prog (callFunc 36 args) w = .ok (.enter 36 args) w :=
  run_callFunc_body Try.func36 (by kernel_rfl) (by kernel_rfl) args w
def kindF (k : Int) : Int := k % 6
theorem tmod6 (k : Int) : -6 < Int.tmod k 6 ∧ Int.tmod k 6 < 6 ∧ (Int.tmod k 6 + 6).tmod 6 = k % 6 := by
  rcases Int.le_total 0 k with h | h
  · rw [Int.tmod_eq_emod_of_nonneg h, Int.tmod_eq_emod_of_nonneg (by omega)]
    omega
  · obtain ⟨m, rfl⟩ : ∃ m, k = -m := ⟨-k, by omega⟩
    rw [Int.neg_tmod, Int.tmod_eq_emod_of_nonneg (show 0 ≤ m by omega), Int.tmod_eq_emod_of_nonneg (by omega)]
    omega
theorem act3C_info (a : Act3) : (Try.prog.info? 35).map (·.size) = some (act3C a).length := by kernel_rfl
theorem act3C_one (a : Act3) : ∀ v ∈ act3C a, v.oneCell' = true := fun v hv => by
  simp only [act3C, List.mem_cons, List.not_mem_nil, or_false] at hv
  rcases hv with rfl | rfl | rfl <;> rfl

theorem kind_any (a : Act3) (w : World) (ha : Act3Ok a) : Calls Try.prog 16 #[.agg (act3C a).toArray] w (fun e w' => e = .returned (.int .i64 (kindF a.k)) ∧ Below w.heap.size w w') := by
  obtain ⟨k, b, n⟩ := a
  obtain ⟨K, hK⟩ : ∃ K, kindF k = K := ⟨_, rfl⟩
  have HK := Lib.hid (show (Int.tmod k 6 + 6).tmod 6 = K by rw [← hK]; exact (tmod6 k).2.2)
  rw [hK]
  have hw : IntKind.i64.wrap (Int.tmod k 6 + 6) = Int.tmod k 6 + 6 := by rw [IntKind.wrap_i64]; have := tmod6 k; omega
  clear hK ha
  go_enter Try.func16, Try.ntmps16
  go_wp2_with ((with_reducible refine wpList_box_blk w rfl 35 (.tmp 0) rfl (act3C ⟨k, b, n⟩) rfl ?_); intro w1 hb hbel hsz; have c0 := hb.cell 0; simp only [act3C, List.getElem?_cons_zero] at c0; have H1 := Lib.hid hbel; clear hb hbel hsz)
  go_ret
  exact ⟨by rw [← HK.out]; simp, H1.out⟩


set_option maxRecDepth 100000 in
set_option maxHeartbeats 2000000 in
theorem pnext_any (p : PmD) (vr vq vg : Value) (w : World) (hp : PmS w p vr vq vg) (hl : PmL p) :
    Calls Try.prog 40 #[.agg (pmC p.o p.e vr vq vg).toArray] w (PermP w (turnR p (nextR p))) := by
  obtain ⟨⟨q, e⟩, hR⟩ : ∃ R, turnR p (nextR p) = R := ⟨_, rfl⟩
  have HP := Lib.hid (And.intro hp (And.intro hl hR))
  rw [hR]
  obtain ⟨ra, rc, rfl, -⟩ := hp.1.nums
  obtain ⟨qa, qc, rfl, -⟩ := hp.2.1.nums
  obtain ⟨ga, gc, rfl, -⟩ := hp.2.2.nums
  obtain ⟨o, pe, pr, pq, pg⟩ := p
  simp only at HP ⊢
  generalize pr.length = rl at HP ⊢
  generalize pq.length = ql at HP ⊢
  generalize pg.length = gl at HP ⊢
  clear hp hl hR
  go_enter Try.func40, Try.ntmps40
  have H0 := Lib.hid (show PmS w ⟨o, pe, pr, pq, pg⟩ (Value.slice ra rl rc) (Value.slice qa ql qc) (Value.slice ga gl gc) ∧ Below w.heap.size w w from ⟨HP.out.1, Below.refl _ _⟩)
  go_wp2_with (first
    | ((with_reducible refine wpList_box_blk w rfl 24 (.tmp 0) rfl (pmC o pe (Value.slice ra rl rc) (Value.slice qa ql qc) (Value.slice ga gl gc)) rfl ?_); intro a1 hb hbel hsz; have HA2 := Lib.hid (show PmS a1 ⟨o, pe, pr, pq, pg⟩ (Value.slice ra rl rc) (Value.slice qa ql qc) (Value.slice ga gl gc) ∧ Below w.heap.size w a1 ∧ Blk a1 w.heap.size 24 (pmC o pe (Value.slice ra rl rc) (Value.slice qa ql qc) (Value.slice ga gl gc)) from ⟨H0.out.1.below hbel, below_thn H0.out.2 hbel (Nat.le_refl _), hb⟩); clear hb hbel hsz)
    | ((with_reducible refine wpList_alloc_blk a1 rfl 24 rfl (pmC 0 0 (.slice none 0 0) (.slice none 0 0) (.slice none 0 0)) Try.zeroPm ?_); intro w3 hb hbel hsz; have H3 := Lib.hid (show PmS w3 ⟨o, pe, pr, pq, pg⟩ (Value.slice ra rl rc) (Value.slice qa ql qc) (Value.slice ga gl gc) ∧ Below w.heap.size w w3 ∧ Blk w3 w.heap.size 24 (pmC o pe (Value.slice ra rl rc) (Value.slice qa ql qc) (Value.slice ga gl gc)) ∧ Blk w3 a1.heap.size 24 (pmC 0 0 (.slice none 0 0) (.slice none 0 0) (.slice none 0 0)) ∧ w.heap.size ≤ a1.heap.size from ⟨HA2.out.1.below hbel, below_thn HA2.out.2.1 hbel (Nat.le_refl _), HA2.out.2.2.below hbel HA2.out.2.2.lt, hb, HA2.out.2.1.size⟩); clear hb hbel hsz)
    | (with_reducible refine wpList_load_any rfl 24 (.tmp 1) rfl w.heap.size 0 rfl (pmC o pe (Value.slice ra rl rc) (Value.slice qa ql qc) (Value.slice ga gl gc)) _ (rangeW_blk H3.out.2.2.1) Try.underlying24 rfl (pmC_info _ _ _ _ _) ?_))
  have h1 := turn_any ⟨o, pe, pr, pq, pg⟩ (nextR ⟨o, pe, pr, pq, pg⟩) 36 [] _ _ _ w3 H3.out.1 HP.out.2.1 run_callFunc36 (fun hok wz g B xr xq xg hbl hge hB hab hblk hps hoff => next_any ⟨o, pe, pr, pq, pg⟩ g B xr xq xg wz hblk hps hoff hab (okB_parts hok HP.out.2.1).2.1 (okB_parts hok HP.out.2.1).2.2)
  rw [HP.out.2.2] at h1
  refine (calls_perm h1).mono ?_
  clear h1
  rintro e' y4 ⟨x3r, x3q, x3g, rfl, hs, hb, hab⟩
  obtain ⟨x3a0, x3c0, rfl, -⟩ := hs.1.shape
  obtain ⟨x3a1, x3c1, rfl, -⟩ := hs.2.1.shape
  obtain ⟨x3a2, x3c2, rfl, -⟩ := hs.2.2.shape
  generalize (ofK .i64 q.r).length = x3l0 at hs hab ⊢
  generalize (ofK .i64 q.q).length = x3l1 at hs hab ⊢
  generalize (ofK .i64 q.g).length = x3l2 at hs hab ⊢
  have HY5 := Lib.hid (show PmS y4 ⟨o, pe, pr, pq, pg⟩ (Value.slice ra rl rc) (Value.slice qa ql qc) (Value.slice ga gl gc) ∧ Below w.heap.size w y4 ∧ Blk y4 w.heap.size 24 (pmC o pe (Value.slice ra rl rc) (Value.slice qa ql qc) (Value.slice ga gl gc)) ∧ Blk y4 a1.heap.size 24 (pmC 0 0 (.slice none 0 0) (.slice none 0 0) (.slice none 0 0)) ∧ w.heap.size ≤ a1.heap.size ∧ PmS y4 q (Value.slice x3a0 x3l0 x3c0) (Value.slice x3a1 x3l1 x3c1) (Value.slice x3a2 x3l2 x3c2) ∧ AbvS w3.heap.size (Value.slice x3a0 x3l0 x3c0) (Value.slice x3a1 x3l1 x3c1) (Value.slice x3a2 x3l2 x3c2) from ⟨H3.out.1.below hb, below_thn H3.out.2.1 hb (Nat.le_refl _), H3.out.2.2.1.below hb H3.out.2.2.1.lt, H3.out.2.2.2.1.below hb H3.out.2.2.2.1.lt, H3.out.2.2.2.2, hs, hab⟩)
  clear hs hb hab
  have HOF := Lib.hid (show Off a1.heap.size (Value.slice x3a0 x3l0 x3c0) (Value.slice x3a1 x3l1 x3c1) (Value.slice x3a2 x3l2 x3c2) from off_abv HY5.out.2.2.2.2.2.2 H3.out.2.2.2.1.lt)
  go_wp2_with ((with_reducible refine wpList_store_blk y4 rfl 24 (.tmp 2) (.tmp 6) rfl a1.heap.size 24 (pmC 0 0 (.slice none 0 0) (.slice none 0 0) (.slice none 0 0)) (pmC q.o q.e (Value.slice x3a0 x3l0 x3c0) (Value.slice x3a1 x3l1 x3c1) (Value.slice x3a2 x3l2 x3c2)) HY5.out.2.2.2.1 rfl rfl rfl (pmC_info _ _ _ _ _) (pmC_one _ _ _ _ _ _ _ _ _ _ _) ?_); intro w9 hb hc hs; have H9 := Lib.hid (show Blk w9 a1.heap.size 24 (pmC q.o q.e (Value.slice x3a0 x3l0 x3c0) (Value.slice x3a1 x3l1 x3c1) (Value.slice x3a2 x3l2 x3c2)) ∧ Ch (· = a1.heap.size) y4 w9 from ⟨hb, hc⟩); clear hb hc hs)
  refine bodyPost_ret (results_cellTmp Try.results40 _ _ a1.heap.size _ _ rfl H9.out.1 _ Try.underlying24 rfl (pmC_info _ _ _ _ _) _ rfl) rfl ?_
  exact ⟨_, _, _, rfl, HY5.out.2.2.2.2.2.1.ch H9.out.2 HOF.out, below_ch HY5.out.2.1 H9.out.2 (Nat.le_refl _) (fun k hk => by have e : k = a1.heap.size := hk; have := HY5.out.2.2.2.2.1; omega), HY5.out.2.2.2.2.2.2.mono H3.out.2.1.size⟩


def doC (p : PmD) (a : Act3) : Int × PmD :=
  if kindF a.k = 0 then shareR p a.b a.n false else if kindF a.k = 1 then shareR p a.b a.n true else if kindF a.k = 2 then backR p a.b a.n else if kindF a.k = 3 then shareGR p a.b a.n else if kindF a.k = 4 then backGR p a.b a.n else nextR p
theorem kindF_cases (k : Int) : kindF k = 0 ∨ kindF k = 1 ∨ kindF k = 2 ∨ kindF k = 3 ∨ kindF k = 4 ∨ kindF k = 5 := by unfold kindF; omega


set_option maxRecDepth 100000 in
set_option maxHeartbeats 4000000 in
theorem do_any (p : PmD) (a : Act3) (vr vq vg : Value) (w : World) (hp : PmS w p vr vq vg) (hl : PmL p) (ha : Act3Ok a) :
    Calls Try.prog 13 #[.agg (pmC p.o p.e vr vq vg).toArray, .agg (act3C a).toArray] w (PermP w (turnR p (doC p a))) := by
  obtain ⟨⟨q, e⟩, hR⟩ : ∃ R, turnR p (doC p a) = R := ⟨_, rfl⟩
  have HP := Lib.hid (And.intro hp (And.intro hl (And.intro hR ha)))
  rw [hR]
  obtain ⟨ra, rc, rfl, -⟩ := hp.1.nums
  obtain ⟨qa, qc, rfl, -⟩ := hp.2.1.nums
  obtain ⟨ga, gc, rfl, -⟩ := hp.2.2.nums
  obtain ⟨o, pe, pr, pq, pg⟩ := p
  obtain ⟨ak, ab, an⟩ := a
  simp only at HP ⊢
  generalize pr.length = rl at HP ⊢
  generalize pq.length = ql at HP ⊢
  generalize pg.length = gl at HP ⊢
  have HK := Lib.hid (kind_any ⟨ak, ab, an⟩)
  have hkc := kindF_cases ak
  simp only at HK
  obtain ⟨K, hK⟩ : ∃ K, kindF ak = K := ⟨_, rfl⟩
  have HKE := Lib.hid hK
  rw [hK] at HK hkc
  have H0 := Lib.hid (show PmS w ⟨o, pe, pr, pq, pg⟩ (Value.slice ra rl rc) (Value.slice qa ql qc) (Value.slice ga gl gc) ∧ Below w.heap.size w w from ⟨HP.out.1, Below.refl _ _⟩)
  clear hp hl hR ha hK
  rcases hkc with rfl | rfl | rfl | rfl | rfl | rfl
  · have HD := Lib.hid (show turnR ⟨o, pe, pr, pq, pg⟩ (shareR ⟨o, pe, pr, pq, pg⟩ ab an false) = (q, e) from by have h := HP.out.2.2.1; unfold doC at h; simp only [HKE.out] at h; simpa using h)
    go_enter Try.func13, Try.ntmps13
    go_wp2_with (first
    | ((with_reducible refine wpList_box_blk w rfl 24 (.tmp 0) rfl (pmC o pe (Value.slice ra rl rc) (Value.slice qa ql qc) (Value.slice ga gl gc)) rfl ?_); intro a6 hb hbel hsz; have HA7 := Lib.hid (show PmS a6 ⟨o, pe, pr, pq, pg⟩ (Value.slice ra rl rc) (Value.slice qa ql qc) (Value.slice ga gl gc) ∧ Below w.heap.size w a6 ∧ Blk a6 w.heap.size 24 (pmC o pe (Value.slice ra rl rc) (Value.slice qa ql qc) (Value.slice ga gl gc)) from ⟨H0.out.1.below hbel, below_thn H0.out.2 hbel (Nat.le_refl _), hb⟩); clear hb hbel hsz)
    | ((with_reducible refine wpList_box_blk a6 rfl 35 (.tmp 1) rfl (act3C ⟨ak, ab, an⟩) rfl ?_); intro w2 hb hbel hsz; have H2 := Lib.hid (show PmS w2 ⟨o, pe, pr, pq, pg⟩ (Value.slice ra rl rc) (Value.slice qa ql qc) (Value.slice ga gl gc) ∧ Below w.heap.size w w2 ∧ Blk w2 w.heap.size 24 (pmC o pe (Value.slice ra rl rc) (Value.slice qa ql qc) (Value.slice ga gl gc)) ∧ Blk w2 a6.heap.size 35 (act3C ⟨ak, ab, an⟩) from ⟨HA7.out.1.below hbel, below_thn HA7.out.2.1 hbel (Nat.le_refl _), HA7.out.2.2.below hbel HA7.out.2.2.lt, hb⟩); clear hb hbel hsz)
    | ((with_reducible refine wpList_alloc_blk w2 rfl 24 rfl (pmC 0 0 (.slice none 0 0) (.slice none 0 0) (.slice none 0 0)) Try.zeroPm ?_); intro w3 hb hbel hsz; have H3 := Lib.hid (show PmS w3 ⟨o, pe, pr, pq, pg⟩ (Value.slice ra rl rc) (Value.slice qa ql qc) (Value.slice ga gl gc) ∧ Below w.heap.size w w3 ∧ Blk w3 w.heap.size 24 (pmC o pe (Value.slice ra rl rc) (Value.slice qa ql qc) (Value.slice ga gl gc)) ∧ Blk w3 a6.heap.size 35 (act3C ⟨ak, ab, an⟩) ∧ Blk w3 w2.heap.size 24 (pmC 0 0 (.slice none 0 0) (.slice none 0 0) (.slice none 0 0)) ∧ w.heap.size ≤ w2.heap.size from ⟨H2.out.1.below hbel, below_thn H2.out.2.1 hbel (Nat.le_refl _), H2.out.2.2.1.below hbel H2.out.2.2.1.lt, H2.out.2.2.2.below hbel H2.out.2.2.2.lt, hb, H2.out.2.1.size⟩); clear hb hbel hsz)
    | (with_reducible refine wpList_load_any rfl 35 (.tmp 3) rfl a6.heap.size 0 rfl (act3C ⟨ak, ab, an⟩) _ (rangeW_blk H3.out.2.2.2.1) Try.underlying35 rfl (act3C_info _) ?_))
    refine (HK.out w3 HP.out.2.2.2).mono ?_
    rintro e' w4 ⟨rfl, hb⟩
    have H4 := Lib.hid (show PmS w4 ⟨o, pe, pr, pq, pg⟩ (Value.slice ra rl rc) (Value.slice qa ql qc) (Value.slice ga gl gc) ∧ Below w.heap.size w w4 ∧ Blk w4 w.heap.size 24 (pmC o pe (Value.slice ra rl rc) (Value.slice qa ql qc) (Value.slice ga gl gc)) ∧ Blk w4 a6.heap.size 35 (act3C ⟨ak, ab, an⟩) ∧ Blk w4 w2.heap.size 24 (pmC 0 0 (.slice none 0 0) (.slice none 0 0) (.slice none 0 0)) ∧ w.heap.size ≤ w2.heap.size from ⟨H3.out.1.below hb, below_thn H3.out.2.1 hb (Nat.le_refl _), H3.out.2.2.1.below hb H3.out.2.2.1.lt, H3.out.2.2.2.1.below hb H3.out.2.2.2.1.lt, H3.out.2.2.2.2.1.below hb H3.out.2.2.2.2.1.lt, H3.out.2.2.2.2.2⟩)
    clear hb
    have a1 := H4.out.2.2.2.1.cell 1
    have a2 := H4.out.2.2.2.1.cell 2
    simp only [act3C, List.getElem?_cons_zero, List.getElem?_cons_succ] at a1 a2
    go_wp2_with (with_reducible refine wpList_load_any rfl 24 (.tmp 2) rfl w.heap.size 0 rfl (pmC o pe (Value.slice ra rl rc) (Value.slice qa ql qc) (Value.slice ga gl gc)) _ (rangeW_blk H4.out.2.2.1) Try.underlying24 rfl (pmC_info _ _ _ _ _) ?_)
    have h1 := share_any ⟨o, pe, pr, pq, pg⟩ ab an false _ _ _ w4 H4.out.1 HP.out.2.1
    rw [HD.out] at h1
    refine (calls_perm h1).mono ?_
    clear h1 a1 a2
    rintro e' y9 ⟨x8r, x8q, x8g, rfl, hs, hb, hab⟩
    obtain ⟨x8a0, x8c0, rfl, -⟩ := hs.1.shape
    obtain ⟨x8a1, x8c1, rfl, -⟩ := hs.2.1.shape
    obtain ⟨x8a2, x8c2, rfl, -⟩ := hs.2.2.shape
    generalize (ofK .i64 q.r).length = x8l0 at hs hab ⊢
    generalize (ofK .i64 q.q).length = x8l1 at hs hab ⊢
    generalize (ofK .i64 q.g).length = x8l2 at hs hab ⊢
    have HY10 := Lib.hid (show PmS y9 ⟨o, pe, pr, pq, pg⟩ (Value.slice ra rl rc) (Value.slice qa ql qc) (Value.slice ga gl gc) ∧ Below w.heap.size w y9 ∧ Blk y9 w.heap.size 24 (pmC o pe (Value.slice ra rl rc) (Value.slice qa ql qc) (Value.slice ga gl gc)) ∧ Blk y9 a6.heap.size 35 (act3C ⟨ak, ab, an⟩) ∧ Blk y9 w2.heap.size 24 (pmC 0 0 (.slice none 0 0) (.slice none 0 0) (.slice none 0 0)) ∧ w.heap.size ≤ w2.heap.size ∧ PmS y9 q (Value.slice x8a0 x8l0 x8c0) (Value.slice x8a1 x8l1 x8c1) (Value.slice x8a2 x8l2 x8c2) ∧ AbvS w4.heap.size (Value.slice x8a0 x8l0 x8c0) (Value.slice x8a1 x8l1 x8c1) (Value.slice x8a2 x8l2 x8c2) from ⟨H4.out.1.below hb, below_thn H4.out.2.1 hb (Nat.le_refl _), H4.out.2.2.1.below hb H4.out.2.2.1.lt, H4.out.2.2.2.1.below hb H4.out.2.2.2.1.lt, H4.out.2.2.2.2.1.below hb H4.out.2.2.2.2.1.lt, H4.out.2.2.2.2.2, hs, hab⟩)
    clear hs hb hab
    have HOF := Lib.hid (show Off w2.heap.size (Value.slice x8a0 x8l0 x8c0) (Value.slice x8a1 x8l1 x8c1) (Value.slice x8a2 x8l2 x8c2) from off_abv HY10.out.2.2.2.2.2.2.2 H4.out.2.2.2.2.1.lt)
    go_wp2_with ((with_reducible refine wpList_store_blk y9 rfl 24 (.tmp 4) (.tmp 21) rfl w2.heap.size 24 (pmC 0 0 (.slice none 0 0) (.slice none 0 0) (.slice none 0 0)) (pmC q.o q.e (Value.slice x8a0 x8l0 x8c0) (Value.slice x8a1 x8l1 x8c1) (Value.slice x8a2 x8l2 x8c2)) HY10.out.2.2.2.2.1 rfl rfl rfl (pmC_info _ _ _ _ _) (pmC_one _ _ _ _ _ _ _ _ _ _ _) ?_); intro w9 hb hc hs; have H9 := Lib.hid (show Blk w9 w2.heap.size 24 (pmC q.o q.e (Value.slice x8a0 x8l0 x8c0) (Value.slice x8a1 x8l1 x8c1) (Value.slice x8a2 x8l2 x8c2)) ∧ Ch (· = w2.heap.size) y9 w9 from ⟨hb, hc⟩); clear hb hc hs)
    refine bodyPost_ret (results_cellTmp Try.results13 _ _ w2.heap.size _ _ rfl H9.out.1 _ Try.underlying24 rfl (pmC_info _ _ _ _ _) _ rfl) rfl ?_
    exact ⟨_, _, _, rfl, HY10.out.2.2.2.2.2.2.1.ch H9.out.2 HOF.out, below_ch HY10.out.2.1 H9.out.2 (Nat.le_refl _) (fun k hk => by have e : k = w2.heap.size := hk; have := HY10.out.2.2.2.2.2.1; omega), HY10.out.2.2.2.2.2.2.2.mono H4.out.2.1.size⟩
  · have HD := Lib.hid (show turnR ⟨o, pe, pr, pq, pg⟩ (shareR ⟨o, pe, pr, pq, pg⟩ ab an true) = (q, e) from by have h := HP.out.2.2.1; unfold doC at h; simp only [HKE.out] at h; simpa using h)
    go_enter Try.func13, Try.ntmps13
    go_wp2_with (first
    | ((with_reducible refine wpList_box_blk w rfl 24 (.tmp 0) rfl (pmC o pe (Value.slice ra rl rc) (Value.slice qa ql qc) (Value.slice ga gl gc)) rfl ?_); intro a11 hb hbel hsz; have HA12 := Lib.hid (show PmS a11 ⟨o, pe, pr, pq, pg⟩ (Value.slice ra rl rc) (Value.slice qa ql qc) (Value.slice ga gl gc) ∧ Below w.heap.size w a11 ∧ Blk a11 w.heap.size 24 (pmC o pe (Value.slice ra rl rc) (Value.slice qa ql qc) (Value.slice ga gl gc)) from ⟨H0.out.1.below hbel, below_thn H0.out.2 hbel (Nat.le_refl _), hb⟩); clear hb hbel hsz)
    | ((with_reducible refine wpList_box_blk a11 rfl 35 (.tmp 1) rfl (act3C ⟨ak, ab, an⟩) rfl ?_); intro w2 hb hbel hsz; have H2 := Lib.hid (show PmS w2 ⟨o, pe, pr, pq, pg⟩ (Value.slice ra rl rc) (Value.slice qa ql qc) (Value.slice ga gl gc) ∧ Below w.heap.size w w2 ∧ Blk w2 w.heap.size 24 (pmC o pe (Value.slice ra rl rc) (Value.slice qa ql qc) (Value.slice ga gl gc)) ∧ Blk w2 a11.heap.size 35 (act3C ⟨ak, ab, an⟩) from ⟨HA12.out.1.below hbel, below_thn HA12.out.2.1 hbel (Nat.le_refl _), HA12.out.2.2.below hbel HA12.out.2.2.lt, hb⟩); clear hb hbel hsz)
    | ((with_reducible refine wpList_alloc_blk w2 rfl 24 rfl (pmC 0 0 (.slice none 0 0) (.slice none 0 0) (.slice none 0 0)) Try.zeroPm ?_); intro w3 hb hbel hsz; have H3 := Lib.hid (show PmS w3 ⟨o, pe, pr, pq, pg⟩ (Value.slice ra rl rc) (Value.slice qa ql qc) (Value.slice ga gl gc) ∧ Below w.heap.size w w3 ∧ Blk w3 w.heap.size 24 (pmC o pe (Value.slice ra rl rc) (Value.slice qa ql qc) (Value.slice ga gl gc)) ∧ Blk w3 a11.heap.size 35 (act3C ⟨ak, ab, an⟩) ∧ Blk w3 w2.heap.size 24 (pmC 0 0 (.slice none 0 0) (.slice none 0 0) (.slice none 0 0)) ∧ w.heap.size ≤ w2.heap.size from ⟨H2.out.1.below hbel, below_thn H2.out.2.1 hbel (Nat.le_refl _), H2.out.2.2.1.below hbel H2.out.2.2.1.lt, H2.out.2.2.2.below hbel H2.out.2.2.2.lt, hb, H2.out.2.1.size⟩); clear hb hbel hsz)
    | (with_reducible refine wpList_load_any rfl 35 (.tmp 3) rfl a11.heap.size 0 rfl (act3C ⟨ak, ab, an⟩) _ (rangeW_blk H3.out.2.2.2.1) Try.underlying35 rfl (act3C_info _) ?_))
    refine (HK.out w3 HP.out.2.2.2).mono ?_
    rintro e' w4 ⟨rfl, hb⟩
    have H4 := Lib.hid (show PmS w4 ⟨o, pe, pr, pq, pg⟩ (Value.slice ra rl rc) (Value.slice qa ql qc) (Value.slice ga gl gc) ∧ Below w.heap.size w w4 ∧ Blk w4 w.heap.size 24 (pmC o pe (Value.slice ra rl rc) (Value.slice qa ql qc) (Value.slice ga gl gc)) ∧ Blk w4 a11.heap.size 35 (act3C ⟨ak, ab, an⟩) ∧ Blk w4 w2.heap.size 24 (pmC 0 0 (.slice none 0 0) (.slice none 0 0) (.slice none 0 0)) ∧ w.heap.size ≤ w2.heap.size from ⟨H3.out.1.below hb, below_thn H3.out.2.1 hb (Nat.le_refl _), H3.out.2.2.1.below hb H3.out.2.2.1.lt, H3.out.2.2.2.1.below hb H3.out.2.2.2.1.lt, H3.out.2.2.2.2.1.below hb H3.out.2.2.2.2.1.lt, H3.out.2.2.2.2.2⟩)
    clear hb
    have a1 := H4.out.2.2.2.1.cell 1
    have a2 := H4.out.2.2.2.1.cell 2
    simp only [act3C, List.getElem?_cons_zero, List.getElem?_cons_succ] at a1 a2
    go_wp2_with (with_reducible refine wpList_load_any rfl 24 (.tmp 2) rfl w.heap.size 0 rfl (pmC o pe (Value.slice ra rl rc) (Value.slice qa ql qc) (Value.slice ga gl gc)) _ (rangeW_blk H4.out.2.2.1) Try.underlying24 rfl (pmC_info _ _ _ _ _) ?_)
    have h1 := share_any ⟨o, pe, pr, pq, pg⟩ ab an true _ _ _ w4 H4.out.1 HP.out.2.1
    rw [HD.out] at h1
    refine (calls_perm h1).mono ?_
    clear h1 a1 a2
    rintro e' y14 ⟨x13r, x13q, x13g, rfl, hs, hb, hab⟩
    obtain ⟨x13a0, x13c0, rfl, -⟩ := hs.1.shape
    obtain ⟨x13a1, x13c1, rfl, -⟩ := hs.2.1.shape
    obtain ⟨x13a2, x13c2, rfl, -⟩ := hs.2.2.shape
    generalize (ofK .i64 q.r).length = x13l0 at hs hab ⊢
    generalize (ofK .i64 q.q).length = x13l1 at hs hab ⊢
    generalize (ofK .i64 q.g).length = x13l2 at hs hab ⊢
    have HY15 := Lib.hid (show PmS y14 ⟨o, pe, pr, pq, pg⟩ (Value.slice ra rl rc) (Value.slice qa ql qc) (Value.slice ga gl gc) ∧ Below w.heap.size w y14 ∧ Blk y14 w.heap.size 24 (pmC o pe (Value.slice ra rl rc) (Value.slice qa ql qc) (Value.slice ga gl gc)) ∧ Blk y14 a11.heap.size 35 (act3C ⟨ak, ab, an⟩) ∧ Blk y14 w2.heap.size 24 (pmC 0 0 (.slice none 0 0) (.slice none 0 0) (.slice none 0 0)) ∧ w.heap.size ≤ w2.heap.size ∧ PmS y14 q (Value.slice x13a0 x13l0 x13c0) (Value.slice x13a1 x13l1 x13c1) (Value.slice x13a2 x13l2 x13c2) ∧ AbvS w4.heap.size (Value.slice x13a0 x13l0 x13c0) (Value.slice x13a1 x13l1 x13c1) (Value.slice x13a2 x13l2 x13c2) from ⟨H4.out.1.below hb, below_thn H4.out.2.1 hb (Nat.le_refl _), H4.out.2.2.1.below hb H4.out.2.2.1.lt, H4.out.2.2.2.1.below hb H4.out.2.2.2.1.lt, H4.out.2.2.2.2.1.below hb H4.out.2.2.2.2.1.lt, H4.out.2.2.2.2.2, hs, hab⟩)
    clear hs hb hab
    have HOF := Lib.hid (show Off w2.heap.size (Value.slice x13a0 x13l0 x13c0) (Value.slice x13a1 x13l1 x13c1) (Value.slice x13a2 x13l2 x13c2) from off_abv HY15.out.2.2.2.2.2.2.2 H4.out.2.2.2.2.1.lt)
    go_wp2_with ((with_reducible refine wpList_store_blk y14 rfl 24 (.tmp 4) (.tmp 21) rfl w2.heap.size 24 (pmC 0 0 (.slice none 0 0) (.slice none 0 0) (.slice none 0 0)) (pmC q.o q.e (Value.slice x13a0 x13l0 x13c0) (Value.slice x13a1 x13l1 x13c1) (Value.slice x13a2 x13l2 x13c2)) HY15.out.2.2.2.2.1 rfl rfl rfl (pmC_info _ _ _ _ _) (pmC_one _ _ _ _ _ _ _ _ _ _ _) ?_); intro w9 hb hc hs; have H9 := Lib.hid (show Blk w9 w2.heap.size 24 (pmC q.o q.e (Value.slice x13a0 x13l0 x13c0) (Value.slice x13a1 x13l1 x13c1) (Value.slice x13a2 x13l2 x13c2)) ∧ Ch (· = w2.heap.size) y14 w9 from ⟨hb, hc⟩); clear hb hc hs)
    refine bodyPost_ret (results_cellTmp Try.results13 _ _ w2.heap.size _ _ rfl H9.out.1 _ Try.underlying24 rfl (pmC_info _ _ _ _ _) _ rfl) rfl ?_
    exact ⟨_, _, _, rfl, HY15.out.2.2.2.2.2.2.1.ch H9.out.2 HOF.out, below_ch HY15.out.2.1 H9.out.2 (Nat.le_refl _) (fun k hk => by have e : k = w2.heap.size := hk; have := HY15.out.2.2.2.2.2.1; omega), HY15.out.2.2.2.2.2.2.2.mono H4.out.2.1.size⟩
  · have HD := Lib.hid (show turnR ⟨o, pe, pr, pq, pg⟩ (backR ⟨o, pe, pr, pq, pg⟩ ab an) = (q, e) from by have h := HP.out.2.2.1; unfold doC at h; simp only [HKE.out] at h; simpa using h)
    go_enter Try.func13, Try.ntmps13
    go_wp2_with (first
    | ((with_reducible refine wpList_box_blk w rfl 24 (.tmp 0) rfl (pmC o pe (Value.slice ra rl rc) (Value.slice qa ql qc) (Value.slice ga gl gc)) rfl ?_); intro a16 hb hbel hsz; have HA17 := Lib.hid (show PmS a16 ⟨o, pe, pr, pq, pg⟩ (Value.slice ra rl rc) (Value.slice qa ql qc) (Value.slice ga gl gc) ∧ Below w.heap.size w a16 ∧ Blk a16 w.heap.size 24 (pmC o pe (Value.slice ra rl rc) (Value.slice qa ql qc) (Value.slice ga gl gc)) from ⟨H0.out.1.below hbel, below_thn H0.out.2 hbel (Nat.le_refl _), hb⟩); clear hb hbel hsz)
    | ((with_reducible refine wpList_box_blk a16 rfl 35 (.tmp 1) rfl (act3C ⟨ak, ab, an⟩) rfl ?_); intro w2 hb hbel hsz; have H2 := Lib.hid (show PmS w2 ⟨o, pe, pr, pq, pg⟩ (Value.slice ra rl rc) (Value.slice qa ql qc) (Value.slice ga gl gc) ∧ Below w.heap.size w w2 ∧ Blk w2 w.heap.size 24 (pmC o pe (Value.slice ra rl rc) (Value.slice qa ql qc) (Value.slice ga gl gc)) ∧ Blk w2 a16.heap.size 35 (act3C ⟨ak, ab, an⟩) from ⟨HA17.out.1.below hbel, below_thn HA17.out.2.1 hbel (Nat.le_refl _), HA17.out.2.2.below hbel HA17.out.2.2.lt, hb⟩); clear hb hbel hsz)
    | ((with_reducible refine wpList_alloc_blk w2 rfl 24 rfl (pmC 0 0 (.slice none 0 0) (.slice none 0 0) (.slice none 0 0)) Try.zeroPm ?_); intro w3 hb hbel hsz; have H3 := Lib.hid (show PmS w3 ⟨o, pe, pr, pq, pg⟩ (Value.slice ra rl rc) (Value.slice qa ql qc) (Value.slice ga gl gc) ∧ Below w.heap.size w w3 ∧ Blk w3 w.heap.size 24 (pmC o pe (Value.slice ra rl rc) (Value.slice qa ql qc) (Value.slice ga gl gc)) ∧ Blk w3 a16.heap.size 35 (act3C ⟨ak, ab, an⟩) ∧ Blk w3 w2.heap.size 24 (pmC 0 0 (.slice none 0 0) (.slice none 0 0) (.slice none 0 0)) ∧ w.heap.size ≤ w2.heap.size from ⟨H2.out.1.below hbel, below_thn H2.out.2.1 hbel (Nat.le_refl _), H2.out.2.2.1.below hbel H2.out.2.2.1.lt, H2.out.2.2.2.below hbel H2.out.2.2.2.lt, hb, H2.out.2.1.size⟩); clear hb hbel hsz)
    | (with_reducible refine wpList_load_any rfl 35 (.tmp 3) rfl a16.heap.size 0 rfl (act3C ⟨ak, ab, an⟩) _ (rangeW_blk H3.out.2.2.2.1) Try.underlying35 rfl (act3C_info _) ?_))
    refine (HK.out w3 HP.out.2.2.2).mono ?_
    rintro e' w4 ⟨rfl, hb⟩
    have H4 := Lib.hid (show PmS w4 ⟨o, pe, pr, pq, pg⟩ (Value.slice ra rl rc) (Value.slice qa ql qc) (Value.slice ga gl gc) ∧ Below w.heap.size w w4 ∧ Blk w4 w.heap.size 24 (pmC o pe (Value.slice ra rl rc) (Value.slice qa ql qc) (Value.slice ga gl gc)) ∧ Blk w4 a16.heap.size 35 (act3C ⟨ak, ab, an⟩) ∧ Blk w4 w2.heap.size 24 (pmC 0 0 (.slice none 0 0) (.slice none 0 0) (.slice none 0 0)) ∧ w.heap.size ≤ w2.heap.size from ⟨H3.out.1.below hb, below_thn H3.out.2.1 hb (Nat.le_refl _), H3.out.2.2.1.below hb H3.out.2.2.1.lt, H3.out.2.2.2.1.below hb H3.out.2.2.2.1.lt, H3.out.2.2.2.2.1.below hb H3.out.2.2.2.2.1.lt, H3.out.2.2.2.2.2⟩)
    clear hb
    have a1 := H4.out.2.2.2.1.cell 1
    have a2 := H4.out.2.2.2.1.cell 2
    simp only [act3C, List.getElem?_cons_zero, List.getElem?_cons_succ] at a1 a2
    go_wp2_with (with_reducible refine wpList_load_any rfl 24 (.tmp 2) rfl w.heap.size 0 rfl (pmC o pe (Value.slice ra rl rc) (Value.slice qa ql qc) (Value.slice ga gl gc)) _ (rangeW_blk H4.out.2.2.1) Try.underlying24 rfl (pmC_info _ _ _ _ _) ?_)
    have h1 := back_any ⟨o, pe, pr, pq, pg⟩ ab an _ _ _ w4 H4.out.1 HP.out.2.1
    rw [HD.out] at h1
    refine (calls_perm h1).mono ?_
    clear h1 a1 a2
    rintro e' y19 ⟨x18r, x18q, x18g, rfl, hs, hb, hab⟩
    obtain ⟨x18a0, x18c0, rfl, -⟩ := hs.1.shape
    obtain ⟨x18a1, x18c1, rfl, -⟩ := hs.2.1.shape
    obtain ⟨x18a2, x18c2, rfl, -⟩ := hs.2.2.shape
    generalize (ofK .i64 q.r).length = x18l0 at hs hab ⊢
    generalize (ofK .i64 q.q).length = x18l1 at hs hab ⊢
    generalize (ofK .i64 q.g).length = x18l2 at hs hab ⊢
    have HY20 := Lib.hid (show PmS y19 ⟨o, pe, pr, pq, pg⟩ (Value.slice ra rl rc) (Value.slice qa ql qc) (Value.slice ga gl gc) ∧ Below w.heap.size w y19 ∧ Blk y19 w.heap.size 24 (pmC o pe (Value.slice ra rl rc) (Value.slice qa ql qc) (Value.slice ga gl gc)) ∧ Blk y19 a16.heap.size 35 (act3C ⟨ak, ab, an⟩) ∧ Blk y19 w2.heap.size 24 (pmC 0 0 (.slice none 0 0) (.slice none 0 0) (.slice none 0 0)) ∧ w.heap.size ≤ w2.heap.size ∧ PmS y19 q (Value.slice x18a0 x18l0 x18c0) (Value.slice x18a1 x18l1 x18c1) (Value.slice x18a2 x18l2 x18c2) ∧ AbvS w4.heap.size (Value.slice x18a0 x18l0 x18c0) (Value.slice x18a1 x18l1 x18c1) (Value.slice x18a2 x18l2 x18c2) from ⟨H4.out.1.below hb, below_thn H4.out.2.1 hb (Nat.le_refl _), H4.out.2.2.1.below hb H4.out.2.2.1.lt, H4.out.2.2.2.1.below hb H4.out.2.2.2.1.lt, H4.out.2.2.2.2.1.below hb H4.out.2.2.2.2.1.lt, H4.out.2.2.2.2.2, hs, hab⟩)
    clear hs hb hab
    have HOF := Lib.hid (show Off w2.heap.size (Value.slice x18a0 x18l0 x18c0) (Value.slice x18a1 x18l1 x18c1) (Value.slice x18a2 x18l2 x18c2) from off_abv HY20.out.2.2.2.2.2.2.2 H4.out.2.2.2.2.1.lt)
    go_wp2_with ((with_reducible refine wpList_store_blk y19 rfl 24 (.tmp 4) (.tmp 31) rfl w2.heap.size 24 (pmC 0 0 (.slice none 0 0) (.slice none 0 0) (.slice none 0 0)) (pmC q.o q.e (Value.slice x18a0 x18l0 x18c0) (Value.slice x18a1 x18l1 x18c1) (Value.slice x18a2 x18l2 x18c2)) HY20.out.2.2.2.2.1 rfl rfl rfl (pmC_info _ _ _ _ _) (pmC_one _ _ _ _ _ _ _ _ _ _ _) ?_); intro w9 hb hc hs; have H9 := Lib.hid (show Blk w9 w2.heap.size 24 (pmC q.o q.e (Value.slice x18a0 x18l0 x18c0) (Value.slice x18a1 x18l1 x18c1) (Value.slice x18a2 x18l2 x18c2)) ∧ Ch (· = w2.heap.size) y19 w9 from ⟨hb, hc⟩); clear hb hc hs)
    refine bodyPost_ret (results_cellTmp Try.results13 _ _ w2.heap.size _ _ rfl H9.out.1 _ Try.underlying24 rfl (pmC_info _ _ _ _ _) _ rfl) rfl ?_
    exact ⟨_, _, _, rfl, HY20.out.2.2.2.2.2.2.1.ch H9.out.2 HOF.out, below_ch HY20.out.2.1 H9.out.2 (Nat.le_refl _) (fun k hk => by have e : k = w2.heap.size := hk; have := HY20.out.2.2.2.2.2.1; omega), HY20.out.2.2.2.2.2.2.2.mono H4.out.2.1.size⟩
  · have HD := Lib.hid (show turnR ⟨o, pe, pr, pq, pg⟩ (shareGR ⟨o, pe, pr, pq, pg⟩ ab an) = (q, e) from by have h := HP.out.2.2.1; unfold doC at h; simp only [HKE.out] at h; simpa using h)
    go_enter Try.func13, Try.ntmps13
    go_wp2_with (first
    | ((with_reducible refine wpList_box_blk w rfl 24 (.tmp 0) rfl (pmC o pe (Value.slice ra rl rc) (Value.slice qa ql qc) (Value.slice ga gl gc)) rfl ?_); intro a21 hb hbel hsz; have HA22 := Lib.hid (show PmS a21 ⟨o, pe, pr, pq, pg⟩ (Value.slice ra rl rc) (Value.slice qa ql qc) (Value.slice ga gl gc) ∧ Below w.heap.size w a21 ∧ Blk a21 w.heap.size 24 (pmC o pe (Value.slice ra rl rc) (Value.slice qa ql qc) (Value.slice ga gl gc)) from ⟨H0.out.1.below hbel, below_thn H0.out.2 hbel (Nat.le_refl _), hb⟩); clear hb hbel hsz)
    | ((with_reducible refine wpList_box_blk a21 rfl 35 (.tmp 1) rfl (act3C ⟨ak, ab, an⟩) rfl ?_); intro w2 hb hbel hsz; have H2 := Lib.hid (show PmS w2 ⟨o, pe, pr, pq, pg⟩ (Value.slice ra rl rc) (Value.slice qa ql qc) (Value.slice ga gl gc) ∧ Below w.heap.size w w2 ∧ Blk w2 w.heap.size 24 (pmC o pe (Value.slice ra rl rc) (Value.slice qa ql qc) (Value.slice ga gl gc)) ∧ Blk w2 a21.heap.size 35 (act3C ⟨ak, ab, an⟩) from ⟨HA22.out.1.below hbel, below_thn HA22.out.2.1 hbel (Nat.le_refl _), HA22.out.2.2.below hbel HA22.out.2.2.lt, hb⟩); clear hb hbel hsz)
    | ((with_reducible refine wpList_alloc_blk w2 rfl 24 rfl (pmC 0 0 (.slice none 0 0) (.slice none 0 0) (.slice none 0 0)) Try.zeroPm ?_); intro w3 hb hbel hsz; have H3 := Lib.hid (show PmS w3 ⟨o, pe, pr, pq, pg⟩ (Value.slice ra rl rc) (Value.slice qa ql qc) (Value.slice ga gl gc) ∧ Below w.heap.size w w3 ∧ Blk w3 w.heap.size 24 (pmC o pe (Value.slice ra rl rc) (Value.slice qa ql qc) (Value.slice ga gl gc)) ∧ Blk w3 a21.heap.size 35 (act3C ⟨ak, ab, an⟩) ∧ Blk w3 w2.heap.size 24 (pmC 0 0 (.slice none 0 0) (.slice none 0 0) (.slice none 0 0)) ∧ w.heap.size ≤ w2.heap.size from ⟨H2.out.1.below hbel, below_thn H2.out.2.1 hbel (Nat.le_refl _), H2.out.2.2.1.below hbel H2.out.2.2.1.lt, H2.out.2.2.2.below hbel H2.out.2.2.2.lt, hb, H2.out.2.1.size⟩); clear hb hbel hsz)
    | (with_reducible refine wpList_load_any rfl 35 (.tmp 3) rfl a21.heap.size 0 rfl (act3C ⟨ak, ab, an⟩) _ (rangeW_blk H3.out.2.2.2.1) Try.underlying35 rfl (act3C_info _) ?_))
    refine (HK.out w3 HP.out.2.2.2).mono ?_
    rintro e' w4 ⟨rfl, hb⟩
    have H4 := Lib.hid (show PmS w4 ⟨o, pe, pr, pq, pg⟩ (Value.slice ra rl rc) (Value.slice qa ql qc) (Value.slice ga gl gc) ∧ Below w.heap.size w w4 ∧ Blk w4 w.heap.size 24 (pmC o pe (Value.slice ra rl rc) (Value.slice qa ql qc) (Value.slice ga gl gc)) ∧ Blk w4 a21.heap.size 35 (act3C ⟨ak, ab, an⟩) ∧ Blk w4 w2.heap.size 24 (pmC 0 0 (.slice none 0 0) (.slice none 0 0) (.slice none 0 0)) ∧ w.heap.size ≤ w2.heap.size from ⟨H3.out.1.below hb, below_thn H3.out.2.1 hb (Nat.le_refl _), H3.out.2.2.1.below hb H3.out.2.2.1.lt, H3.out.2.2.2.1.below hb H3.out.2.2.2.1.lt, H3.out.2.2.2.2.1.below hb H3.out.2.2.2.2.1.lt, H3.out.2.2.2.2.2⟩)
    clear hb
    have a1 := H4.out.2.2.2.1.cell 1
    have a2 := H4.out.2.2.2.1.cell 2
    simp only [act3C, List.getElem?_cons_zero, List.getElem?_cons_succ] at a1 a2
    go_wp2_with (with_reducible refine wpList_load_any rfl 24 (.tmp 2) rfl w.heap.size 0 rfl (pmC o pe (Value.slice ra rl rc) (Value.slice qa ql qc) (Value.slice ga gl gc)) _ (rangeW_blk H4.out.2.2.1) Try.underlying24 rfl (pmC_info _ _ _ _ _) ?_)
    have h1 := shareGroup_any ⟨o, pe, pr, pq, pg⟩ ab an _ _ _ w4 H4.out.1 HP.out.2.1
    rw [HD.out] at h1
    refine (calls_perm h1).mono ?_
    clear h1 a1 a2
    rintro e' y24 ⟨x23r, x23q, x23g, rfl, hs, hb, hab⟩
    obtain ⟨x23a0, x23c0, rfl, -⟩ := hs.1.shape
    obtain ⟨x23a1, x23c1, rfl, -⟩ := hs.2.1.shape
    obtain ⟨x23a2, x23c2, rfl, -⟩ := hs.2.2.shape
    generalize (ofK .i64 q.r).length = x23l0 at hs hab ⊢
    generalize (ofK .i64 q.q).length = x23l1 at hs hab ⊢
    generalize (ofK .i64 q.g).length = x23l2 at hs hab ⊢
    have HY25 := Lib.hid (show PmS y24 ⟨o, pe, pr, pq, pg⟩ (Value.slice ra rl rc) (Value.slice qa ql qc) (Value.slice ga gl gc) ∧ Below w.heap.size w y24 ∧ Blk y24 w.heap.size 24 (pmC o pe (Value.slice ra rl rc) (Value.slice qa ql qc) (Value.slice ga gl gc)) ∧ Blk y24 a21.heap.size 35 (act3C ⟨ak, ab, an⟩) ∧ Blk y24 w2.heap.size 24 (pmC 0 0 (.slice none 0 0) (.slice none 0 0) (.slice none 0 0)) ∧ w.heap.size ≤ w2.heap.size ∧ PmS y24 q (Value.slice x23a0 x23l0 x23c0) (Value.slice x23a1 x23l1 x23c1) (Value.slice x23a2 x23l2 x23c2) ∧ AbvS w4.heap.size (Value.slice x23a0 x23l0 x23c0) (Value.slice x23a1 x23l1 x23c1) (Value.slice x23a2 x23l2 x23c2) from ⟨H4.out.1.below hb, below_thn H4.out.2.1 hb (Nat.le_refl _), H4.out.2.2.1.below hb H4.out.2.2.1.lt, H4.out.2.2.2.1.below hb H4.out.2.2.2.1.lt, H4.out.2.2.2.2.1.below hb H4.out.2.2.2.2.1.lt, H4.out.2.2.2.2.2, hs, hab⟩)
    clear hs hb hab
    have HOF := Lib.hid (show Off w2.heap.size (Value.slice x23a0 x23l0 x23c0) (Value.slice x23a1 x23l1 x23c1) (Value.slice x23a2 x23l2 x23c2) from off_abv HY25.out.2.2.2.2.2.2.2 H4.out.2.2.2.2.1.lt)
    go_wp2_with ((with_reducible refine wpList_store_blk y24 rfl 24 (.tmp 4) (.tmp 41) rfl w2.heap.size 24 (pmC 0 0 (.slice none 0 0) (.slice none 0 0) (.slice none 0 0)) (pmC q.o q.e (Value.slice x23a0 x23l0 x23c0) (Value.slice x23a1 x23l1 x23c1) (Value.slice x23a2 x23l2 x23c2)) HY25.out.2.2.2.2.1 rfl rfl rfl (pmC_info _ _ _ _ _) (pmC_one _ _ _ _ _ _ _ _ _ _ _) ?_); intro w9 hb hc hs; have H9 := Lib.hid (show Blk w9 w2.heap.size 24 (pmC q.o q.e (Value.slice x23a0 x23l0 x23c0) (Value.slice x23a1 x23l1 x23c1) (Value.slice x23a2 x23l2 x23c2)) ∧ Ch (· = w2.heap.size) y24 w9 from ⟨hb, hc⟩); clear hb hc hs)
    refine bodyPost_ret (results_cellTmp Try.results13 _ _ w2.heap.size _ _ rfl H9.out.1 _ Try.underlying24 rfl (pmC_info _ _ _ _ _) _ rfl) rfl ?_
    exact ⟨_, _, _, rfl, HY25.out.2.2.2.2.2.2.1.ch H9.out.2 HOF.out, below_ch HY25.out.2.1 H9.out.2 (Nat.le_refl _) (fun k hk => by have e : k = w2.heap.size := hk; have := HY25.out.2.2.2.2.2.1; omega), HY25.out.2.2.2.2.2.2.2.mono H4.out.2.1.size⟩
  · have HD := Lib.hid (show turnR ⟨o, pe, pr, pq, pg⟩ (backGR ⟨o, pe, pr, pq, pg⟩ ab an) = (q, e) from by have h := HP.out.2.2.1; unfold doC at h; simp only [HKE.out] at h; simpa using h)
    go_enter Try.func13, Try.ntmps13
    go_wp2_with (first
    | ((with_reducible refine wpList_box_blk w rfl 24 (.tmp 0) rfl (pmC o pe (Value.slice ra rl rc) (Value.slice qa ql qc) (Value.slice ga gl gc)) rfl ?_); intro a26 hb hbel hsz; have HA27 := Lib.hid (show PmS a26 ⟨o, pe, pr, pq, pg⟩ (Value.slice ra rl rc) (Value.slice qa ql qc) (Value.slice ga gl gc) ∧ Below w.heap.size w a26 ∧ Blk a26 w.heap.size 24 (pmC o pe (Value.slice ra rl rc) (Value.slice qa ql qc) (Value.slice ga gl gc)) from ⟨H0.out.1.below hbel, below_thn H0.out.2 hbel (Nat.le_refl _), hb⟩); clear hb hbel hsz)
    | ((with_reducible refine wpList_box_blk a26 rfl 35 (.tmp 1) rfl (act3C ⟨ak, ab, an⟩) rfl ?_); intro w2 hb hbel hsz; have H2 := Lib.hid (show PmS w2 ⟨o, pe, pr, pq, pg⟩ (Value.slice ra rl rc) (Value.slice qa ql qc) (Value.slice ga gl gc) ∧ Below w.heap.size w w2 ∧ Blk w2 w.heap.size 24 (pmC o pe (Value.slice ra rl rc) (Value.slice qa ql qc) (Value.slice ga gl gc)) ∧ Blk w2 a26.heap.size 35 (act3C ⟨ak, ab, an⟩) from ⟨HA27.out.1.below hbel, below_thn HA27.out.2.1 hbel (Nat.le_refl _), HA27.out.2.2.below hbel HA27.out.2.2.lt, hb⟩); clear hb hbel hsz)
    | ((with_reducible refine wpList_alloc_blk w2 rfl 24 rfl (pmC 0 0 (.slice none 0 0) (.slice none 0 0) (.slice none 0 0)) Try.zeroPm ?_); intro w3 hb hbel hsz; have H3 := Lib.hid (show PmS w3 ⟨o, pe, pr, pq, pg⟩ (Value.slice ra rl rc) (Value.slice qa ql qc) (Value.slice ga gl gc) ∧ Below w.heap.size w w3 ∧ Blk w3 w.heap.size 24 (pmC o pe (Value.slice ra rl rc) (Value.slice qa ql qc) (Value.slice ga gl gc)) ∧ Blk w3 a26.heap.size 35 (act3C ⟨ak, ab, an⟩) ∧ Blk w3 w2.heap.size 24 (pmC 0 0 (.slice none 0 0) (.slice none 0 0) (.slice none 0 0)) ∧ w.heap.size ≤ w2.heap.size from ⟨H2.out.1.below hbel, below_thn H2.out.2.1 hbel (Nat.le_refl _), H2.out.2.2.1.below hbel H2.out.2.2.1.lt, H2.out.2.2.2.below hbel H2.out.2.2.2.lt, hb, H2.out.2.1.size⟩); clear hb hbel hsz)
    | (with_reducible refine wpList_load_any rfl 35 (.tmp 3) rfl a26.heap.size 0 rfl (act3C ⟨ak, ab, an⟩) _ (rangeW_blk H3.out.2.2.2.1) Try.underlying35 rfl (act3C_info _) ?_))
    refine (HK.out w3 HP.out.2.2.2).mono ?_
    rintro e' w4 ⟨rfl, hb⟩
    have H4 := Lib.hid (show PmS w4 ⟨o, pe, pr, pq, pg⟩ (Value.slice ra rl rc) (Value.slice qa ql qc) (Value.slice ga gl gc) ∧ Below w.heap.size w w4 ∧ Blk w4 w.heap.size 24 (pmC o pe (Value.slice ra rl rc) (Value.slice qa ql qc) (Value.slice ga gl gc)) ∧ Blk w4 a26.heap.size 35 (act3C ⟨ak, ab, an⟩) ∧ Blk w4 w2.heap.size 24 (pmC 0 0 (.slice none 0 0) (.slice none 0 0) (.slice none 0 0)) ∧ w.heap.size ≤ w2.heap.size from ⟨H3.out.1.below hb, below_thn H3.out.2.1 hb (Nat.le_refl _), H3.out.2.2.1.below hb H3.out.2.2.1.lt, H3.out.2.2.2.1.below hb H3.out.2.2.2.1.lt, H3.out.2.2.2.2.1.below hb H3.out.2.2.2.2.1.lt, H3.out.2.2.2.2.2⟩)
    clear hb
    have a1 := H4.out.2.2.2.1.cell 1
    have a2 := H4.out.2.2.2.1.cell 2
    simp only [act3C, List.getElem?_cons_zero, List.getElem?_cons_succ] at a1 a2
    go_wp2_with (with_reducible refine wpList_load_any rfl 24 (.tmp 2) rfl w.heap.size 0 rfl (pmC o pe (Value.slice ra rl rc) (Value.slice qa ql qc) (Value.slice ga gl gc)) _ (rangeW_blk H4.out.2.2.1) Try.underlying24 rfl (pmC_info _ _ _ _ _) ?_)
    have h1 := backGroup_any ⟨o, pe, pr, pq, pg⟩ ab an _ _ _ w4 H4.out.1 HP.out.2.1
    rw [HD.out] at h1
    refine (calls_perm h1).mono ?_
    clear h1 a1 a2
    rintro e' y29 ⟨x28r, x28q, x28g, rfl, hs, hb, hab⟩
    obtain ⟨x28a0, x28c0, rfl, -⟩ := hs.1.shape
    obtain ⟨x28a1, x28c1, rfl, -⟩ := hs.2.1.shape
    obtain ⟨x28a2, x28c2, rfl, -⟩ := hs.2.2.shape
    generalize (ofK .i64 q.r).length = x28l0 at hs hab ⊢
    generalize (ofK .i64 q.q).length = x28l1 at hs hab ⊢
    generalize (ofK .i64 q.g).length = x28l2 at hs hab ⊢
    have HY30 := Lib.hid (show PmS y29 ⟨o, pe, pr, pq, pg⟩ (Value.slice ra rl rc) (Value.slice qa ql qc) (Value.slice ga gl gc) ∧ Below w.heap.size w y29 ∧ Blk y29 w.heap.size 24 (pmC o pe (Value.slice ra rl rc) (Value.slice qa ql qc) (Value.slice ga gl gc)) ∧ Blk y29 a26.heap.size 35 (act3C ⟨ak, ab, an⟩) ∧ Blk y29 w2.heap.size 24 (pmC 0 0 (.slice none 0 0) (.slice none 0 0) (.slice none 0 0)) ∧ w.heap.size ≤ w2.heap.size ∧ PmS y29 q (Value.slice x28a0 x28l0 x28c0) (Value.slice x28a1 x28l1 x28c1) (Value.slice x28a2 x28l2 x28c2) ∧ AbvS w4.heap.size (Value.slice x28a0 x28l0 x28c0) (Value.slice x28a1 x28l1 x28c1) (Value.slice x28a2 x28l2 x28c2) from ⟨H4.out.1.below hb, below_thn H4.out.2.1 hb (Nat.le_refl _), H4.out.2.2.1.below hb H4.out.2.2.1.lt, H4.out.2.2.2.1.below hb H4.out.2.2.2.1.lt, H4.out.2.2.2.2.1.below hb H4.out.2.2.2.2.1.lt, H4.out.2.2.2.2.2, hs, hab⟩)
    clear hs hb hab
    have HOF := Lib.hid (show Off w2.heap.size (Value.slice x28a0 x28l0 x28c0) (Value.slice x28a1 x28l1 x28c1) (Value.slice x28a2 x28l2 x28c2) from off_abv HY30.out.2.2.2.2.2.2.2 H4.out.2.2.2.2.1.lt)
    go_wp2_with ((with_reducible refine wpList_store_blk y29 rfl 24 (.tmp 4) (.tmp 51) rfl w2.heap.size 24 (pmC 0 0 (.slice none 0 0) (.slice none 0 0) (.slice none 0 0)) (pmC q.o q.e (Value.slice x28a0 x28l0 x28c0) (Value.slice x28a1 x28l1 x28c1) (Value.slice x28a2 x28l2 x28c2)) HY30.out.2.2.2.2.1 rfl rfl rfl (pmC_info _ _ _ _ _) (pmC_one _ _ _ _ _ _ _ _ _ _ _) ?_); intro w9 hb hc hs; have H9 := Lib.hid (show Blk w9 w2.heap.size 24 (pmC q.o q.e (Value.slice x28a0 x28l0 x28c0) (Value.slice x28a1 x28l1 x28c1) (Value.slice x28a2 x28l2 x28c2)) ∧ Ch (· = w2.heap.size) y29 w9 from ⟨hb, hc⟩); clear hb hc hs)
    refine bodyPost_ret (results_cellTmp Try.results13 _ _ w2.heap.size _ _ rfl H9.out.1 _ Try.underlying24 rfl (pmC_info _ _ _ _ _) _ rfl) rfl ?_
    exact ⟨_, _, _, rfl, HY30.out.2.2.2.2.2.2.1.ch H9.out.2 HOF.out, below_ch HY30.out.2.1 H9.out.2 (Nat.le_refl _) (fun k hk => by have e : k = w2.heap.size := hk; have := HY30.out.2.2.2.2.2.1; omega), HY30.out.2.2.2.2.2.2.2.mono H4.out.2.1.size⟩
  · have HD := Lib.hid (show turnR ⟨o, pe, pr, pq, pg⟩ (nextR ⟨o, pe, pr, pq, pg⟩) = (q, e) from by have h := HP.out.2.2.1; unfold doC at h; simp only [HKE.out] at h; simpa using h)
    go_enter Try.func13, Try.ntmps13
    go_wp2_with (first
    | ((with_reducible refine wpList_box_blk w rfl 24 (.tmp 0) rfl (pmC o pe (Value.slice ra rl rc) (Value.slice qa ql qc) (Value.slice ga gl gc)) rfl ?_); intro a31 hb hbel hsz; have HA32 := Lib.hid (show PmS a31 ⟨o, pe, pr, pq, pg⟩ (Value.slice ra rl rc) (Value.slice qa ql qc) (Value.slice ga gl gc) ∧ Below w.heap.size w a31 ∧ Blk a31 w.heap.size 24 (pmC o pe (Value.slice ra rl rc) (Value.slice qa ql qc) (Value.slice ga gl gc)) from ⟨H0.out.1.below hbel, below_thn H0.out.2 hbel (Nat.le_refl _), hb⟩); clear hb hbel hsz)
    | ((with_reducible refine wpList_box_blk a31 rfl 35 (.tmp 1) rfl (act3C ⟨ak, ab, an⟩) rfl ?_); intro w2 hb hbel hsz; have H2 := Lib.hid (show PmS w2 ⟨o, pe, pr, pq, pg⟩ (Value.slice ra rl rc) (Value.slice qa ql qc) (Value.slice ga gl gc) ∧ Below w.heap.size w w2 ∧ Blk w2 w.heap.size 24 (pmC o pe (Value.slice ra rl rc) (Value.slice qa ql qc) (Value.slice ga gl gc)) ∧ Blk w2 a31.heap.size 35 (act3C ⟨ak, ab, an⟩) from ⟨HA32.out.1.below hbel, below_thn HA32.out.2.1 hbel (Nat.le_refl _), HA32.out.2.2.below hbel HA32.out.2.2.lt, hb⟩); clear hb hbel hsz)
    | ((with_reducible refine wpList_alloc_blk w2 rfl 24 rfl (pmC 0 0 (.slice none 0 0) (.slice none 0 0) (.slice none 0 0)) Try.zeroPm ?_); intro w3 hb hbel hsz; have H3 := Lib.hid (show PmS w3 ⟨o, pe, pr, pq, pg⟩ (Value.slice ra rl rc) (Value.slice qa ql qc) (Value.slice ga gl gc) ∧ Below w.heap.size w w3 ∧ Blk w3 w.heap.size 24 (pmC o pe (Value.slice ra rl rc) (Value.slice qa ql qc) (Value.slice ga gl gc)) ∧ Blk w3 a31.heap.size 35 (act3C ⟨ak, ab, an⟩) ∧ Blk w3 w2.heap.size 24 (pmC 0 0 (.slice none 0 0) (.slice none 0 0) (.slice none 0 0)) ∧ w.heap.size ≤ w2.heap.size from ⟨H2.out.1.below hbel, below_thn H2.out.2.1 hbel (Nat.le_refl _), H2.out.2.2.1.below hbel H2.out.2.2.1.lt, H2.out.2.2.2.below hbel H2.out.2.2.2.lt, hb, H2.out.2.1.size⟩); clear hb hbel hsz)
    | (with_reducible refine wpList_load_any rfl 35 (.tmp 3) rfl a31.heap.size 0 rfl (act3C ⟨ak, ab, an⟩) _ (rangeW_blk H3.out.2.2.2.1) Try.underlying35 rfl (act3C_info _) ?_))
    refine (HK.out w3 HP.out.2.2.2).mono ?_
    rintro e' w4 ⟨rfl, hb⟩
    have H4 := Lib.hid (show PmS w4 ⟨o, pe, pr, pq, pg⟩ (Value.slice ra rl rc) (Value.slice qa ql qc) (Value.slice ga gl gc) ∧ Below w.heap.size w w4 ∧ Blk w4 w.heap.size 24 (pmC o pe (Value.slice ra rl rc) (Value.slice qa ql qc) (Value.slice ga gl gc)) ∧ Blk w4 a31.heap.size 35 (act3C ⟨ak, ab, an⟩) ∧ Blk w4 w2.heap.size 24 (pmC 0 0 (.slice none 0 0) (.slice none 0 0) (.slice none 0 0)) ∧ w.heap.size ≤ w2.heap.size from ⟨H3.out.1.below hb, below_thn H3.out.2.1 hb (Nat.le_refl _), H3.out.2.2.1.below hb H3.out.2.2.1.lt, H3.out.2.2.2.1.below hb H3.out.2.2.2.1.lt, H3.out.2.2.2.2.1.below hb H3.out.2.2.2.2.1.lt, H3.out.2.2.2.2.2⟩)
    clear hb
    have a1 := H4.out.2.2.2.1.cell 1
    have a2 := H4.out.2.2.2.1.cell 2
    simp only [act3C, List.getElem?_cons_zero, List.getElem?_cons_succ] at a1 a2
    go_wp2_with (with_reducible refine wpList_load_any rfl 24 (.tmp 2) rfl w.heap.size 0 rfl (pmC o pe (Value.slice ra rl rc) (Value.slice qa ql qc) (Value.slice ga gl gc)) _ (rangeW_blk H4.out.2.2.1) Try.underlying24 rfl (pmC_info _ _ _ _ _) ?_)
    have h1 := pnext_any ⟨o, pe, pr, pq, pg⟩  _ _ _ w4 H4.out.1 HP.out.2.1
    rw [HD.out] at h1
    refine (calls_perm h1).mono ?_
    clear h1 a1 a2
    rintro e' y34 ⟨x33r, x33q, x33g, rfl, hs, hb, hab⟩
    obtain ⟨x33a0, x33c0, rfl, -⟩ := hs.1.shape
    obtain ⟨x33a1, x33c1, rfl, -⟩ := hs.2.1.shape
    obtain ⟨x33a2, x33c2, rfl, -⟩ := hs.2.2.shape
    generalize (ofK .i64 q.r).length = x33l0 at hs hab ⊢
    generalize (ofK .i64 q.q).length = x33l1 at hs hab ⊢
    generalize (ofK .i64 q.g).length = x33l2 at hs hab ⊢
    have HY35 := Lib.hid (show PmS y34 ⟨o, pe, pr, pq, pg⟩ (Value.slice ra rl rc) (Value.slice qa ql qc) (Value.slice ga gl gc) ∧ Below w.heap.size w y34 ∧ Blk y34 w.heap.size 24 (pmC o pe (Value.slice ra rl rc) (Value.slice qa ql qc) (Value.slice ga gl gc)) ∧ Blk y34 a31.heap.size 35 (act3C ⟨ak, ab, an⟩) ∧ Blk y34 w2.heap.size 24 (pmC 0 0 (.slice none 0 0) (.slice none 0 0) (.slice none 0 0)) ∧ w.heap.size ≤ w2.heap.size ∧ PmS y34 q (Value.slice x33a0 x33l0 x33c0) (Value.slice x33a1 x33l1 x33c1) (Value.slice x33a2 x33l2 x33c2) ∧ AbvS w4.heap.size (Value.slice x33a0 x33l0 x33c0) (Value.slice x33a1 x33l1 x33c1) (Value.slice x33a2 x33l2 x33c2) from ⟨H4.out.1.below hb, below_thn H4.out.2.1 hb (Nat.le_refl _), H4.out.2.2.1.below hb H4.out.2.2.1.lt, H4.out.2.2.2.1.below hb H4.out.2.2.2.1.lt, H4.out.2.2.2.2.1.below hb H4.out.2.2.2.2.1.lt, H4.out.2.2.2.2.2, hs, hab⟩)
    clear hs hb hab
    have HOF := Lib.hid (show Off w2.heap.size (Value.slice x33a0 x33l0 x33c0) (Value.slice x33a1 x33l1 x33c1) (Value.slice x33a2 x33l2 x33c2) from off_abv HY35.out.2.2.2.2.2.2.2 H4.out.2.2.2.2.1.lt)
    go_wp2_with ((with_reducible refine wpList_store_blk y34 rfl 24 (.tmp 4) (.tmp 55) rfl w2.heap.size 24 (pmC 0 0 (.slice none 0 0) (.slice none 0 0) (.slice none 0 0)) (pmC q.o q.e (Value.slice x33a0 x33l0 x33c0) (Value.slice x33a1 x33l1 x33c1) (Value.slice x33a2 x33l2 x33c2)) HY35.out.2.2.2.2.1 rfl rfl rfl (pmC_info _ _ _ _ _) (pmC_one _ _ _ _ _ _ _ _ _ _ _) ?_); intro w9 hb hc hs; have H9 := Lib.hid (show Blk w9 w2.heap.size 24 (pmC q.o q.e (Value.slice x33a0 x33l0 x33c0) (Value.slice x33a1 x33l1 x33c1) (Value.slice x33a2 x33l2 x33c2)) ∧ Ch (· = w2.heap.size) y34 w9 from ⟨hb, hc⟩); clear hb hc hs)
    refine bodyPost_ret (results_cellTmp Try.results13 _ _ w2.heap.size _ _ rfl H9.out.1 _ Try.underlying24 rfl (pmC_info _ _ _ _ _) _ rfl) rfl ?_
    exact ⟨_, _, _, rfl, HY35.out.2.2.2.2.2.2.1.ch H9.out.2 HOF.out, below_ch HY35.out.2.1 H9.out.2 (Nat.le_refl _) (fun k hk => by have e : k = w2.heap.size := hk; have := HY35.out.2.2.2.2.2.1; omega), HY35.out.2.2.2.2.2.2.2.mono H4.out.2.1.size⟩


end Go.Proofs.Ytampheimonmggaa
