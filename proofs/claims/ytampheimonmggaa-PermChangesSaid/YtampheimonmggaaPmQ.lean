/-
  Law 11: PermBack, walked. Conditions: the numbers are int's.
-/
import Derived.Test.YtampheimonmggaaPmO
import Derived.Test.YtampheimonmggaaPmP
import Derived.Test.YtampheimonmggaaFrameP
namespace Go.Proofs.Ytampheimonmggaa
open Go Go.RowKit Go.Sort
set_option linter.unusedSimpArgs false
set_option linter.unusedVariables false

theorem Sl.stay {w w1 w2 : World} {g : Nat} {v : Value} {xs : List Value} (h : Sl w v xs) (hb : Below w.heap.size w w1) (hc : Ch (· = g) w1 w2) (hg : w.heap.size ≤ g) : Sl w2 v xs := by
  rcases h with h | ⟨ad, c, h1, h2, h3, h4⟩
  · exact .inl h
  · refine .inr ⟨ad, c, h1, h2, h3, fun i u hu => ?_⟩
    have hcc := h4 i u hu
    have hlt := block_of_cell hcc
    have hc1 := hb.cell hlt
    rw [hc.cell (Nat.lt_of_lt_of_le hlt hb.size) (fun e => by have e : (ad.add i).block = g := e; omega), hc1]
    exact hcc
theorem PmS.stay {w w1 w2 : World} {g : Nat} {p : PmD} {vr vq vg : Value} (h : PmS w p vr vq vg) (hb : Below w.heap.size w w1) (hc : Ch (· = g) w1 w2) (hg : w.heap.size ≤ g) : PmS w2 p vr vq vg :=
  ⟨h.1.stay hb hc hg, h.2.1.stay hb hc hg, h.2.2.stay hb hc hg⟩
theorem withL_len (l : List Int) (x : Int) : (withL l x).length ≤ l.length + 1 := by
  unfold withL
  split
  · omega
  · rw [insL_length (lessN_le l x)]; exact Nat.le_refl _
theorem keepL_len (P : Int → Bool) (l : List Int) : (keepL P l).length ≤ l.length := List.length_filter_le _ _
def PmN (k : Nat) (p : PmD) : Prop := p.r.length ≤ k ∧ p.q.length ≤ k ∧ p.g.length ≤ k
theorem PmN.l {k : Nat} {p : PmD} (h : PmN k p) (hk : k ≤ 1000000) : PmL p := ⟨Nat.le_trans h.1 hk, Nat.le_trans h.2.1 hk, Nat.le_trans h.2.2 hk⟩
theorem noP_N (k : Nat) : PmN k noP := ⟨Nat.zero_le _, Nat.zero_le _, Nat.zero_le _⟩
theorem turn_N {k : Nat} {p : PmD} {r : Int × PmD} (h : PmN k r.2) : PmN k (turnR p r).1 := by
  unfold turnR
  split
  · split
    · exact h
    · exact noP_N k
  · exact noP_N k
theorem share_N {k : Nat} {p : PmD} (h : PmN k p) (b n : Int) (wr : Bool) : PmN (k + 1) (shareR p b n wr).2 := by
  have h' : PmN (k + 1) p := ⟨Nat.le_succ_of_le h.1, Nat.le_succ_of_le h.2.1, Nat.le_succ_of_le h.2.2⟩
  unfold shareR
  split
  · exact h'
  · split
    · exact h'
    · split
      · exact h'
      · refine ⟨Nat.le_trans (withL_len _ _) (Nat.succ_le_succ h.1), ?_, h'.2.2⟩
        show (if wr = true then withL p.q n else p.q).length ≤ _
        split
        · exact Nat.le_trans (withL_len _ _) (Nat.succ_le_succ h.2.1)
        · exact h'.2.1
theorem large_no {p : PmD} (h : largeB p = false) : PmN 100 p := by
  unfold largeB at h
  simp only [Bool.or_eq_false_iff, decide_eq_false_iff_not] at h
  exact ⟨by omega, by omega, by omega⟩

set_option maxRecDepth 100000 in
set_option maxHeartbeats 8000000 in
theorem permBack_walk (p : PmD) (vr vq vg : Value) (n : Int) (wr : Bool) (w : World) (hp : PmS w p vr vq vg) (hpi : PmI p) (hni : -9223372036854775808 ≤ n ∧ n ≤ 9223372036854775807) :
    Calls Try.prog 3 #[.agg (pmC p.o p.e vr vq vg).toArray, .int .i64 n, .bool wr] w (TrueP w) := by
  obtain ⟨ra, rc, rfl, -⟩ := hp.1.nums
  obtain ⟨qa, qc, rfl, -⟩ := hp.2.1.nums
  obtain ⟨ga, gc, rfl, -⟩ := hp.2.2.nums
  obtain ⟨o, pe, pr, pq, pg⟩ := p
  simp only at hp ⊢
  obtain ⟨rl, e1⟩ : ∃ n, pr.length = n := ⟨_, rfl⟩
  generalize pq.length = ql at hp ⊢
  generalize pg.length = gl at hp ⊢
  rw [e1] at hp ⊢
  have HLN := Lib.hid e1
  have H0 := Lib.hid (show PmS w ⟨o, pe, pr, pq, pg⟩ (Value.slice ra rl rc) (Value.slice qa ql qc) (Value.slice ga gl gc) ∧ Below w.heap.size w w from ⟨hp, Below.refl _ _⟩)
  obtain ⟨lg, hlg⟩ : ∃ b, largeB ⟨o, pe, pr, pq, pg⟩ = b := ⟨_, rfl⟩
  have HLG := Lib.hid hlg
  clear hp hpi hni e1 hlg
  go_enter Try.func3, Try.ntmps3
  go_wp2_with (first
    | ((with_reducible refine wpList_box_blk w rfl 24 (.tmp 0) rfl (pmC o pe (Value.slice ra rl rc) (Value.slice qa ql qc) (Value.slice ga gl gc)) rfl ?_); intro a1 hb hbel hsz; have HA2 := Lib.hid (show PmS a1 ⟨o, pe, pr, pq, pg⟩ (Value.slice ra rl rc) (Value.slice qa ql qc) (Value.slice ga gl gc) ∧ Below w.heap.size w a1 ∧ Blk a1 w.heap.size 24 (pmC o pe (Value.slice ra rl rc) (Value.slice qa ql qc) (Value.slice ga gl gc)) from ⟨H0.out.1.below hbel, below_thn H0.out.2 hbel (Nat.le_refl _), hb⟩); clear hb hbel hsz))
  refine (wakes11_any a1).mono ?_
  rintro e' y1 ⟨rfl, hb⟩
  have HY1 := Lib.hid (show PmS y1 ⟨o, pe, pr, pq, pg⟩ (Value.slice ra rl rc) (Value.slice qa ql qc) (Value.slice ga gl gc) ∧ Below w.heap.size w y1 ∧ Blk y1 w.heap.size 24 (pmC o pe (Value.slice ra rl rc) (Value.slice qa ql qc) (Value.slice ga gl gc)) from ⟨HA2.out.1.below hb, below_thn HA2.out.2.1 hb (Nat.le_refl _), HA2.out.2.2.below hb HA2.out.2.2.lt⟩)
  clear hb
  go_wp2_with (with_reducible refine wpList_load_any rfl 24 (.tmp 3) rfl w.heap.size 0 rfl (pmC o pe (Value.slice ra rl rc) (Value.slice qa ql qc) (Value.slice ga gl gc)) _ (rangeW_blk HY1.out.2.2) Try.underlying24 rfl (pmC_info _ _ _ _ _) ?_)
  have h1 := large_any ⟨o, pe, pr, pq, pg⟩ _ _ _ y1 HY1.out.1
  rw [HLG.out] at h1
  refine Calls.mono h1 ?_
  clear h1
  rintro e' y2 ⟨rfl, hb⟩
  have HY2 := Lib.hid (show PmS y2 ⟨o, pe, pr, pq, pg⟩ (Value.slice ra rl rc) (Value.slice qa ql qc) (Value.slice ga gl gc) ∧ Below w.heap.size w y2 ∧ Blk y2 w.heap.size 24 (pmC o pe (Value.slice ra rl rc) (Value.slice qa ql qc) (Value.slice ga gl gc)) from ⟨HY1.out.1.below hb, below_thn HY1.out.2.1 hb (Nat.le_refl _), HY1.out.2.2.below hb HY1.out.2.2.lt⟩)
  clear hb
  cases lg
  rotate_left
  · go_wp2_with fail
    go_ret
    exact ⟨rfl, HY2.out.2.1⟩
  have HN := Lib.hid (large_no HLG.out)
  have c2 := HY2.out.2.2.cell 2
  simp only [pmC, List.getElem?_cons_zero, List.getElem?_cons_succ] at c2
  obtain ⟨ao0, c0, e0, hrc, hcm, hcell⟩ := HY2.out.1.1.nums
  have HCELL := Lib.hid hcell
  simp only [Value.slice.injEq, HLN.out] at e0
  obtain ⟨rfl, -, rfl⟩ := e0
  have hrlc : rl ≤ rc := by rw [← HLN.out]; exact hrc
  clear hcell hrc
  go_wp2_with fail
  clear c2
  go_loop [8, 19] (fun _ i => ∃ k : Nat, k ≤ rl ∧ i = .int .i64 k ∧ Hid (∀ j, j < k → pr.getD j 0 ≠ n)) (fun _ i => rl - (intOf i).toNat)
  case atStart => exact ⟨0, Nat.zero_le _, rfl, Lib.hid (fun j hj => by omega)⟩
  case round =>
    obtain ⟨k, hk, rfl, HT⟩ := hrel
    by_cases hlt : k < rl
    · have hkl : k < pr.length := by rw [HLN.out]; exact hlt
      have hkz : (k : Int) < (rl : Int) := by omega
      have hk0 : (0 : Int) ≤ (k : Int) := by omega
      obtain ⟨b, oo, rfl, -, hcell⟩ := HCELL.out (by omega)
      have c1 := hcell k hkl
      have hat := getD_at hkl
      generalize pr[k] = y at c1 hat
      have HAT := Lib.hid hat
      clear hcell hat hkl
      by_cases hyn : y = n
      · have e1 : (y == n) = true := by simpa using hyn
        clear hyn
        go_wp2_with fail
        go_ret
        exact ⟨rfl, HY2.out.2.1⟩
      · have e1 : (y == n) = false := by simpa using hyn
        have HNE := Lib.hid hyn
        clear hyn
        go_wp2_with fail
        go_round
        case rel => exact ⟨k + 1, by omega, by go_num, Lib.hid (fun j hj => by
          rcases Nat.lt_or_ge j k with h | h
          · exact HT.out j h
          · obtain rfl : j = k := by omega
            rw [HAT.out]; exact HNE.out)⟩
        case measure => simp [intOf]; omega
    · have hge : ¬ (k : Int) < (rl : Int) := by omega
      have HNI := Lib.hid (show n ∉ pr from fun h => by
        obtain ⟨j, hj, e⟩ := List.mem_iff_getElem.1 h
        exact HT.out j (by rw [HLN.out] at hj; omega) (by rw [getD_at hj]; exact e))
      clear hlt hk HT
      obtain ⟨⟨q1, q2⟩, hq⟩ : ∃ q, turnR ⟨o, pe, pr, pq, pg⟩ (shareR ⟨o, pe, pr, pq, pg⟩ o n wr) = q := ⟨_, rfl⟩
      have HLAW := Lib.hid (back_law (p := ⟨o, pe, pr, pq, pg⟩) (n := n) (wr := wr) HNI.out hq)
      have HQN := Lib.hid (show PmN 101 q1 from by have := turn_N (p := ⟨o, pe, pr, pq, pg⟩) (share_N HN.out o n wr); rw [hq] at this; exact this)
      have HQ := Lib.hid hq
      clear hq
      have c0 := HY2.out.2.2.cell 0
      simp only [pmC, List.getElem?_cons_zero, List.getElem?_cons_succ] at c0
      go_wp2_with (with_reducible refine wpList_load_any rfl 24 (.tmp 3) rfl w.heap.size 0 rfl (pmC o pe (Value.slice ra rl rc) (Value.slice qa ql qc) (Value.slice ga gl gc)) _ (rangeW_blk HY2.out.2.2) Try.underlying24 rfl (pmC_info _ _ _ _ _) ?_)
      have h1 := share_any ⟨o, pe, pr, pq, pg⟩ o n wr _ _ _ y2 HY2.out.1 (HN.out.l (by omega))
      rw [HQ.out] at h1
      refine (calls_perm h1).mono ?_
      clear h1 c0
      rintro e' y4 ⟨x3r, x3q, x3g, rfl, hs, hb, hab⟩
      obtain ⟨x3a0, x3c0, rfl, -⟩ := hs.1.shape
      obtain ⟨x3a1, x3c1, rfl, -⟩ := hs.2.1.shape
      obtain ⟨x3a2, x3c2, rfl, -⟩ := hs.2.2.shape
      generalize (ofK .i64 q1.r).length = x3l0 at hs hab ⊢
      generalize (ofK .i64 q1.q).length = x3l1 at hs hab ⊢
      generalize (ofK .i64 q1.g).length = x3l2 at hs hab ⊢
      have HY5 := Lib.hid (show PmS y4 ⟨o, pe, pr, pq, pg⟩ (Value.slice ra rl rc) (Value.slice qa ql qc) (Value.slice ga gl gc) ∧ Below w.heap.size w y4 ∧ Blk y4 w.heap.size 24 (pmC o pe (Value.slice ra rl rc) (Value.slice qa ql qc) (Value.slice ga gl gc)) ∧ PmS y4 q1 (Value.slice x3a0 x3l0 x3c0) (Value.slice x3a1 x3l1 x3c1) (Value.slice x3a2 x3l2 x3c2) ∧ AbvS y2.heap.size (Value.slice x3a0 x3l0 x3c0) (Value.slice x3a1 x3l1 x3c1) (Value.slice x3a2 x3l2 x3c2) from ⟨HY2.out.1.below hb, below_thn HY2.out.2.1 hb (Nat.le_refl _), HY2.out.2.2.below hb HY2.out.2.2.lt, hs, hab⟩)
      clear hs hb hab
      rcases HLAW.out with ⟨h1, h2⟩ | ⟨h1, h2⟩
      · have e1 : (q2 != 0) = true := by simpa using h1
        have HK := Lib.hid h2
        clear h1 h2
        go_wp2_with (first
    | ((with_reducible refine wpList_alloc_blk y4 rfl 24 rfl (pmC 0 0 (.slice none 0 0) (.slice none 0 0) (.slice none 0 0)) Try.zeroPm ?_); intro a6 hb hbel hsz; have HA8 := Lib.hid (And.intro hb hbel); clear hb hbel hsz)
    | ((with_reducible refine wpList_store_blk a6 rfl 24 (.tmp 9) (.tmp 34) rfl y4.heap.size 24 (pmC 0 0 (.slice none 0 0) (.slice none 0 0) (.slice none 0 0)) (pmC q1.o q1.e (Value.slice x3a0 x3l0 x3c0) (Value.slice x3a1 x3l1 x3c1) (Value.slice x3a2 x3l2 x3c2)) HA8.out.1 rfl rfl rfl (pmC_info _ _ _ _ _) (pmC_one _ _ _ _ _ _ _ _ _ _ _) ?_); intro a7 hb hc hs; have hbw : Below y4.heap.size y4 a7 := below_ch HA8.out.2 hc (Nat.le_refl _) (fun k hk => by have e : k = y4.heap.size := hk; omega); have HA9 := Lib.hid (show PmS a7 ⟨o, pe, pr, pq, pg⟩ (Value.slice ra rl rc) (Value.slice qa ql qc) (Value.slice ga gl gc) ∧ Below w.heap.size w a7 ∧ Blk a7 w.heap.size 24 (pmC o pe (Value.slice ra rl rc) (Value.slice qa ql qc) (Value.slice ga gl gc)) ∧ PmS a7 q1 (Value.slice x3a0 x3l0 x3c0) (Value.slice x3a1 x3l1 x3c1) (Value.slice x3a2 x3l2 x3c2) ∧ AbvS y2.heap.size (Value.slice x3a0 x3l0 x3c0) (Value.slice x3a1 x3l1 x3c1) (Value.slice x3a2 x3l2 x3c2) ∧ Blk a7 y4.heap.size 24 (pmC q1.o q1.e (Value.slice x3a0 x3l0 x3c0) (Value.slice x3a1 x3l1 x3c1) (Value.slice x3a2 x3l2 x3c2)) from ⟨HY5.out.1.below hbw, below_thn HY5.out.2.1 hbw (Nat.le_refl _), HY5.out.2.2.1.below hbw HY5.out.2.2.1.lt, HY5.out.2.2.2.1.below hbw, HY5.out.2.2.2.2, hb⟩); clear hb hc hs hbw)
    | (with_reducible refine wpList_load_any rfl 24 (.tmp 9) rfl y4.heap.size 0 rfl (pmC q1.o q1.e (Value.slice x3a0 x3l0 x3c0) (Value.slice x3a1 x3l1 x3c1) (Value.slice x3a2 x3l2 x3c2)) _ (rangeW_blk HA9.out.2.2.2.2.2) Try.underlying24 rfl (pmC_info _ _ _ _ _) ?_))
        refine (check_of q1 false HK.out _ _ _ a7 HA9.out.2.2.2.1).mono ?_
        rintro e' y9 ⟨rfl, hb⟩
        have HY9 := Lib.hid (show PmS y9 ⟨o, pe, pr, pq, pg⟩ (Value.slice ra rl rc) (Value.slice qa ql qc) (Value.slice ga gl gc) ∧ Below w.heap.size w y9 ∧ Blk y9 w.heap.size 24 (pmC o pe (Value.slice ra rl rc) (Value.slice qa ql qc) (Value.slice ga gl gc)) ∧ PmS y9 q1 (Value.slice x3a0 x3l0 x3c0) (Value.slice x3a1 x3l1 x3c1) (Value.slice x3a2 x3l2 x3c2) ∧ AbvS y2.heap.size (Value.slice x3a0 x3l0 x3c0) (Value.slice x3a1 x3l1 x3c1) (Value.slice x3a2 x3l2 x3c2) ∧ Blk y9 y4.heap.size 24 (pmC q1.o q1.e (Value.slice x3a0 x3l0 x3c0) (Value.slice x3a1 x3l1 x3c1) (Value.slice x3a2 x3l2 x3c2)) from ⟨HA9.out.1.below hb, below_thn HA9.out.2.1 hb (Nat.le_refl _), HA9.out.2.2.1.below hb HA9.out.2.2.1.lt, HA9.out.2.2.2.1.below hb, HA9.out.2.2.2.2.1, HA9.out.2.2.2.2.2.below hb HA9.out.2.2.2.2.2.lt⟩)
        clear hb
        go_wp2_with fail
        go_ret
        exact ⟨rfl, HY9.out.2.1⟩
      · obtain rfl : q2 = 0 := h1
        have HB2 := Lib.hid (fun (r : PmD × Int) (h : turnR q1 (backR q1 o n) = r) => h2 h)
        clear h2
        have c0 := HY5.out.2.2.1.cell 0
        simp only [pmC, List.getElem?_cons_zero, List.getElem?_cons_succ] at c0
        clear c0
        go_wp2_with (first
    | ((with_reducible refine wpList_alloc_blk y4 rfl 24 rfl (pmC 0 0 (.slice none 0 0) (.slice none 0 0) (.slice none 0 0)) Try.zeroPm ?_); intro a10 hb hbel hsz; have HA12 := Lib.hid (And.intro hb hbel); clear hb hbel hsz)
    | ((with_reducible refine wpList_store_blk a10 rfl 24 (.tmp 9) (.tmp 34) rfl y4.heap.size 24 (pmC 0 0 (.slice none 0 0) (.slice none 0 0) (.slice none 0 0)) (pmC q1.o q1.e (Value.slice x3a0 x3l0 x3c0) (Value.slice x3a1 x3l1 x3c1) (Value.slice x3a2 x3l2 x3c2)) HA12.out.1 rfl rfl rfl (pmC_info _ _ _ _ _) (pmC_one _ _ _ _ _ _ _ _ _ _ _) ?_); intro a11 hb hc hs; have hbw : Below y4.heap.size y4 a11 := below_ch HA12.out.2 hc (Nat.le_refl _) (fun k hk => by have e : k = y4.heap.size := hk; omega); have HA13 := Lib.hid (show PmS a11 ⟨o, pe, pr, pq, pg⟩ (Value.slice ra rl rc) (Value.slice qa ql qc) (Value.slice ga gl gc) ∧ Below w.heap.size w a11 ∧ Blk a11 w.heap.size 24 (pmC o pe (Value.slice ra rl rc) (Value.slice qa ql qc) (Value.slice ga gl gc)) ∧ PmS a11 q1 (Value.slice x3a0 x3l0 x3c0) (Value.slice x3a1 x3l1 x3c1) (Value.slice x3a2 x3l2 x3c2) ∧ AbvS y2.heap.size (Value.slice x3a0 x3l0 x3c0) (Value.slice x3a1 x3l1 x3c1) (Value.slice x3a2 x3l2 x3c2) ∧ Blk a11 y4.heap.size 24 (pmC q1.o q1.e (Value.slice x3a0 x3l0 x3c0) (Value.slice x3a1 x3l1 x3c1) (Value.slice x3a2 x3l2 x3c2)) from ⟨HY5.out.1.below hbw, below_thn HY5.out.2.1 hbw (Nat.le_refl _), HY5.out.2.2.1.below hbw HY5.out.2.2.1.lt, HY5.out.2.2.2.1.below hbw, HY5.out.2.2.2.2, hb⟩); have c0 := HA13.out.2.2.1.cell 0; simp only [pmC, List.getElem?_cons_zero, List.getElem?_cons_succ] at c0; clear hb hc hs hbw)
    | (with_reducible refine wpList_load_any rfl 24 (.tmp 9) rfl y4.heap.size 0 rfl (pmC q1.o q1.e (Value.slice x3a0 x3l0 x3c0) (Value.slice x3a1 x3l1 x3c1) (Value.slice x3a2 x3l2 x3c2)) _ (rangeW_blk HA13.out.2.2.2.2.2) Try.underlying24 rfl (pmC_info _ _ _ _ _) ?_))
        obtain ⟨⟨r1, r2⟩, hr⟩ : ∃ r, turnR q1 (backR q1 o n) = r := ⟨_, rfl⟩
        have HLR := Lib.hid (HB2.out _ hr)
        have h1 := back_any q1 o n _ _ _ a11 HA13.out.2.2.2.1 (HQN.out.l (by omega))
        rw [hr] at h1
        refine (calls_perm h1).mono ?_
        clear h1 hr c0
        rintro e' y15 ⟨x14r, x14q, x14g, rfl, hs, hb, hab⟩
        obtain ⟨x14a0, x14c0, rfl, -⟩ := hs.1.shape
        obtain ⟨x14a1, x14c1, rfl, -⟩ := hs.2.1.shape
        obtain ⟨x14a2, x14c2, rfl, -⟩ := hs.2.2.shape
        generalize (ofK .i64 r1.r).length = x14l0 at hs hab ⊢
        generalize (ofK .i64 r1.q).length = x14l1 at hs hab ⊢
        generalize (ofK .i64 r1.g).length = x14l2 at hs hab ⊢
        have HY16 := Lib.hid (show PmS y15 ⟨o, pe, pr, pq, pg⟩ (Value.slice ra rl rc) (Value.slice qa ql qc) (Value.slice ga gl gc) ∧ Below w.heap.size w y15 ∧ Blk y15 w.heap.size 24 (pmC o pe (Value.slice ra rl rc) (Value.slice qa ql qc) (Value.slice ga gl gc)) ∧ PmS y15 q1 (Value.slice x3a0 x3l0 x3c0) (Value.slice x3a1 x3l1 x3c1) (Value.slice x3a2 x3l2 x3c2) ∧ AbvS y2.heap.size (Value.slice x3a0 x3l0 x3c0) (Value.slice x3a1 x3l1 x3c1) (Value.slice x3a2 x3l2 x3c2) ∧ Blk y15 y4.heap.size 24 (pmC q1.o q1.e (Value.slice x3a0 x3l0 x3c0) (Value.slice x3a1 x3l1 x3c1) (Value.slice x3a2 x3l2 x3c2)) ∧ PmS y15 r1 (Value.slice x14a0 x14l0 x14c0) (Value.slice x14a1 x14l1 x14c1) (Value.slice x14a2 x14l2 x14c2) ∧ AbvS a11.heap.size (Value.slice x14a0 x14l0 x14c0) (Value.slice x14a1 x14l1 x14c1) (Value.slice x14a2 x14l2 x14c2) from ⟨HA13.out.1.below hb, below_thn HA13.out.2.1 hb (Nat.le_refl _), HA13.out.2.2.1.below hb HA13.out.2.2.1.lt, HA13.out.2.2.2.1.below hb, HA13.out.2.2.2.2.1, HA13.out.2.2.2.2.2.below hb HA13.out.2.2.2.2.2.lt, hs, hab⟩)
        clear hs hb hab
        rcases HLR.out with ⟨h1, h2, h3⟩ | ⟨h1, h2, h3, h3b, h4⟩
        · obtain rfl : r2 = 212 := h2
          have e8 : (pe == 8) = true := by simpa using h3
          clear h1 h3
          go_wp2_with (first
    | ((with_reducible refine wpList_alloc_blk y15 rfl 24 rfl (pmC 0 0 (.slice none 0 0) (.slice none 0 0) (.slice none 0 0)) Try.zeroPm ?_); intro a17 hb hbel hsz; have HA19 := Lib.hid (And.intro hb hbel); clear hb hbel hsz)
    | ((with_reducible refine wpList_store_blk a17 rfl 24 (.tmp 11) (.tmp 47) rfl y15.heap.size 24 (pmC 0 0 (.slice none 0 0) (.slice none 0 0) (.slice none 0 0)) (pmC r1.o r1.e (Value.slice x14a0 x14l0 x14c0) (Value.slice x14a1 x14l1 x14c1) (Value.slice x14a2 x14l2 x14c2)) HA19.out.1 rfl rfl rfl (pmC_info _ _ _ _ _) (pmC_one _ _ _ _ _ _ _ _ _ _ _) ?_); intro a18 hb hc hs; have hbw : Below y15.heap.size y15 a18 := below_ch HA19.out.2 hc (Nat.le_refl _) (fun k hk => by have e : k = y15.heap.size := hk; omega); have HA20 := Lib.hid (show PmS a18 ⟨o, pe, pr, pq, pg⟩ (Value.slice ra rl rc) (Value.slice qa ql qc) (Value.slice ga gl gc) ∧ Below w.heap.size w a18 ∧ Blk a18 w.heap.size 24 (pmC o pe (Value.slice ra rl rc) (Value.slice qa ql qc) (Value.slice ga gl gc)) ∧ PmS a18 q1 (Value.slice x3a0 x3l0 x3c0) (Value.slice x3a1 x3l1 x3c1) (Value.slice x3a2 x3l2 x3c2) ∧ AbvS y2.heap.size (Value.slice x3a0 x3l0 x3c0) (Value.slice x3a1 x3l1 x3c1) (Value.slice x3a2 x3l2 x3c2) ∧ Blk a18 y4.heap.size 24 (pmC q1.o q1.e (Value.slice x3a0 x3l0 x3c0) (Value.slice x3a1 x3l1 x3c1) (Value.slice x3a2 x3l2 x3c2)) ∧ PmS a18 r1 (Value.slice x14a0 x14l0 x14c0) (Value.slice x14a1 x14l1 x14c1) (Value.slice x14a2 x14l2 x14c2) ∧ AbvS a11.heap.size (Value.slice x14a0 x14l0 x14c0) (Value.slice x14a1 x14l1 x14c1) (Value.slice x14a2 x14l2 x14c2) ∧ Blk a18 y15.heap.size 24 (pmC r1.o r1.e (Value.slice x14a0 x14l0 x14c0) (Value.slice x14a1 x14l1 x14c1) (Value.slice x14a2 x14l2 x14c2)) from ⟨HY16.out.1.below hbw, below_thn HY16.out.2.1 hbw (Nat.le_refl _), HY16.out.2.2.1.below hbw HY16.out.2.2.1.lt, HY16.out.2.2.2.1.below hbw, HY16.out.2.2.2.2.1, HY16.out.2.2.2.2.2.1.below hbw HY16.out.2.2.2.2.2.1.lt, HY16.out.2.2.2.2.2.2.1.below hbw, HY16.out.2.2.2.2.2.2.2, hb⟩); have c1 := HA20.out.2.2.1.cell 1; simp only [pmC, List.getElem?_cons_zero, List.getElem?_cons_succ] at c1; clear hb hc hs hbw))
          go_ret
          exact ⟨rfl, HA20.out.2.1⟩
        · obtain rfl : r2 = 0 := h1
          have HW := Lib.hid (show IntKind.i64.wrap (r1.e - 1) = r1.e - 1 ∧ ({ r1 with e := r1.e - 1 } : PmD) = ⟨o, pe, pr, pq, pg⟩ from ⟨by simp only at h3 h3b; rw [IntKind.wrap_i64]; omega, h4⟩)
          have hwp := HW.out.1
          clear h2 h3 h3b h4
          go_wp2_with (first
    | ((with_reducible refine wpList_alloc_blk y15 rfl 24 rfl (pmC 0 0 (.slice none 0 0) (.slice none 0 0) (.slice none 0 0)) Try.zeroPm ?_); intro a21 hb hbel hsz; have HA23 := Lib.hid (And.intro hb hbel); clear hb hbel hsz)
    | ((with_reducible refine wpList_store_blk a21 rfl 24 (.tmp 11) (.tmp 47) rfl y15.heap.size 24 (pmC 0 0 (.slice none 0 0) (.slice none 0 0) (.slice none 0 0)) (pmC r1.o r1.e (Value.slice x14a0 x14l0 x14c0) (Value.slice x14a1 x14l1 x14c1) (Value.slice x14a2 x14l2 x14c2)) HA23.out.1 rfl rfl rfl (pmC_info _ _ _ _ _) (pmC_one _ _ _ _ _ _ _ _ _ _ _) ?_); intro a22 hb hc hs; have hbw : Below y15.heap.size y15 a22 := below_ch HA23.out.2 hc (Nat.le_refl _) (fun k hk => by have e : k = y15.heap.size := hk; omega); have HA24 := Lib.hid (show PmS a22 ⟨o, pe, pr, pq, pg⟩ (Value.slice ra rl rc) (Value.slice qa ql qc) (Value.slice ga gl gc) ∧ Below w.heap.size w a22 ∧ Blk a22 w.heap.size 24 (pmC o pe (Value.slice ra rl rc) (Value.slice qa ql qc) (Value.slice ga gl gc)) ∧ PmS a22 q1 (Value.slice x3a0 x3l0 x3c0) (Value.slice x3a1 x3l1 x3c1) (Value.slice x3a2 x3l2 x3c2) ∧ AbvS y2.heap.size (Value.slice x3a0 x3l0 x3c0) (Value.slice x3a1 x3l1 x3c1) (Value.slice x3a2 x3l2 x3c2) ∧ Blk a22 y4.heap.size 24 (pmC q1.o q1.e (Value.slice x3a0 x3l0 x3c0) (Value.slice x3a1 x3l1 x3c1) (Value.slice x3a2 x3l2 x3c2)) ∧ PmS a22 r1 (Value.slice x14a0 x14l0 x14c0) (Value.slice x14a1 x14l1 x14c1) (Value.slice x14a2 x14l2 x14c2) ∧ AbvS a11.heap.size (Value.slice x14a0 x14l0 x14c0) (Value.slice x14a1 x14l1 x14c1) (Value.slice x14a2 x14l2 x14c2) ∧ Blk a22 y15.heap.size 24 (pmC r1.o r1.e (Value.slice x14a0 x14l0 x14c0) (Value.slice x14a1 x14l1 x14c1) (Value.slice x14a2 x14l2 x14c2)) from ⟨HY16.out.1.below hbw, below_thn HY16.out.2.1 hbw (Nat.le_refl _), HY16.out.2.2.1.below hbw HY16.out.2.2.1.lt, HY16.out.2.2.2.1.below hbw, HY16.out.2.2.2.2.1, HY16.out.2.2.2.2.2.1.below hbw HY16.out.2.2.2.2.2.1.lt, HY16.out.2.2.2.2.2.2.1.below hbw, HY16.out.2.2.2.2.2.2.2, hb⟩); have c1 := HA24.out.2.2.2.2.2.2.2.2.cell 1; have f1 := HA24.out.2.2.2.2.2.2.2.2.free 1; simp only [pmC, List.getElem?_cons_zero, List.getElem?_cons_succ] at c1; have hc9 := Ch.set a22 ⟨y15.heap.size, 1, none⟩ (Value.int .i64 (r1.e - 1)); have hlt := HY16.out.2.2.1.lt; have HZ9 := Lib.hid (show Blk (a22.setCell ⟨y15.heap.size, 1, none⟩ (Value.int .i64 (r1.e - 1))) w.heap.size 24 (pmC o pe (Value.slice ra rl rc) (Value.slice qa ql qc) (Value.slice ga gl gc)) ∧ Blk (a22.setCell ⟨y15.heap.size, 1, none⟩ (Value.int .i64 (r1.e - 1))) y15.heap.size 24 (pmC r1.o (r1.e - 1) (Value.slice x14a0 x14l0 x14c0) (Value.slice x14a1 x14l1 x14c1) (Value.slice x14a2 x14l2 x14c2)) ∧ PmS (a22.setCell ⟨y15.heap.size, 1, none⟩ (Value.int .i64 (r1.e - 1))) ⟨o, pe, pr, pq, pg⟩ (Value.slice ra rl rc) (Value.slice qa ql qc) (Value.slice ga gl gc) ∧ PmS (a22.setCell ⟨y15.heap.size, 1, none⟩ (Value.int .i64 (r1.e - 1))) r1 (Value.slice x14a0 x14l0 x14c0) (Value.slice x14a1 x14l1 x14c1) (Value.slice x14a2 x14l2 x14c2) ∧ Below w.heap.size w (a22.setCell ⟨y15.heap.size, 1, none⟩ (Value.int .i64 (r1.e - 1))) from ⟨HA24.out.2.2.1.keep hc9 (fun e => by have e : w.heap.size = y15.heap.size := e; omega), HA24.out.2.2.2.2.2.2.2.2.set 1 (Value.int .i64 (r1.e - 1)), H0.out.1.stay HA24.out.2.1 hc9 (by show w.heap.size ≤ y15.heap.size; omega), HY16.out.2.2.2.2.2.2.1.stay hbw hc9 (Nat.le_refl _), below_ch HA24.out.2.1 hc9 (Nat.le_refl _) (fun k hk => by have e : k = y15.heap.size := hk; omega)⟩); clear hb hc hs hbw hc9 hlt)
    | (with_reducible refine wpList_load_any rfl 24 (.tmp 3) rfl w.heap.size 0 rfl (pmC o pe (Value.slice ra rl rc) (Value.slice qa ql qc) (Value.slice ga gl gc)) _ (rangeW_blk HZ9.out.1) Try.underlying24 rfl (pmC_info _ _ _ _ _) ?_)
    | (with_reducible refine wpList_load_any rfl 24 (.tmp 11) rfl y15.heap.size 0 rfl (pmC r1.o (r1.e - 1) (Value.slice x14a0 x14l0 x14c0) (Value.slice x14a1 x14l1 x14c1) (Value.slice x14a2 x14l2 x14c2)) _ (rangeW_blk HZ9.out.2.1) Try.underlying24 rfl (pmC_info _ _ _ _ _) ?_))
          have h1 := psame_any ⟨o, pe, pr, pq, pg⟩ { r1 with e := r1.e - 1 } _ _ _ _ _ _ (a22.setCell ⟨y15.heap.size, 1, none⟩ (Value.int .i64 (r1.e - 1))) HZ9.out.2.2.1 HZ9.out.2.2.2.1
          rw [samePB_iff _ _ |>.2 HW.out.2.symm] at h1
          refine Calls.mono h1 ?_
          clear h1
          rintro e' y99 ⟨rfl, hb⟩
          have HE := Lib.hid (below_thn HZ9.out.2.2.2.2 hb (Nat.le_refl _))
          clear hb
          go_wp2_with fail
          go_ret
          exact ⟨rfl, HE.out⟩


end Go.Proofs.Ytampheimonmggaa
