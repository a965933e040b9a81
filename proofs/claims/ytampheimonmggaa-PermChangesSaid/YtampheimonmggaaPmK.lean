/-
  What Back, ShareGroup and BackGroup of package perm do, walked. Conditions: permissions that may be.
-/
import Derived.Test.YtampheimonmggaaPmJ
namespace Go.Proofs.Ytampheimonmggaa
open Go Go.RowKit Go.Sort
set_option linter.unusedSimpArgs false
set_option linter.unusedVariables false

/-- the epoch may be -/
def PmE (p : PmD) : Prop := 1 ≤ p.e ∧ p.e ≤ 8
def shareGR (p : PmD) (by' n : Int) : Int × PmD := if by' ≠ p.o then (211, p) else if groupB n = false then (2, p) else if inB p.g n = true then (5, p) else (0, { p with g := withL p.g n })
def backGR (p : PmD) (by' n : Int) : Int × PmD := if by' ≠ p.o then (211, p) else if groupB n = false then (2, p) else if inB p.g n = false then (4, p) else nextR { p with g := keepL (n == ·) p.g }
def backR (p : PmD) (by' who : Int) : Int × PmD := if by' ≠ p.o then (211, p) else if userB who = false ∨ who = p.o then (2, p) else if inB p.r who = false then (4, p) else nextR { p with r := keepL (who == ·) p.r, q := keepL (who == ·) p.q }

structure Apart2 (w : World) (b1 b2 g B : Nat) (vr vq vg : Value) : Prop where
  n1 : b1 ≠ g
  n2 : b2 ≠ g
  or : ∀ k, vr.ownBlock = some k → k ≠ g
  oqq : ∀ k, vq.ownBlock = some k → k ≠ g
  ogg : ∀ k, vg.ownBlock = some k → k ≠ g
  ab : AbvS B vr vq vg
  hB : B ≤ w.heap.size


set_option maxRecDepth 100000 in
set_option maxHeartbeats 4000000 in
theorem shareGroup_does (p : PmD) (by_ who : Int) (b1 b2 g B : Nat) (vr vq vg : Value) (w : World) (hb : Blk w g 24 (pmC p.o p.e vr vq vg)) (hp : PmS w p vr vq vg) (hn : Off g vr vq vg) (hB : AbvS B vr vq vg) (hBw : B ≤ w.heap.size) (hR : PmR p) (hE : PmE p)
    (k1 : w.cell? ⟨b1, 0, none⟩ = some (.int .i64 by_)) (n1 : b1 ≠ g) (k2 : w.cell? ⟨b2, 0, none⟩ = some (.int .i64 who)) (n2 : b2 ≠ g) :
    Calls Try.prog 53 #[.pointer (some ⟨g, 0, none⟩), .pointer (some ⟨b1, 0, none⟩), .pointer (some ⟨b2, 0, none⟩)] w (fun e w' => DoneP w g B (shareGR p by_ who) e w') := by
  obtain ⟨ra, rc, rfl, -⟩ := hp.1.nums
  obtain ⟨qa, qc, rfl, -⟩ := hp.2.1.nums
  obtain ⟨ga, gc, rfl, -⟩ := hp.2.2.nums
  obtain ⟨o, pe, pr, pq, pg⟩ := p
  simp only at hb hp hn hB hR hE ⊢
  generalize pr.length = rl at hb hp hn hB ⊢
  generalize pq.length = ql at hb hp hn hB ⊢
  generalize pg.length = gl at hb hp hn hB ⊢
  have HN := Lib.hid (show Apart2 w b1 b2 g B (Value.slice ra rl rc) (Value.slice qa ql qc) (Value.slice ga gl gc) from ⟨n1, n2, hn.1, hn.2.1, hn.2.2, hB, hBw⟩)
  have HR := Lib.hid (And.intro hR hE)
  have H0 := Lib.hid (show Blk w g 24 (pmC o pe (Value.slice ra rl rc) (Value.slice qa ql qc) (Value.slice ga gl gc)) ∧ Sl w (Value.slice ra rl rc) (ofK .i64 pr) ∧ Sl w (Value.slice qa ql qc) (ofK .i64 pq) ∧ Sl w (Value.slice ga gl gc) (ofK .i64 pg) ∧ Ch (· = g) w w ∧ w.cell? ⟨b1, 0, none⟩ = some (.int .i64 by_) ∧ w.cell? ⟨b2, 0, none⟩ = some (.int .i64 who) from ⟨hb, hp.1, hp.2.1, hp.2.2, Ch.refl _ _, k1, k2⟩)
  obtain ⟨R, hRR⟩ : ∃ R, shareGR ⟨o, pe, pr, pq, pg⟩ by_ who = R := ⟨_, rfl⟩
  have HRR := Lib.hid (show (if by_ ≠ o then (211, ⟨o, pe, pr, pq, pg⟩) else if groupB who = false then (2, ⟨o, pe, pr, pq, pg⟩) else if inB pg who = true then (5, ⟨o, pe, pr, pq, pg⟩) else (0, (⟨o, pe, pr, pq, withL pg who⟩ : PmD))) = R from hRR)
  rw [hRR]
  have HU := Lib.hid (group_any who)
  obtain ⟨u, hu⟩ : ∃ b, groupB who = b := ⟨_, rfl⟩
  obtain ⟨m, hm⟩ : ∃ b, inB pg who = b := ⟨_, rfl⟩
  rw [hu, hm] at HRR
  rw [hu] at HU
  have HM := Lib.hid (show pg.any (who == ·) = m from hm)
  clear hb hp hn hB hR hE k1 n1 k2 n2 hBw hRR hu hm
  by_cases h1 : by_ = o
  · have t1 : (by_ != o) = false := by simpa using h1
    rw [if_neg (by simpa using h1)] at HRR
    clear h1
    cases u
    · have HE := Lib.hid (show R = (2, ⟨o, pe, pr, pq, pg⟩) from by rw [← HRR.out, if_pos rfl])
      go_enter Try.func53, Try.ntmps53
      have c0 := H0.out.1.cell 0
      simp only [pmC, List.getElem?_cons_zero, List.getElem?_cons_succ] at c0
      have k1 := H0.out.2.2.2.2.2.1
      have k2 := H0.out.2.2.2.2.2.2
      go_wp2_with fail
      go_quiet (fail)
      rename_i nq
      clear c0 k1 k2
      have sm := (Sm.refl w).drewN nq
      have H2 := Lib.hid (show Blk (w.drewN nq) g 24 (pmC o pe (Value.slice ra rl rc) (Value.slice qa ql qc) (Value.slice ga gl gc)) ∧ Sl (w.drewN nq) (Value.slice ra rl rc) (ofK .i64 pr) ∧ Sl (w.drewN nq) (Value.slice qa ql qc) (ofK .i64 pq) ∧ Sl (w.drewN nq) (Value.slice ga gl gc) (ofK .i64 pg) ∧ Ch (· = g) w (w.drewN nq) ∧ (w.drewN nq).cell? ⟨b1, 0, none⟩ = some (.int .i64 by_) ∧ (w.drewN nq).cell? ⟨b2, 0, none⟩ = some (.int .i64 who) from ⟨H0.out.1.below (sm.below _) H0.out.1.lt, H0.out.2.1.below (sm.below _) (Nat.le_refl _), H0.out.2.2.1.below (sm.below _) (Nat.le_refl _), H0.out.2.2.2.1.below (sm.below _) (Nat.le_refl _), H0.out.2.2.2.2.1.trans (Ch.of_below (sm.below _) (Nat.le_refl _)), ((sm.below _).cell (p := ⟨b1, 0, none⟩) (block_of_cell H0.out.2.2.2.2.2.1)).trans H0.out.2.2.2.2.2.1, ((sm.below _).cell (p := ⟨b2, 0, none⟩) (block_of_cell H0.out.2.2.2.2.2.2)).trans H0.out.2.2.2.2.2.2⟩)
      clear sm
      generalize w.drewN nq = w1 at H2 ⊢
      clear nq
      have c4 := H2.out.1.cell 4
      simp only [pmC, List.getElem?_cons_zero, List.getElem?_cons_succ] at c4
      have k1 := H2.out.2.2.2.2.2.1
      have k2 := H2.out.2.2.2.2.2.2
      go_wp2_with fail
      refine (HU.out w1).mono ?_
      rintro e w' ⟨rfl, rfl⟩
      clear c4 k1 k2
      go_wp2_with fail
      go_ret
      rw [HE.out]
      exact ⟨rfl, _, _, _, H2.out.1, ⟨H2.out.2.1, H2.out.2.2.1, H2.out.2.2.2.1⟩, H2.out.2.2.2.2.1, HN.out.ab⟩
    · rw [if_neg (by simp)] at HRR
      cases m
      · rw [if_neg (by simp)] at HRR
        go_enter Try.func53, Try.ntmps53
        have c0 := H0.out.1.cell 0
        simp only [pmC, List.getElem?_cons_zero, List.getElem?_cons_succ] at c0
        have k1 := H0.out.2.2.2.2.2.1
        have k2 := H0.out.2.2.2.2.2.2
        go_wp2_with fail
        go_quiet (fail)
        rename_i nq
        clear c0 k1 k2
        have sm := (Sm.refl w).drewN nq
        have H4 := Lib.hid (show Blk (w.drewN nq) g 24 (pmC o pe (Value.slice ra rl rc) (Value.slice qa ql qc) (Value.slice ga gl gc)) ∧ Sl (w.drewN nq) (Value.slice ra rl rc) (ofK .i64 pr) ∧ Sl (w.drewN nq) (Value.slice qa ql qc) (ofK .i64 pq) ∧ Sl (w.drewN nq) (Value.slice ga gl gc) (ofK .i64 pg) ∧ Ch (· = g) w (w.drewN nq) ∧ (w.drewN nq).cell? ⟨b1, 0, none⟩ = some (.int .i64 by_) ∧ (w.drewN nq).cell? ⟨b2, 0, none⟩ = some (.int .i64 who) from ⟨H0.out.1.below (sm.below _) H0.out.1.lt, H0.out.2.1.below (sm.below _) (Nat.le_refl _), H0.out.2.2.1.below (sm.below _) (Nat.le_refl _), H0.out.2.2.2.1.below (sm.below _) (Nat.le_refl _), H0.out.2.2.2.2.1.trans (Ch.of_below (sm.below _) (Nat.le_refl _)), ((sm.below _).cell (p := ⟨b1, 0, none⟩) (block_of_cell H0.out.2.2.2.2.2.1)).trans H0.out.2.2.2.2.2.1, ((sm.below _).cell (p := ⟨b2, 0, none⟩) (block_of_cell H0.out.2.2.2.2.2.2)).trans H0.out.2.2.2.2.2.2⟩)
        clear sm
        generalize w.drewN nq = w3 at H4 ⊢
        clear nq
        have c4 := H4.out.1.cell 4
        simp only [pmC, List.getElem?_cons_zero, List.getElem?_cons_succ] at c4
        have k1 := H4.out.2.2.2.2.2.1
        have k2 := H4.out.2.2.2.2.2.2
        go_wp2_with fail
        refine (HU.out w3).mono ?_
        rintro e w' ⟨rfl, rfl⟩
        clear c4 k1 k2
        have HCa := Lib.hid (fun n => contains_any who (Value.slice ga gl gc) pg (World.drewN w3 n) (((Sm.refl w3).drewN n).sl H4.out.2.2.2.1))
        rw [HM.out] at HCa
        have c4 := H4.out.1.cell 4
        simp only [pmC, List.getElem?_cons_zero, List.getElem?_cons_succ] at c4
        have k1 := H4.out.2.2.2.2.2.1
        have k2 := H4.out.2.2.2.2.2.2
        go_wp2_with fail
        go_quiet (((go_at_call 27; exact Calls.quiet_eq (HCa.out _))))
        rename_i nq
        clear c4 k1 k2
        have sm := (Sm.refl w3).drewN nq
        have H6 := Lib.hid (show Blk (w3.drewN nq) g 24 (pmC o pe (Value.slice ra rl rc) (Value.slice qa ql qc) (Value.slice ga gl gc)) ∧ Sl (w3.drewN nq) (Value.slice ra rl rc) (ofK .i64 pr) ∧ Sl (w3.drewN nq) (Value.slice qa ql qc) (ofK .i64 pq) ∧ Sl (w3.drewN nq) (Value.slice ga gl gc) (ofK .i64 pg) ∧ Ch (· = g) w (w3.drewN nq) ∧ (w3.drewN nq).cell? ⟨b1, 0, none⟩ = some (.int .i64 by_) ∧ (w3.drewN nq).cell? ⟨b2, 0, none⟩ = some (.int .i64 who) from ⟨H4.out.1.below (sm.below _) H4.out.1.lt, H4.out.2.1.below (sm.below _) (Nat.le_refl _), H4.out.2.2.1.below (sm.below _) (Nat.le_refl _), H4.out.2.2.2.1.below (sm.below _) (Nat.le_refl _), H4.out.2.2.2.2.1.trans (Ch.of_below (sm.below _) (Nat.le_refl _)), ((sm.below _).cell (p := ⟨b1, 0, none⟩) (block_of_cell H4.out.2.2.2.2.2.1)).trans H4.out.2.2.2.2.2.1, ((sm.below _).cell (p := ⟨b2, 0, none⟩) (block_of_cell H4.out.2.2.2.2.2.2)).trans H4.out.2.2.2.2.2.2⟩)
        clear sm
        generalize w3.drewN nq = w5 at H6 ⊢
        clear nq
        clear HCa
        go_wp2_with fail
        refine wp_region_takes (fun w' => w'.cell? ⟨b2, 0, none⟩ = some (.int .i64 who)) [0, 1, 2, 3, 5] 5 (by kernel_rfl) rfl (by kernel_rfl) (by kernel_rfl) H6.out.2.2.2.2.2.2 ?_
        iterate 5 (refine' HeldL.run ?_ ?_ ?_ ?_; rotate_left 2; (simp only [List.getElem?_toArray, List.getElem?_cons_zero, List.getElem?_cons_succ]; rfl); rfl; (rintro w' k0; go_simp; with_reducible rfl); simp only [Act.put, List.setIfInBounds_toArray, List.set_cons_zero, List.set_cons_succ])
        have sm := (Sm.refl w5).drew
        have HV11 := Lib.hid (show Blk w5.drew g 24 (pmC o pe (Value.slice ra rl rc) (Value.slice qa ql qc) (Value.slice ga gl gc)) ∧ Sl w5.drew (Value.slice ra rl rc) (ofK .i64 pr) ∧ Sl w5.drew (Value.slice qa ql qc) (ofK .i64 pq) ∧ Sl w5.drew (Value.slice ga gl gc) (ofK .i64 pg) ∧ Ch (· = g) w w5.drew ∧ w5.drew.cell? ⟨b1, 0, none⟩ = some (.int .i64 by_) ∧ w5.drew.cell? ⟨b2, 0, none⟩ = some (.int .i64 who) from ⟨H6.out.1.below (sm.below _) H6.out.1.lt, H6.out.2.1.below (sm.below _) (Nat.le_refl _), H6.out.2.2.1.below (sm.below _) (Nat.le_refl _), H6.out.2.2.2.1.below (sm.below _) (Nat.le_refl _), H6.out.2.2.2.2.1.trans (Ch.of_below (sm.below _) (Nat.le_refl _)), ((sm.below _).cell (p := ⟨b1, 0, none⟩) (block_of_cell H6.out.2.2.2.2.2.1)).trans H6.out.2.2.2.2.2.1, ((sm.below _).cell (p := ⟨b2, 0, none⟩) (block_of_cell H6.out.2.2.2.2.2.2)).trans H6.out.2.2.2.2.2.2⟩)
        clear sm
        generalize w5.drew = v10 at HV11 ⊢
        refine' wpAnyH_one 4 (by kernel_rfl) ?_ ?_; rotate_left; (simp only [List.getElem?_toArray, List.getElem?_cons_zero, List.getElem?_cons_succ]; rfl)
        have cc := HV11.out.1.cell 4
        simp only [pmC, List.getElem?_cons_zero, List.getElem?_cons_succ] at cc
        try simp only [Act.put]
        go_wp2_with fail
        clear cc
        refine QK.normal ⟨HV11.out.2.2.2.2.2.2, ?_⟩
        refine' wpAnyH_one 6 (by kernel_rfl) ?_ ?_; rotate_left; (simp only [List.getElem?_toArray, List.getElem?_cons_zero, List.getElem?_cons_succ]; rfl)
        try simp only [Act.put]
        go_wp2_with fail
        refine (with_any who (Value.slice ga gl gc) pg v10 HV11.out.2.2.2.1 HR.out.1.2.2.1 HR.out.1.2.2.2.2.2).mono ?_
        rintro e' u12 ⟨xa7, xl8, xc9, rfl, hs, hb, hab⟩
        have HO := Lib.hid (show (∀ k, (Value.slice xa7 xl8 xc9).ownBlock = some k → k ≠ g) ∧ Abv B (Value.slice xa7 xl8 xc9) from ⟨fun k hk e => by have := hab k hk; have := HV11.out.1.lt; omega, fun k hk => Nat.le_trans HN.out.hB (Nat.le_trans HV11.out.2.2.2.2.1.size (hab k hk))⟩)
        have HU13 := Lib.hid (show Blk u12 g 24 (pmC o pe (Value.slice ra rl rc) (Value.slice qa ql qc) (Value.slice ga gl gc)) ∧ Sl u12 (Value.slice ra rl rc) (ofK .i64 pr) ∧ Sl u12 (Value.slice qa ql qc) (ofK .i64 pq) ∧ Sl u12 (Value.slice ga gl gc) (ofK .i64 pg) ∧ Ch (· = g) w u12 ∧ u12.cell? ⟨b1, 0, none⟩ = some (.int .i64 by_) ∧ u12.cell? ⟨b2, 0, none⟩ = some (.int .i64 who) ∧ Sl u12 (Value.slice xa7 xl8 xc9) (ofK .i64 (withL pg who)) from ⟨HV11.out.1.below hb HV11.out.1.lt, HV11.out.2.1.below hb (Nat.le_refl _), HV11.out.2.2.1.below hb (Nat.le_refl _), HV11.out.2.2.2.1.below hb (Nat.le_refl _), HV11.out.2.2.2.2.1.trans (Ch.of_below hb (Nat.le_refl _)), (hb.cell (p := ⟨b1, 0, none⟩) (block_of_cell HV11.out.2.2.2.2.2.1)).trans HV11.out.2.2.2.2.2.1, (hb.cell (p := ⟨b2, 0, none⟩) (block_of_cell HV11.out.2.2.2.2.2.2)).trans HV11.out.2.2.2.2.2.2, hs⟩)
        clear hs hb hab
        go_wp2_with fail
        refine QK.normal ⟨HU13.out.2.2.2.2.2.2.1, ?_⟩
        refine' wpAnyH_one 7 (by kernel_rfl) ?_ ?_; rotate_left; (simp only [List.getElem?_toArray, List.getElem?_cons_zero, List.getElem?_cons_succ]; rfl)
        try simp only [Act.put]
        go_wp2_with fail
        refine QK.normal ⟨HU13.out.2.2.2.2.2.2.1, ?_⟩
        refine' wpAnyH_one 8 (by kernel_rfl) ?_ ?_; rotate_left; (simp only [List.getElem?_toArray, List.getElem?_cons_zero, List.getElem?_cons_succ]; rfl)
        try simp only [Act.put]
        go_wp2_with fail
        refine QK.normal ⟨HU13.out.2.2.2.2.2.2.1, ?_⟩
        refine' wpAnyH_one 9 (by kernel_rfl) ?_ ?_; rotate_left; (simp only [List.getElem?_toArray, List.getElem?_cons_zero, List.getElem?_cons_succ]; rfl)
        have cc := HU13.out.1.cell 4
        have ff := HU13.out.1.free 4
        simp only [pmC, List.getElem?_cons_zero, List.getElem?_cons_succ] at cc
        try simp only [Act.put]
        go_wp2_with fail
        clear cc ff
        have hc := Ch.set u12 ⟨g, 4, none⟩ (Value.slice xa7 xl8 xc9)
        have HU15 := Lib.hid (show Blk (u12.setCell ⟨g, 4, none⟩ (Value.slice xa7 xl8 xc9)) g 24 (pmC o pe (Value.slice ra rl rc) (Value.slice qa ql qc) (Value.slice xa7 xl8 xc9)) ∧ Sl (u12.setCell ⟨g, 4, none⟩ (Value.slice xa7 xl8 xc9)) (Value.slice ra rl rc) (ofK .i64 pr) ∧ Sl (u12.setCell ⟨g, 4, none⟩ (Value.slice xa7 xl8 xc9)) (Value.slice qa ql qc) (ofK .i64 pq) ∧ Sl (u12.setCell ⟨g, 4, none⟩ (Value.slice xa7 xl8 xc9)) (Value.slice xa7 xl8 xc9) (ofK .i64 (withL pg who)) ∧ Ch (· = g) w (u12.setCell ⟨g, 4, none⟩ (Value.slice xa7 xl8 xc9)) ∧ (u12.setCell ⟨g, 4, none⟩ (Value.slice xa7 xl8 xc9)).cell? ⟨b1, 0, none⟩ = some (.int .i64 by_) ∧ (u12.setCell ⟨g, 4, none⟩ (Value.slice xa7 xl8 xc9)).cell? ⟨b2, 0, none⟩ = some (.int .i64 who) from ⟨HU13.out.1.set 4 (Value.slice xa7 xl8 xc9), HU13.out.2.1.keep hc HN.out.or, HU13.out.2.2.1.keep hc HN.out.oqq, HU13.out.2.2.2.2.2.2.2.keep hc HO.out.1, HU13.out.2.2.2.2.1.trans hc, (hc.cell (p := ⟨b1, 0, none⟩) (block_of_cell HU13.out.2.2.2.2.2.1) (fun e => HN.out.n1 e)).trans HU13.out.2.2.2.2.2.1, (hc.cell (p := ⟨b2, 0, none⟩) (block_of_cell HU13.out.2.2.2.2.2.2.1) (fun e => HN.out.n2 e)).trans HU13.out.2.2.2.2.2.2.1⟩)
        clear hc
        generalize (u12.setCell ⟨g, 4, none⟩ (Value.slice xa7 xl8 xc9)) = u14 at HU15 ⊢
        refine QK.normal ⟨HU15.out.2.2.2.2.2.2, ?_⟩
        refine wpAnyH_done (by kernel_rfl) ?_ _
        refine NoPanic.normal ?_
        go_wp2_with fail
        go_ret
        rw [← HRR.out]
        exact ⟨rfl, _, _, _, HU15.out.1, ⟨HU15.out.2.1, HU15.out.2.2.1, HU15.out.2.2.2.1⟩, HU15.out.2.2.2.2.1, ⟨HN.out.ab.1, HN.out.ab.2.1, HO.out.2⟩⟩
      · have HE := Lib.hid (show R = (5, ⟨o, pe, pr, pq, pg⟩) from by rw [← HRR.out, if_pos rfl])
        go_enter Try.func53, Try.ntmps53
        have c0 := H0.out.1.cell 0
        simp only [pmC, List.getElem?_cons_zero, List.getElem?_cons_succ] at c0
        have k1 := H0.out.2.2.2.2.2.1
        have k2 := H0.out.2.2.2.2.2.2
        go_wp2_with fail
        go_quiet (fail)
        rename_i nq
        clear c0 k1 k2
        have sm := (Sm.refl w).drewN nq
        have H17 := Lib.hid (show Blk (w.drewN nq) g 24 (pmC o pe (Value.slice ra rl rc) (Value.slice qa ql qc) (Value.slice ga gl gc)) ∧ Sl (w.drewN nq) (Value.slice ra rl rc) (ofK .i64 pr) ∧ Sl (w.drewN nq) (Value.slice qa ql qc) (ofK .i64 pq) ∧ Sl (w.drewN nq) (Value.slice ga gl gc) (ofK .i64 pg) ∧ Ch (· = g) w (w.drewN nq) ∧ (w.drewN nq).cell? ⟨b1, 0, none⟩ = some (.int .i64 by_) ∧ (w.drewN nq).cell? ⟨b2, 0, none⟩ = some (.int .i64 who) from ⟨H0.out.1.below (sm.below _) H0.out.1.lt, H0.out.2.1.below (sm.below _) (Nat.le_refl _), H0.out.2.2.1.below (sm.below _) (Nat.le_refl _), H0.out.2.2.2.1.below (sm.below _) (Nat.le_refl _), H0.out.2.2.2.2.1.trans (Ch.of_below (sm.below _) (Nat.le_refl _)), ((sm.below _).cell (p := ⟨b1, 0, none⟩) (block_of_cell H0.out.2.2.2.2.2.1)).trans H0.out.2.2.2.2.2.1, ((sm.below _).cell (p := ⟨b2, 0, none⟩) (block_of_cell H0.out.2.2.2.2.2.2)).trans H0.out.2.2.2.2.2.2⟩)
        clear sm
        generalize w.drewN nq = w16 at H17 ⊢
        clear nq
        have c4 := H17.out.1.cell 4
        simp only [pmC, List.getElem?_cons_zero, List.getElem?_cons_succ] at c4
        have k1 := H17.out.2.2.2.2.2.1
        have k2 := H17.out.2.2.2.2.2.2
        go_wp2_with fail
        refine (HU.out w16).mono ?_
        rintro e w' ⟨rfl, rfl⟩
        clear c4 k1 k2
        have HCa := Lib.hid (fun n => contains_any who (Value.slice ga gl gc) pg (World.drewN w16 n) (((Sm.refl w16).drewN n).sl H17.out.2.2.2.1))
        rw [HM.out] at HCa
        have c4 := H17.out.1.cell 4
        simp only [pmC, List.getElem?_cons_zero, List.getElem?_cons_succ] at c4
        have k1 := H17.out.2.2.2.2.2.1
        have k2 := H17.out.2.2.2.2.2.2
        go_wp2_with fail
        go_quiet (((go_at_call 27; exact Calls.quiet_eq (HCa.out _))))
        rename_i nq
        clear c4 k1 k2
        have sm := (Sm.refl w16).drewN nq
        have H19 := Lib.hid (show Blk (w16.drewN nq) g 24 (pmC o pe (Value.slice ra rl rc) (Value.slice qa ql qc) (Value.slice ga gl gc)) ∧ Sl (w16.drewN nq) (Value.slice ra rl rc) (ofK .i64 pr) ∧ Sl (w16.drewN nq) (Value.slice qa ql qc) (ofK .i64 pq) ∧ Sl (w16.drewN nq) (Value.slice ga gl gc) (ofK .i64 pg) ∧ Ch (· = g) w (w16.drewN nq) ∧ (w16.drewN nq).cell? ⟨b1, 0, none⟩ = some (.int .i64 by_) ∧ (w16.drewN nq).cell? ⟨b2, 0, none⟩ = some (.int .i64 who) from ⟨H17.out.1.below (sm.below _) H17.out.1.lt, H17.out.2.1.below (sm.below _) (Nat.le_refl _), H17.out.2.2.1.below (sm.below _) (Nat.le_refl _), H17.out.2.2.2.1.below (sm.below _) (Nat.le_refl _), H17.out.2.2.2.2.1.trans (Ch.of_below (sm.below _) (Nat.le_refl _)), ((sm.below _).cell (p := ⟨b1, 0, none⟩) (block_of_cell H17.out.2.2.2.2.2.1)).trans H17.out.2.2.2.2.2.1, ((sm.below _).cell (p := ⟨b2, 0, none⟩) (block_of_cell H17.out.2.2.2.2.2.2)).trans H17.out.2.2.2.2.2.2⟩)
        clear sm
        generalize w16.drewN nq = w18 at H19 ⊢
        clear nq
        clear HCa
        go_wp2_with fail
        go_ret
        rw [HE.out]
        exact ⟨rfl, _, _, _, H19.out.1, ⟨H19.out.2.1, H19.out.2.2.1, H19.out.2.2.2.1⟩, H19.out.2.2.2.2.1, HN.out.ab⟩
  · have HE := Lib.hid (show R = (211, ⟨o, pe, pr, pq, pg⟩) from by rw [← HRR.out, if_pos h1])
    have t1 : (by_ != o) = true := by simpa using h1
    clear h1
    go_enter Try.func53, Try.ntmps53
    have c0 := H0.out.1.cell 0
    simp only [pmC, List.getElem?_cons_zero, List.getElem?_cons_succ] at c0
    have k1 := H0.out.2.2.2.2.2.1
    have k2 := H0.out.2.2.2.2.2.2
    go_wp2_with fail
    go_quiet (fail)
    rename_i nq
    clear c0 k1 k2
    have sm := (Sm.refl w).drewN nq
    have H21 := Lib.hid (show Blk (w.drewN nq) g 24 (pmC o pe (Value.slice ra rl rc) (Value.slice qa ql qc) (Value.slice ga gl gc)) ∧ Sl (w.drewN nq) (Value.slice ra rl rc) (ofK .i64 pr) ∧ Sl (w.drewN nq) (Value.slice qa ql qc) (ofK .i64 pq) ∧ Sl (w.drewN nq) (Value.slice ga gl gc) (ofK .i64 pg) ∧ Ch (· = g) w (w.drewN nq) ∧ (w.drewN nq).cell? ⟨b1, 0, none⟩ = some (.int .i64 by_) ∧ (w.drewN nq).cell? ⟨b2, 0, none⟩ = some (.int .i64 who) from ⟨H0.out.1.below (sm.below _) H0.out.1.lt, H0.out.2.1.below (sm.below _) (Nat.le_refl _), H0.out.2.2.1.below (sm.below _) (Nat.le_refl _), H0.out.2.2.2.1.below (sm.below _) (Nat.le_refl _), H0.out.2.2.2.2.1.trans (Ch.of_below (sm.below _) (Nat.le_refl _)), ((sm.below _).cell (p := ⟨b1, 0, none⟩) (block_of_cell H0.out.2.2.2.2.2.1)).trans H0.out.2.2.2.2.2.1, ((sm.below _).cell (p := ⟨b2, 0, none⟩) (block_of_cell H0.out.2.2.2.2.2.2)).trans H0.out.2.2.2.2.2.2⟩)
    clear sm
    generalize w.drewN nq = w20 at H21 ⊢
    clear nq
    go_wp2_with fail
    go_ret
    rw [HE.out]
    exact ⟨rfl, _, _, _, H21.out.1, ⟨H21.out.2.1, H21.out.2.2.1, H21.out.2.2.2.1⟩, H21.out.2.2.2.2.1, HN.out.ab⟩


set_option maxRecDepth 100000 in
set_option maxHeartbeats 4000000 in
theorem backGroup_does (p : PmD) (by_ who : Int) (b1 b2 g B : Nat) (vr vq vg : Value) (w : World) (hb : Blk w g 24 (pmC p.o p.e vr vq vg)) (hp : PmS w p vr vq vg) (hn : Off g vr vq vg) (hB : AbvS B vr vq vg) (hBw : B ≤ w.heap.size) (hR : PmR p) (hE : PmE p)
    (k1 : w.cell? ⟨b1, 0, none⟩ = some (.int .i64 by_)) (n1 : b1 ≠ g) (k2 : w.cell? ⟨b2, 0, none⟩ = some (.int .i64 who)) (n2 : b2 ≠ g) :
    Calls Try.prog 54 #[.pointer (some ⟨g, 0, none⟩), .pointer (some ⟨b1, 0, none⟩), .pointer (some ⟨b2, 0, none⟩)] w (fun e w' => DoneP w g B (backGR p by_ who) e w') := by
  obtain ⟨ra, rc, rfl, -⟩ := hp.1.nums
  obtain ⟨qa, qc, rfl, -⟩ := hp.2.1.nums
  obtain ⟨ga, gc, rfl, -⟩ := hp.2.2.nums
  obtain ⟨o, pe, pr, pq, pg⟩ := p
  simp only at hb hp hn hB hR hE ⊢
  generalize pr.length = rl at hb hp hn hB ⊢
  generalize pq.length = ql at hb hp hn hB ⊢
  generalize pg.length = gl at hb hp hn hB ⊢
  have HN := Lib.hid (show Apart2 w b1 b2 g B (Value.slice ra rl rc) (Value.slice qa ql qc) (Value.slice ga gl gc) from ⟨n1, n2, hn.1, hn.2.1, hn.2.2, hB, hBw⟩)
  have HR := Lib.hid (And.intro hR hE)
  have H0 := Lib.hid (show Blk w g 24 (pmC o pe (Value.slice ra rl rc) (Value.slice qa ql qc) (Value.slice ga gl gc)) ∧ Sl w (Value.slice ra rl rc) (ofK .i64 pr) ∧ Sl w (Value.slice qa ql qc) (ofK .i64 pq) ∧ Sl w (Value.slice ga gl gc) (ofK .i64 pg) ∧ Ch (· = g) w w ∧ w.cell? ⟨b1, 0, none⟩ = some (.int .i64 by_) ∧ w.cell? ⟨b2, 0, none⟩ = some (.int .i64 who) from ⟨hb, hp.1, hp.2.1, hp.2.2, Ch.refl _ _, k1, k2⟩)
  obtain ⟨R, hRR⟩ : ∃ R, backGR ⟨o, pe, pr, pq, pg⟩ by_ who = R := ⟨_, rfl⟩
  have HRR := Lib.hid (show (if by_ ≠ o then (211, ⟨o, pe, pr, pq, pg⟩) else if groupB who = false then (2, ⟨o, pe, pr, pq, pg⟩) else if inB pg who = false then (4, ⟨o, pe, pr, pq, pg⟩) else nextR (⟨o, pe, pr, pq, keepL (who == ·) pg⟩ : PmD)) = R from hRR)
  rw [hRR]
  have HU := Lib.hid (group_any who)
  obtain ⟨u, hu⟩ : ∃ b, groupB who = b := ⟨_, rfl⟩
  obtain ⟨m, hm⟩ : ∃ b, inB pg who = b := ⟨_, rfl⟩
  rw [hu, hm] at HRR
  rw [hu] at HU
  have HM := Lib.hid (show pg.any (who == ·) = m from hm)
  clear hb hp hn hB hR hE k1 n1 k2 n2 hBw hRR hu hm
  by_cases h1 : by_ = o
  · have t1 : (by_ != o) = false := by simpa using h1
    rw [if_neg (by simpa using h1)] at HRR
    clear h1
    cases u
    · have HE := Lib.hid (show R = (2, ⟨o, pe, pr, pq, pg⟩) from by rw [← HRR.out, if_pos rfl])
      go_enter Try.func54, Try.ntmps54
      have c0 := H0.out.1.cell 0
      simp only [pmC, List.getElem?_cons_zero, List.getElem?_cons_succ] at c0
      have k1 := H0.out.2.2.2.2.2.1
      have k2 := H0.out.2.2.2.2.2.2
      go_wp2_with fail
      go_quiet (fail)
      rename_i nq
      clear c0 k1 k2
      have sm := (Sm.refl w).drewN nq
      have H23 := Lib.hid (show Blk (w.drewN nq) g 24 (pmC o pe (Value.slice ra rl rc) (Value.slice qa ql qc) (Value.slice ga gl gc)) ∧ Sl (w.drewN nq) (Value.slice ra rl rc) (ofK .i64 pr) ∧ Sl (w.drewN nq) (Value.slice qa ql qc) (ofK .i64 pq) ∧ Sl (w.drewN nq) (Value.slice ga gl gc) (ofK .i64 pg) ∧ Ch (· = g) w (w.drewN nq) ∧ (w.drewN nq).cell? ⟨b1, 0, none⟩ = some (.int .i64 by_) ∧ (w.drewN nq).cell? ⟨b2, 0, none⟩ = some (.int .i64 who) from ⟨H0.out.1.below (sm.below _) H0.out.1.lt, H0.out.2.1.below (sm.below _) (Nat.le_refl _), H0.out.2.2.1.below (sm.below _) (Nat.le_refl _), H0.out.2.2.2.1.below (sm.below _) (Nat.le_refl _), H0.out.2.2.2.2.1.trans (Ch.of_below (sm.below _) (Nat.le_refl _)), ((sm.below _).cell (p := ⟨b1, 0, none⟩) (block_of_cell H0.out.2.2.2.2.2.1)).trans H0.out.2.2.2.2.2.1, ((sm.below _).cell (p := ⟨b2, 0, none⟩) (block_of_cell H0.out.2.2.2.2.2.2)).trans H0.out.2.2.2.2.2.2⟩)
      clear sm
      generalize w.drewN nq = w22 at H23 ⊢
      clear nq
      have c4 := H23.out.1.cell 4
      simp only [pmC, List.getElem?_cons_zero, List.getElem?_cons_succ] at c4
      have k1 := H23.out.2.2.2.2.2.1
      have k2 := H23.out.2.2.2.2.2.2
      go_wp2_with fail
      refine (HU.out w22).mono ?_
      rintro e w' ⟨rfl, rfl⟩
      clear c4 k1 k2
      go_wp2_with fail
      go_ret
      rw [HE.out]
      exact ⟨rfl, _, _, _, H23.out.1, ⟨H23.out.2.1, H23.out.2.2.1, H23.out.2.2.2.1⟩, H23.out.2.2.2.2.1, HN.out.ab⟩
    · rw [if_neg (by simp)] at HRR
      cases m
      · have HE := Lib.hid (show R = (4, ⟨o, pe, pr, pq, pg⟩) from by rw [← HRR.out, if_pos rfl])
        go_enter Try.func54, Try.ntmps54
        have c0 := H0.out.1.cell 0
        simp only [pmC, List.getElem?_cons_zero, List.getElem?_cons_succ] at c0
        have k1 := H0.out.2.2.2.2.2.1
        have k2 := H0.out.2.2.2.2.2.2
        go_wp2_with fail
        go_quiet (fail)
        rename_i nq
        clear c0 k1 k2
        have sm := (Sm.refl w).drewN nq
        have H25 := Lib.hid (show Blk (w.drewN nq) g 24 (pmC o pe (Value.slice ra rl rc) (Value.slice qa ql qc) (Value.slice ga gl gc)) ∧ Sl (w.drewN nq) (Value.slice ra rl rc) (ofK .i64 pr) ∧ Sl (w.drewN nq) (Value.slice qa ql qc) (ofK .i64 pq) ∧ Sl (w.drewN nq) (Value.slice ga gl gc) (ofK .i64 pg) ∧ Ch (· = g) w (w.drewN nq) ∧ (w.drewN nq).cell? ⟨b1, 0, none⟩ = some (.int .i64 by_) ∧ (w.drewN nq).cell? ⟨b2, 0, none⟩ = some (.int .i64 who) from ⟨H0.out.1.below (sm.below _) H0.out.1.lt, H0.out.2.1.below (sm.below _) (Nat.le_refl _), H0.out.2.2.1.below (sm.below _) (Nat.le_refl _), H0.out.2.2.2.1.below (sm.below _) (Nat.le_refl _), H0.out.2.2.2.2.1.trans (Ch.of_below (sm.below _) (Nat.le_refl _)), ((sm.below _).cell (p := ⟨b1, 0, none⟩) (block_of_cell H0.out.2.2.2.2.2.1)).trans H0.out.2.2.2.2.2.1, ((sm.below _).cell (p := ⟨b2, 0, none⟩) (block_of_cell H0.out.2.2.2.2.2.2)).trans H0.out.2.2.2.2.2.2⟩)
        clear sm
        generalize w.drewN nq = w24 at H25 ⊢
        clear nq
        have c4 := H25.out.1.cell 4
        simp only [pmC, List.getElem?_cons_zero, List.getElem?_cons_succ] at c4
        have k1 := H25.out.2.2.2.2.2.1
        have k2 := H25.out.2.2.2.2.2.2
        go_wp2_with fail
        refine (HU.out w24).mono ?_
        rintro e w' ⟨rfl, rfl⟩
        clear c4 k1 k2
        have HCa := Lib.hid (fun n => contains_any who (Value.slice ga gl gc) pg (World.drewN w24 n) (((Sm.refl w24).drewN n).sl H25.out.2.2.2.1))
        rw [HM.out] at HCa
        have c4 := H25.out.1.cell 4
        simp only [pmC, List.getElem?_cons_zero, List.getElem?_cons_succ] at c4
        have k1 := H25.out.2.2.2.2.2.1
        have k2 := H25.out.2.2.2.2.2.2
        go_wp2_with fail
        go_quiet (((go_at_call 27; exact Calls.quiet_eq (HCa.out _))))
        rename_i nq
        clear c4 k1 k2
        have sm := (Sm.refl w24).drewN nq
        have H27 := Lib.hid (show Blk (w24.drewN nq) g 24 (pmC o pe (Value.slice ra rl rc) (Value.slice qa ql qc) (Value.slice ga gl gc)) ∧ Sl (w24.drewN nq) (Value.slice ra rl rc) (ofK .i64 pr) ∧ Sl (w24.drewN nq) (Value.slice qa ql qc) (ofK .i64 pq) ∧ Sl (w24.drewN nq) (Value.slice ga gl gc) (ofK .i64 pg) ∧ Ch (· = g) w (w24.drewN nq) ∧ (w24.drewN nq).cell? ⟨b1, 0, none⟩ = some (.int .i64 by_) ∧ (w24.drewN nq).cell? ⟨b2, 0, none⟩ = some (.int .i64 who) from ⟨H25.out.1.below (sm.below _) H25.out.1.lt, H25.out.2.1.below (sm.below _) (Nat.le_refl _), H25.out.2.2.1.below (sm.below _) (Nat.le_refl _), H25.out.2.2.2.1.below (sm.below _) (Nat.le_refl _), H25.out.2.2.2.2.1.trans (Ch.of_below (sm.below _) (Nat.le_refl _)), ((sm.below _).cell (p := ⟨b1, 0, none⟩) (block_of_cell H25.out.2.2.2.2.2.1)).trans H25.out.2.2.2.2.2.1, ((sm.below _).cell (p := ⟨b2, 0, none⟩) (block_of_cell H25.out.2.2.2.2.2.2)).trans H25.out.2.2.2.2.2.2⟩)
        clear sm
        generalize w24.drewN nq = w26 at H27 ⊢
        clear nq
        clear HCa
        go_wp2_with fail
        go_ret
        rw [HE.out]
        exact ⟨rfl, _, _, _, H27.out.1, ⟨H27.out.2.1, H27.out.2.2.1, H27.out.2.2.2.1⟩, H27.out.2.2.2.2.1, HN.out.ab⟩
      · rw [if_neg (by simp)] at HRR
        go_enter Try.func54, Try.ntmps54
        have c0 := H0.out.1.cell 0
        simp only [pmC, List.getElem?_cons_zero, List.getElem?_cons_succ] at c0
        have k1 := H0.out.2.2.2.2.2.1
        have k2 := H0.out.2.2.2.2.2.2
        go_wp2_with fail
        go_quiet (fail)
        rename_i nq
        clear c0 k1 k2
        have sm := (Sm.refl w).drewN nq
        have H29 := Lib.hid (show Blk (w.drewN nq) g 24 (pmC o pe (Value.slice ra rl rc) (Value.slice qa ql qc) (Value.slice ga gl gc)) ∧ Sl (w.drewN nq) (Value.slice ra rl rc) (ofK .i64 pr) ∧ Sl (w.drewN nq) (Value.slice qa ql qc) (ofK .i64 pq) ∧ Sl (w.drewN nq) (Value.slice ga gl gc) (ofK .i64 pg) ∧ Ch (· = g) w (w.drewN nq) ∧ (w.drewN nq).cell? ⟨b1, 0, none⟩ = some (.int .i64 by_) ∧ (w.drewN nq).cell? ⟨b2, 0, none⟩ = some (.int .i64 who) from ⟨H0.out.1.below (sm.below _) H0.out.1.lt, H0.out.2.1.below (sm.below _) (Nat.le_refl _), H0.out.2.2.1.below (sm.below _) (Nat.le_refl _), H0.out.2.2.2.1.below (sm.below _) (Nat.le_refl _), H0.out.2.2.2.2.1.trans (Ch.of_below (sm.below _) (Nat.le_refl _)), ((sm.below _).cell (p := ⟨b1, 0, none⟩) (block_of_cell H0.out.2.2.2.2.2.1)).trans H0.out.2.2.2.2.2.1, ((sm.below _).cell (p := ⟨b2, 0, none⟩) (block_of_cell H0.out.2.2.2.2.2.2)).trans H0.out.2.2.2.2.2.2⟩)
        clear sm
        generalize w.drewN nq = w28 at H29 ⊢
        clear nq
        have c4 := H29.out.1.cell 4
        simp only [pmC, List.getElem?_cons_zero, List.getElem?_cons_succ] at c4
        have k1 := H29.out.2.2.2.2.2.1
        have k2 := H29.out.2.2.2.2.2.2
        go_wp2_with fail
        refine (HU.out w28).mono ?_
        rintro e w' ⟨rfl, rfl⟩
        clear c4 k1 k2
        have HCa := Lib.hid (fun n => contains_any who (Value.slice ga gl gc) pg (World.drewN w28 n) (((Sm.refl w28).drewN n).sl H29.out.2.2.2.1))
        rw [HM.out] at HCa
        have c4 := H29.out.1.cell 4
        simp only [pmC, List.getElem?_cons_zero, List.getElem?_cons_succ] at c4
        have k1 := H29.out.2.2.2.2.2.1
        have k2 := H29.out.2.2.2.2.2.2
        go_wp2_with fail
        go_quiet (((go_at_call 27; exact Calls.quiet_eq (HCa.out _))))
        rename_i nq
        clear c4 k1 k2
        have sm := (Sm.refl w28).drewN nq
        have H31 := Lib.hid (show Blk (w28.drewN nq) g 24 (pmC o pe (Value.slice ra rl rc) (Value.slice qa ql qc) (Value.slice ga gl gc)) ∧ Sl (w28.drewN nq) (Value.slice ra rl rc) (ofK .i64 pr) ∧ Sl (w28.drewN nq) (Value.slice qa ql qc) (ofK .i64 pq) ∧ Sl (w28.drewN nq) (Value.slice ga gl gc) (ofK .i64 pg) ∧ Ch (· = g) w (w28.drewN nq) ∧ (w28.drewN nq).cell? ⟨b1, 0, none⟩ = some (.int .i64 by_) ∧ (w28.drewN nq).cell? ⟨b2, 0, none⟩ = some (.int .i64 who) from ⟨H29.out.1.below (sm.below _) H29.out.1.lt, H29.out.2.1.below (sm.below _) (Nat.le_refl _), H29.out.2.2.1.below (sm.below _) (Nat.le_refl _), H29.out.2.2.2.1.below (sm.below _) (Nat.le_refl _), H29.out.2.2.2.2.1.trans (Ch.of_below (sm.below _) (Nat.le_refl _)), ((sm.below _).cell (p := ⟨b1, 0, none⟩) (block_of_cell H29.out.2.2.2.2.2.1)).trans H29.out.2.2.2.2.2.1, ((sm.below _).cell (p := ⟨b2, 0, none⟩) (block_of_cell H29.out.2.2.2.2.2.2)).trans H29.out.2.2.2.2.2.2⟩)
        clear sm
        generalize w28.drewN nq = w30 at H31 ⊢
        clear nq
        clear HCa
        go_wp2_with fail
        refine wp_region_takes (fun w' => w'.cell? ⟨b2, 0, none⟩ = some (.int .i64 who)) [0, 1, 2, 3, 5] 5 (by kernel_rfl) rfl (by kernel_rfl) (by kernel_rfl) H31.out.2.2.2.2.2.2 ?_
        iterate 5 (refine' HeldL.run ?_ ?_ ?_ ?_; rotate_left 2; (simp only [List.getElem?_toArray, List.getElem?_cons_zero, List.getElem?_cons_succ]; rfl); rfl; (rintro w' k0; go_simp; with_reducible rfl); simp only [Act.put, List.setIfInBounds_toArray, List.set_cons_zero, List.set_cons_succ])
        have sm := (Sm.refl w30).drew
        have HV36 := Lib.hid (show Blk w30.drew g 24 (pmC o pe (Value.slice ra rl rc) (Value.slice qa ql qc) (Value.slice ga gl gc)) ∧ Sl w30.drew (Value.slice ra rl rc) (ofK .i64 pr) ∧ Sl w30.drew (Value.slice qa ql qc) (ofK .i64 pq) ∧ Sl w30.drew (Value.slice ga gl gc) (ofK .i64 pg) ∧ Ch (· = g) w w30.drew ∧ w30.drew.cell? ⟨b1, 0, none⟩ = some (.int .i64 by_) ∧ w30.drew.cell? ⟨b2, 0, none⟩ = some (.int .i64 who) from ⟨H31.out.1.below (sm.below _) H31.out.1.lt, H31.out.2.1.below (sm.below _) (Nat.le_refl _), H31.out.2.2.1.below (sm.below _) (Nat.le_refl _), H31.out.2.2.2.1.below (sm.below _) (Nat.le_refl _), H31.out.2.2.2.2.1.trans (Ch.of_below (sm.below _) (Nat.le_refl _)), ((sm.below _).cell (p := ⟨b1, 0, none⟩) (block_of_cell H31.out.2.2.2.2.2.1)).trans H31.out.2.2.2.2.2.1, ((sm.below _).cell (p := ⟨b2, 0, none⟩) (block_of_cell H31.out.2.2.2.2.2.2)).trans H31.out.2.2.2.2.2.2⟩)
        clear sm
        generalize w30.drew = v35 at HV36 ⊢
        refine' wpAnyH_one 4 (by kernel_rfl) ?_ ?_; rotate_left; (simp only [List.getElem?_toArray, List.getElem?_cons_zero, List.getElem?_cons_succ]; rfl)
        have cc := HV36.out.1.cell 4
        simp only [pmC, List.getElem?_cons_zero, List.getElem?_cons_succ] at cc
        try simp only [Act.put]
        go_wp2_with fail
        clear cc
        refine QK.normal ⟨HV36.out.2.2.2.2.2.2, ?_⟩
        refine' wpAnyH_one 6 (by kernel_rfl) ?_ ?_; rotate_left; (simp only [List.getElem?_toArray, List.getElem?_cons_zero, List.getElem?_cons_succ]; rfl)
        try simp only [Act.put]
        go_wp2_with fail
        refine (without_any who (Value.slice ga gl gc) pg v35 HV36.out.2.2.2.1 HR.out.1.2.2.2.2.2).mono ?_
        rintro e' u37 ⟨xa32, xl33, xc34, rfl, hs, hb, hab⟩
        have HO := Lib.hid (show (∀ k, (Value.slice xa32 xl33 xc34).ownBlock = some k → k ≠ g) ∧ Abv B (Value.slice xa32 xl33 xc34) from ⟨fun k hk e => by have := hab k hk; have := HV36.out.1.lt; omega, fun k hk => Nat.le_trans HN.out.hB (Nat.le_trans HV36.out.2.2.2.2.1.size (hab k hk))⟩)
        have HU38 := Lib.hid (show Blk u37 g 24 (pmC o pe (Value.slice ra rl rc) (Value.slice qa ql qc) (Value.slice ga gl gc)) ∧ Sl u37 (Value.slice ra rl rc) (ofK .i64 pr) ∧ Sl u37 (Value.slice qa ql qc) (ofK .i64 pq) ∧ Sl u37 (Value.slice ga gl gc) (ofK .i64 pg) ∧ Ch (· = g) w u37 ∧ u37.cell? ⟨b1, 0, none⟩ = some (.int .i64 by_) ∧ u37.cell? ⟨b2, 0, none⟩ = some (.int .i64 who) ∧ Sl u37 (Value.slice xa32 xl33 xc34) (ofK .i64 (keepL (who == ·) pg)) from ⟨HV36.out.1.below hb HV36.out.1.lt, HV36.out.2.1.below hb (Nat.le_refl _), HV36.out.2.2.1.below hb (Nat.le_refl _), HV36.out.2.2.2.1.below hb (Nat.le_refl _), HV36.out.2.2.2.2.1.trans (Ch.of_below hb (Nat.le_refl _)), (hb.cell (p := ⟨b1, 0, none⟩) (block_of_cell HV36.out.2.2.2.2.2.1)).trans HV36.out.2.2.2.2.2.1, (hb.cell (p := ⟨b2, 0, none⟩) (block_of_cell HV36.out.2.2.2.2.2.2)).trans HV36.out.2.2.2.2.2.2, hs⟩)
        clear hs hb hab
        go_wp2_with fail
        refine QK.normal ⟨HU38.out.2.2.2.2.2.2.1, ?_⟩
        refine' wpAnyH_one 7 (by kernel_rfl) ?_ ?_; rotate_left; (simp only [List.getElem?_toArray, List.getElem?_cons_zero, List.getElem?_cons_succ]; rfl)
        try simp only [Act.put]
        go_wp2_with fail
        refine QK.normal ⟨HU38.out.2.2.2.2.2.2.1, ?_⟩
        refine' wpAnyH_one 8 (by kernel_rfl) ?_ ?_; rotate_left; (simp only [List.getElem?_toArray, List.getElem?_cons_zero, List.getElem?_cons_succ]; rfl)
        try simp only [Act.put]
        go_wp2_with fail
        refine QK.normal ⟨HU38.out.2.2.2.2.2.2.1, ?_⟩
        refine' wpAnyH_one 9 (by kernel_rfl) ?_ ?_; rotate_left; (simp only [List.getElem?_toArray, List.getElem?_cons_zero, List.getElem?_cons_succ]; rfl)
        have cc := HU38.out.1.cell 4
        have ff := HU38.out.1.free 4
        simp only [pmC, List.getElem?_cons_zero, List.getElem?_cons_succ] at cc
        try simp only [Act.put]
        go_wp2_with fail
        clear cc ff
        have hc := Ch.set u37 ⟨g, 4, none⟩ (Value.slice xa32 xl33 xc34)
        have HU40 := Lib.hid (show Blk (u37.setCell ⟨g, 4, none⟩ (Value.slice xa32 xl33 xc34)) g 24 (pmC o pe (Value.slice ra rl rc) (Value.slice qa ql qc) (Value.slice xa32 xl33 xc34)) ∧ Sl (u37.setCell ⟨g, 4, none⟩ (Value.slice xa32 xl33 xc34)) (Value.slice ra rl rc) (ofK .i64 pr) ∧ Sl (u37.setCell ⟨g, 4, none⟩ (Value.slice xa32 xl33 xc34)) (Value.slice qa ql qc) (ofK .i64 pq) ∧ Sl (u37.setCell ⟨g, 4, none⟩ (Value.slice xa32 xl33 xc34)) (Value.slice xa32 xl33 xc34) (ofK .i64 (keepL (who == ·) pg)) ∧ Ch (· = g) w (u37.setCell ⟨g, 4, none⟩ (Value.slice xa32 xl33 xc34)) ∧ (u37.setCell ⟨g, 4, none⟩ (Value.slice xa32 xl33 xc34)).cell? ⟨b1, 0, none⟩ = some (.int .i64 by_) ∧ (u37.setCell ⟨g, 4, none⟩ (Value.slice xa32 xl33 xc34)).cell? ⟨b2, 0, none⟩ = some (.int .i64 who) from ⟨HU38.out.1.set 4 (Value.slice xa32 xl33 xc34), HU38.out.2.1.keep hc HN.out.or, HU38.out.2.2.1.keep hc HN.out.oqq, HU38.out.2.2.2.2.2.2.2.keep hc HO.out.1, HU38.out.2.2.2.2.1.trans hc, (hc.cell (p := ⟨b1, 0, none⟩) (block_of_cell HU38.out.2.2.2.2.2.1) (fun e => HN.out.n1 e)).trans HU38.out.2.2.2.2.2.1, (hc.cell (p := ⟨b2, 0, none⟩) (block_of_cell HU38.out.2.2.2.2.2.2.1) (fun e => HN.out.n2 e)).trans HU38.out.2.2.2.2.2.2.1⟩)
        clear hc
        generalize (u37.setCell ⟨g, 4, none⟩ (Value.slice xa32 xl33 xc34)) = u39 at HU40 ⊢
        refine QK.normal ⟨HU40.out.2.2.2.2.2.2, ?_⟩
        refine wpAnyH_done (by kernel_rfl) ?_ _
        refine NoPanic.normal ?_
        go_wp2_with fail
        refine (next_any ⟨o, pe, pr, pq, keepL (who == ·) pg⟩ g B _ _ _ u39 HU40.out.1 ⟨HU40.out.2.1, HU40.out.2.2.1, HU40.out.2.2.2.1⟩ ⟨HN.out.or, HN.out.oqq, HO.out.1⟩ ⟨HN.out.ab.1, HN.out.ab.2.1, HO.out.2⟩ HR.out.2.1 HR.out.2.2).mono ?_
        rw [HRR.out]
        rintro e uz ⟨rfl, yr, yq, yg, d1, d2, d3, d4⟩
        have HD := Lib.hid (show DoneP w g B R (.returned (.int .i64 R.1)) uz from ⟨rfl, yr, yq, yg, d1, d2, HU40.out.2.2.2.2.1.trans d3, d4⟩)
        clear d1 d2 d3 d4
        go_wp2_with fail
        go_ret
        exact HD.out
  · have HE := Lib.hid (show R = (211, ⟨o, pe, pr, pq, pg⟩) from by rw [← HRR.out, if_pos h1])
    have t1 : (by_ != o) = true := by simpa using h1
    clear h1
    go_enter Try.func54, Try.ntmps54
    have c0 := H0.out.1.cell 0
    simp only [pmC, List.getElem?_cons_zero, List.getElem?_cons_succ] at c0
    have k1 := H0.out.2.2.2.2.2.1
    have k2 := H0.out.2.2.2.2.2.2
    go_wp2_with fail
    go_quiet (fail)
    rename_i nq
    clear c0 k1 k2
    have sm := (Sm.refl w).drewN nq
    have H42 := Lib.hid (show Blk (w.drewN nq) g 24 (pmC o pe (Value.slice ra rl rc) (Value.slice qa ql qc) (Value.slice ga gl gc)) ∧ Sl (w.drewN nq) (Value.slice ra rl rc) (ofK .i64 pr) ∧ Sl (w.drewN nq) (Value.slice qa ql qc) (ofK .i64 pq) ∧ Sl (w.drewN nq) (Value.slice ga gl gc) (ofK .i64 pg) ∧ Ch (· = g) w (w.drewN nq) ∧ (w.drewN nq).cell? ⟨b1, 0, none⟩ = some (.int .i64 by_) ∧ (w.drewN nq).cell? ⟨b2, 0, none⟩ = some (.int .i64 who) from ⟨H0.out.1.below (sm.below _) H0.out.1.lt, H0.out.2.1.below (sm.below _) (Nat.le_refl _), H0.out.2.2.1.below (sm.below _) (Nat.le_refl _), H0.out.2.2.2.1.below (sm.below _) (Nat.le_refl _), H0.out.2.2.2.2.1.trans (Ch.of_below (sm.below _) (Nat.le_refl _)), ((sm.below _).cell (p := ⟨b1, 0, none⟩) (block_of_cell H0.out.2.2.2.2.2.1)).trans H0.out.2.2.2.2.2.1, ((sm.below _).cell (p := ⟨b2, 0, none⟩) (block_of_cell H0.out.2.2.2.2.2.2)).trans H0.out.2.2.2.2.2.2⟩)
    clear sm
    generalize w.drewN nq = w41 at H42 ⊢
    clear nq
    go_wp2_with fail
    go_ret
    rw [HE.out]
    exact ⟨rfl, _, _, _, H42.out.1, ⟨H42.out.2.1, H42.out.2.2.1, H42.out.2.2.2.1⟩, H42.out.2.2.2.2.1, HN.out.ab⟩


set_option maxRecDepth 100000 in
set_option maxHeartbeats 4000000 in
theorem back_does (p : PmD) (by_ who : Int) (b1 b2 g B : Nat) (vr vq vg : Value) (w : World) (hb : Blk w g 24 (pmC p.o p.e vr vq vg)) (hp : PmS w p vr vq vg) (hn : Off g vr vq vg) (hB : AbvS B vr vq vg) (hBw : B ≤ w.heap.size) (hR : PmR p) (hE : PmE p)
    (k1 : w.cell? ⟨b1, 0, none⟩ = some (.int .i64 by_)) (n1 : b1 ≠ g) (k2 : w.cell? ⟨b2, 0, none⟩ = some (.int .i64 who)) (n2 : b2 ≠ g) :
    Calls Try.prog 34 #[.pointer (some ⟨g, 0, none⟩), .pointer (some ⟨b1, 0, none⟩), .pointer (some ⟨b2, 0, none⟩)] w (fun e w' => DoneP w g B (backR p by_ who) e w') := by
  obtain ⟨ra, rc, rfl, -⟩ := hp.1.nums
  obtain ⟨qa, qc, rfl, -⟩ := hp.2.1.nums
  obtain ⟨ga, gc, rfl, -⟩ := hp.2.2.nums
  obtain ⟨o, pe, pr, pq, pg⟩ := p
  simp only at hb hp hn hB hR hE ⊢
  generalize pr.length = rl at hb hp hn hB ⊢
  generalize pq.length = ql at hb hp hn hB ⊢
  generalize pg.length = gl at hb hp hn hB ⊢
  have HN := Lib.hid (show Apart2 w b1 b2 g B (Value.slice ra rl rc) (Value.slice qa ql qc) (Value.slice ga gl gc) from ⟨n1, n2, hn.1, hn.2.1, hn.2.2, hB, hBw⟩)
  have HR := Lib.hid (And.intro hR hE)
  have H0 := Lib.hid (show Blk w g 24 (pmC o pe (Value.slice ra rl rc) (Value.slice qa ql qc) (Value.slice ga gl gc)) ∧ Sl w (Value.slice ra rl rc) (ofK .i64 pr) ∧ Sl w (Value.slice qa ql qc) (ofK .i64 pq) ∧ Sl w (Value.slice ga gl gc) (ofK .i64 pg) ∧ Ch (· = g) w w ∧ w.cell? ⟨b1, 0, none⟩ = some (.int .i64 by_) ∧ w.cell? ⟨b2, 0, none⟩ = some (.int .i64 who) from ⟨hb, hp.1, hp.2.1, hp.2.2, Ch.refl _ _, k1, k2⟩)
  obtain ⟨R, hRR⟩ : ∃ R, backR ⟨o, pe, pr, pq, pg⟩ by_ who = R := ⟨_, rfl⟩
  have HRR := Lib.hid (show (if by_ ≠ o then (211, ⟨o, pe, pr, pq, pg⟩) else if userB who = false ∨ who = o then (2, ⟨o, pe, pr, pq, pg⟩) else if inB pr who = false then (4, ⟨o, pe, pr, pq, pg⟩) else nextR (⟨o, pe, keepL (who == ·) pr, keepL (who == ·) pq, pg⟩ : PmD)) = R from hRR)
  rw [hRR]
  have HU := Lib.hid (user_any who)
  obtain ⟨u, hu⟩ : ∃ b, userB who = b := ⟨_, rfl⟩
  obtain ⟨m, hm⟩ : ∃ b, inB pr who = b := ⟨_, rfl⟩
  rw [hu, hm] at HRR
  rw [hu] at HU
  have HM := Lib.hid (show pr.any (who == ·) = m from hm)
  clear hb hp hn hB hR hE k1 n1 k2 n2 hBw hRR hu hm
  by_cases h1 : by_ = o
  · have t1 : (by_ != o) = false := by simpa using h1
    rw [if_neg (by simpa using h1)] at HRR
    clear h1
    cases u
    · have HE := Lib.hid (show R = (2, ⟨o, pe, pr, pq, pg⟩) from by rw [← HRR.out, if_pos (.inl rfl)])
      go_enter Try.func34, Try.ntmps34
      have c0 := H0.out.1.cell 0
      simp only [pmC, List.getElem?_cons_zero, List.getElem?_cons_succ] at c0
      have k1 := H0.out.2.2.2.2.2.1
      have k2 := H0.out.2.2.2.2.2.2
      go_wp2_with fail
      go_quiet (fail)
      rename_i nq
      clear c0 k1 k2
      have sm := (Sm.refl w).drewN nq
      have H44 := Lib.hid (show Blk (w.drewN nq) g 24 (pmC o pe (Value.slice ra rl rc) (Value.slice qa ql qc) (Value.slice ga gl gc)) ∧ Sl (w.drewN nq) (Value.slice ra rl rc) (ofK .i64 pr) ∧ Sl (w.drewN nq) (Value.slice qa ql qc) (ofK .i64 pq) ∧ Sl (w.drewN nq) (Value.slice ga gl gc) (ofK .i64 pg) ∧ Ch (· = g) w (w.drewN nq) ∧ (w.drewN nq).cell? ⟨b1, 0, none⟩ = some (.int .i64 by_) ∧ (w.drewN nq).cell? ⟨b2, 0, none⟩ = some (.int .i64 who) from ⟨H0.out.1.below (sm.below _) H0.out.1.lt, H0.out.2.1.below (sm.below _) (Nat.le_refl _), H0.out.2.2.1.below (sm.below _) (Nat.le_refl _), H0.out.2.2.2.1.below (sm.below _) (Nat.le_refl _), H0.out.2.2.2.2.1.trans (Ch.of_below (sm.below _) (Nat.le_refl _)), ((sm.below _).cell (p := ⟨b1, 0, none⟩) (block_of_cell H0.out.2.2.2.2.2.1)).trans H0.out.2.2.2.2.2.1, ((sm.below _).cell (p := ⟨b2, 0, none⟩) (block_of_cell H0.out.2.2.2.2.2.2)).trans H0.out.2.2.2.2.2.2⟩)
      clear sm
      generalize w.drewN nq = w43 at H44 ⊢
      clear nq
      have c0 := H44.out.1.cell 0
      simp only [pmC, List.getElem?_cons_zero, List.getElem?_cons_succ] at c0
      have k1 := H44.out.2.2.2.2.2.1
      have k2 := H44.out.2.2.2.2.2.2
      go_wp2_with fail
      go_quiet (((go_at_call 26; exact Calls.quiet_eq (HU.out _))))
      rename_i nq
      clear c0 k1 k2
      have sm := (Sm.refl w43).drewN nq
      have H46 := Lib.hid (show Blk (w43.drewN nq) g 24 (pmC o pe (Value.slice ra rl rc) (Value.slice qa ql qc) (Value.slice ga gl gc)) ∧ Sl (w43.drewN nq) (Value.slice ra rl rc) (ofK .i64 pr) ∧ Sl (w43.drewN nq) (Value.slice qa ql qc) (ofK .i64 pq) ∧ Sl (w43.drewN nq) (Value.slice ga gl gc) (ofK .i64 pg) ∧ Ch (· = g) w (w43.drewN nq) ∧ (w43.drewN nq).cell? ⟨b1, 0, none⟩ = some (.int .i64 by_) ∧ (w43.drewN nq).cell? ⟨b2, 0, none⟩ = some (.int .i64 who) from ⟨H44.out.1.below (sm.below _) H44.out.1.lt, H44.out.2.1.below (sm.below _) (Nat.le_refl _), H44.out.2.2.1.below (sm.below _) (Nat.le_refl _), H44.out.2.2.2.1.below (sm.below _) (Nat.le_refl _), H44.out.2.2.2.2.1.trans (Ch.of_below (sm.below _) (Nat.le_refl _)), ((sm.below _).cell (p := ⟨b1, 0, none⟩) (block_of_cell H44.out.2.2.2.2.2.1)).trans H44.out.2.2.2.2.2.1, ((sm.below _).cell (p := ⟨b2, 0, none⟩) (block_of_cell H44.out.2.2.2.2.2.2)).trans H44.out.2.2.2.2.2.2⟩)
      clear sm
      generalize w43.drewN nq = w45 at H46 ⊢
      clear nq
      go_wp2_with fail
      go_ret
      rw [HE.out]
      exact ⟨rfl, _, _, _, H46.out.1, ⟨H46.out.2.1, H46.out.2.2.1, H46.out.2.2.2.1⟩, H46.out.2.2.2.2.1, HN.out.ab⟩
    · by_cases h2 : who = o
      · have HE := Lib.hid (show R = (2, ⟨o, pe, pr, pq, pg⟩) from by rw [← HRR.out, if_pos (.inr h2)])
        have t2 : (who == o) = true := by simpa using h2
        clear h2
        go_enter Try.func34, Try.ntmps34
        have c0 := H0.out.1.cell 0
        simp only [pmC, List.getElem?_cons_zero, List.getElem?_cons_succ] at c0
        have k1 := H0.out.2.2.2.2.2.1
        have k2 := H0.out.2.2.2.2.2.2
        go_wp2_with fail
        go_quiet (fail)
        rename_i nq
        clear c0 k1 k2
        have sm := (Sm.refl w).drewN nq
        have H48 := Lib.hid (show Blk (w.drewN nq) g 24 (pmC o pe (Value.slice ra rl rc) (Value.slice qa ql qc) (Value.slice ga gl gc)) ∧ Sl (w.drewN nq) (Value.slice ra rl rc) (ofK .i64 pr) ∧ Sl (w.drewN nq) (Value.slice qa ql qc) (ofK .i64 pq) ∧ Sl (w.drewN nq) (Value.slice ga gl gc) (ofK .i64 pg) ∧ Ch (· = g) w (w.drewN nq) ∧ (w.drewN nq).cell? ⟨b1, 0, none⟩ = some (.int .i64 by_) ∧ (w.drewN nq).cell? ⟨b2, 0, none⟩ = some (.int .i64 who) from ⟨H0.out.1.below (sm.below _) H0.out.1.lt, H0.out.2.1.below (sm.below _) (Nat.le_refl _), H0.out.2.2.1.below (sm.below _) (Nat.le_refl _), H0.out.2.2.2.1.below (sm.below _) (Nat.le_refl _), H0.out.2.2.2.2.1.trans (Ch.of_below (sm.below _) (Nat.le_refl _)), ((sm.below _).cell (p := ⟨b1, 0, none⟩) (block_of_cell H0.out.2.2.2.2.2.1)).trans H0.out.2.2.2.2.2.1, ((sm.below _).cell (p := ⟨b2, 0, none⟩) (block_of_cell H0.out.2.2.2.2.2.2)).trans H0.out.2.2.2.2.2.2⟩)
        clear sm
        generalize w.drewN nq = w47 at H48 ⊢
        clear nq
        have c0 := H48.out.1.cell 0
        simp only [pmC, List.getElem?_cons_zero, List.getElem?_cons_succ] at c0
        have k1 := H48.out.2.2.2.2.2.1
        have k2 := H48.out.2.2.2.2.2.2
        go_wp2_with fail
        go_quiet (((go_at_call 26; exact Calls.quiet_eq (HU.out _))))
        rename_i nq
        clear c0 k1 k2
        have sm := (Sm.refl w47).drewN nq
        have H50 := Lib.hid (show Blk (w47.drewN nq) g 24 (pmC o pe (Value.slice ra rl rc) (Value.slice qa ql qc) (Value.slice ga gl gc)) ∧ Sl (w47.drewN nq) (Value.slice ra rl rc) (ofK .i64 pr) ∧ Sl (w47.drewN nq) (Value.slice qa ql qc) (ofK .i64 pq) ∧ Sl (w47.drewN nq) (Value.slice ga gl gc) (ofK .i64 pg) ∧ Ch (· = g) w (w47.drewN nq) ∧ (w47.drewN nq).cell? ⟨b1, 0, none⟩ = some (.int .i64 by_) ∧ (w47.drewN nq).cell? ⟨b2, 0, none⟩ = some (.int .i64 who) from ⟨H48.out.1.below (sm.below _) H48.out.1.lt, H48.out.2.1.below (sm.below _) (Nat.le_refl _), H48.out.2.2.1.below (sm.below _) (Nat.le_refl _), H48.out.2.2.2.1.below (sm.below _) (Nat.le_refl _), H48.out.2.2.2.2.1.trans (Ch.of_below (sm.below _) (Nat.le_refl _)), ((sm.below _).cell (p := ⟨b1, 0, none⟩) (block_of_cell H48.out.2.2.2.2.2.1)).trans H48.out.2.2.2.2.2.1, ((sm.below _).cell (p := ⟨b2, 0, none⟩) (block_of_cell H48.out.2.2.2.2.2.2)).trans H48.out.2.2.2.2.2.2⟩)
        clear sm
        generalize w47.drewN nq = w49 at H50 ⊢
        clear nq
        go_wp2_with fail
        go_ret
        rw [HE.out]
        exact ⟨rfl, _, _, _, H50.out.1, ⟨H50.out.2.1, H50.out.2.2.1, H50.out.2.2.2.1⟩, H50.out.2.2.2.2.1, HN.out.ab⟩
      · have t2 : (who == o) = false := by simpa using h2
        rw [if_neg (by rintro (h | h); cases h; exact h2 h)] at HRR
        clear h2
        cases m
        · have HE := Lib.hid (show R = (4, ⟨o, pe, pr, pq, pg⟩) from by rw [← HRR.out, if_pos rfl])
          go_enter Try.func34, Try.ntmps34
          have c0 := H0.out.1.cell 0
          simp only [pmC, List.getElem?_cons_zero, List.getElem?_cons_succ] at c0
          have k1 := H0.out.2.2.2.2.2.1
          have k2 := H0.out.2.2.2.2.2.2
          go_wp2_with fail
          go_quiet (fail)
          rename_i nq
          clear c0 k1 k2
          have sm := (Sm.refl w).drewN nq
          have H52 := Lib.hid (show Blk (w.drewN nq) g 24 (pmC o pe (Value.slice ra rl rc) (Value.slice qa ql qc) (Value.slice ga gl gc)) ∧ Sl (w.drewN nq) (Value.slice ra rl rc) (ofK .i64 pr) ∧ Sl (w.drewN nq) (Value.slice qa ql qc) (ofK .i64 pq) ∧ Sl (w.drewN nq) (Value.slice ga gl gc) (ofK .i64 pg) ∧ Ch (· = g) w (w.drewN nq) ∧ (w.drewN nq).cell? ⟨b1, 0, none⟩ = some (.int .i64 by_) ∧ (w.drewN nq).cell? ⟨b2, 0, none⟩ = some (.int .i64 who) from ⟨H0.out.1.below (sm.below _) H0.out.1.lt, H0.out.2.1.below (sm.below _) (Nat.le_refl _), H0.out.2.2.1.below (sm.below _) (Nat.le_refl _), H0.out.2.2.2.1.below (sm.below _) (Nat.le_refl _), H0.out.2.2.2.2.1.trans (Ch.of_below (sm.below _) (Nat.le_refl _)), ((sm.below _).cell (p := ⟨b1, 0, none⟩) (block_of_cell H0.out.2.2.2.2.2.1)).trans H0.out.2.2.2.2.2.1, ((sm.below _).cell (p := ⟨b2, 0, none⟩) (block_of_cell H0.out.2.2.2.2.2.2)).trans H0.out.2.2.2.2.2.2⟩)
          clear sm
          generalize w.drewN nq = w51 at H52 ⊢
          clear nq
          have c0 := H52.out.1.cell 0
          simp only [pmC, List.getElem?_cons_zero, List.getElem?_cons_succ] at c0
          have k1 := H52.out.2.2.2.2.2.1
          have k2 := H52.out.2.2.2.2.2.2
          go_wp2_with fail
          go_quiet (((go_at_call 26; exact Calls.quiet_eq (HU.out _))))
          rename_i nq
          clear c0 k1 k2
          have sm := (Sm.refl w51).drewN nq
          have H54 := Lib.hid (show Blk (w51.drewN nq) g 24 (pmC o pe (Value.slice ra rl rc) (Value.slice qa ql qc) (Value.slice ga gl gc)) ∧ Sl (w51.drewN nq) (Value.slice ra rl rc) (ofK .i64 pr) ∧ Sl (w51.drewN nq) (Value.slice qa ql qc) (ofK .i64 pq) ∧ Sl (w51.drewN nq) (Value.slice ga gl gc) (ofK .i64 pg) ∧ Ch (· = g) w (w51.drewN nq) ∧ (w51.drewN nq).cell? ⟨b1, 0, none⟩ = some (.int .i64 by_) ∧ (w51.drewN nq).cell? ⟨b2, 0, none⟩ = some (.int .i64 who) from ⟨H52.out.1.below (sm.below _) H52.out.1.lt, H52.out.2.1.below (sm.below _) (Nat.le_refl _), H52.out.2.2.1.below (sm.below _) (Nat.le_refl _), H52.out.2.2.2.1.below (sm.below _) (Nat.le_refl _), H52.out.2.2.2.2.1.trans (Ch.of_below (sm.below _) (Nat.le_refl _)), ((sm.below _).cell (p := ⟨b1, 0, none⟩) (block_of_cell H52.out.2.2.2.2.2.1)).trans H52.out.2.2.2.2.2.1, ((sm.below _).cell (p := ⟨b2, 0, none⟩) (block_of_cell H52.out.2.2.2.2.2.2)).trans H52.out.2.2.2.2.2.2⟩)
          clear sm
          generalize w51.drewN nq = w53 at H54 ⊢
          clear nq
          have HCa := Lib.hid (fun n => contains_any who (Value.slice ra rl rc) pr (World.drewN w53 n) (((Sm.refl w53).drewN n).sl H54.out.2.1))
          rw [HM.out] at HCa
          have c2 := H54.out.1.cell 2
          simp only [pmC, List.getElem?_cons_zero, List.getElem?_cons_succ] at c2
          have k1 := H54.out.2.2.2.2.2.1
          have k2 := H54.out.2.2.2.2.2.2
          go_wp2_with fail
          go_quiet (((go_at_call 27; exact Calls.quiet_eq (HCa.out _))))
          rename_i nq
          clear c2 k1 k2
          have sm := (Sm.refl w53).drewN nq
          have H56 := Lib.hid (show Blk (w53.drewN nq) g 24 (pmC o pe (Value.slice ra rl rc) (Value.slice qa ql qc) (Value.slice ga gl gc)) ∧ Sl (w53.drewN nq) (Value.slice ra rl rc) (ofK .i64 pr) ∧ Sl (w53.drewN nq) (Value.slice qa ql qc) (ofK .i64 pq) ∧ Sl (w53.drewN nq) (Value.slice ga gl gc) (ofK .i64 pg) ∧ Ch (· = g) w (w53.drewN nq) ∧ (w53.drewN nq).cell? ⟨b1, 0, none⟩ = some (.int .i64 by_) ∧ (w53.drewN nq).cell? ⟨b2, 0, none⟩ = some (.int .i64 who) from ⟨H54.out.1.below (sm.below _) H54.out.1.lt, H54.out.2.1.below (sm.below _) (Nat.le_refl _), H54.out.2.2.1.below (sm.below _) (Nat.le_refl _), H54.out.2.2.2.1.below (sm.below _) (Nat.le_refl _), H54.out.2.2.2.2.1.trans (Ch.of_below (sm.below _) (Nat.le_refl _)), ((sm.below _).cell (p := ⟨b1, 0, none⟩) (block_of_cell H54.out.2.2.2.2.2.1)).trans H54.out.2.2.2.2.2.1, ((sm.below _).cell (p := ⟨b2, 0, none⟩) (block_of_cell H54.out.2.2.2.2.2.2)).trans H54.out.2.2.2.2.2.2⟩)
          clear sm
          generalize w53.drewN nq = w55 at H56 ⊢
          clear nq
          clear HCa
          go_wp2_with fail
          go_ret
          rw [HE.out]
          exact ⟨rfl, _, _, _, H56.out.1, ⟨H56.out.2.1, H56.out.2.2.1, H56.out.2.2.2.1⟩, H56.out.2.2.2.2.1, HN.out.ab⟩
        · rw [if_neg (by simp)] at HRR
          go_enter Try.func34, Try.ntmps34
          have c0 := H0.out.1.cell 0
          simp only [pmC, List.getElem?_cons_zero, List.getElem?_cons_succ] at c0
          have k1 := H0.out.2.2.2.2.2.1
          have k2 := H0.out.2.2.2.2.2.2
          go_wp2_with fail
          go_quiet (fail)
          rename_i nq
          clear c0 k1 k2
          have sm := (Sm.refl w).drewN nq
          have H58 := Lib.hid (show Blk (w.drewN nq) g 24 (pmC o pe (Value.slice ra rl rc) (Value.slice qa ql qc) (Value.slice ga gl gc)) ∧ Sl (w.drewN nq) (Value.slice ra rl rc) (ofK .i64 pr) ∧ Sl (w.drewN nq) (Value.slice qa ql qc) (ofK .i64 pq) ∧ Sl (w.drewN nq) (Value.slice ga gl gc) (ofK .i64 pg) ∧ Ch (· = g) w (w.drewN nq) ∧ (w.drewN nq).cell? ⟨b1, 0, none⟩ = some (.int .i64 by_) ∧ (w.drewN nq).cell? ⟨b2, 0, none⟩ = some (.int .i64 who) from ⟨H0.out.1.below (sm.below _) H0.out.1.lt, H0.out.2.1.below (sm.below _) (Nat.le_refl _), H0.out.2.2.1.below (sm.below _) (Nat.le_refl _), H0.out.2.2.2.1.below (sm.below _) (Nat.le_refl _), H0.out.2.2.2.2.1.trans (Ch.of_below (sm.below _) (Nat.le_refl _)), ((sm.below _).cell (p := ⟨b1, 0, none⟩) (block_of_cell H0.out.2.2.2.2.2.1)).trans H0.out.2.2.2.2.2.1, ((sm.below _).cell (p := ⟨b2, 0, none⟩) (block_of_cell H0.out.2.2.2.2.2.2)).trans H0.out.2.2.2.2.2.2⟩)
          clear sm
          generalize w.drewN nq = w57 at H58 ⊢
          clear nq
          have c0 := H58.out.1.cell 0
          simp only [pmC, List.getElem?_cons_zero, List.getElem?_cons_succ] at c0
          have k1 := H58.out.2.2.2.2.2.1
          have k2 := H58.out.2.2.2.2.2.2
          go_wp2_with fail
          go_quiet (((go_at_call 26; exact Calls.quiet_eq (HU.out _))))
          rename_i nq
          clear c0 k1 k2
          have sm := (Sm.refl w57).drewN nq
          have H60 := Lib.hid (show Blk (w57.drewN nq) g 24 (pmC o pe (Value.slice ra rl rc) (Value.slice qa ql qc) (Value.slice ga gl gc)) ∧ Sl (w57.drewN nq) (Value.slice ra rl rc) (ofK .i64 pr) ∧ Sl (w57.drewN nq) (Value.slice qa ql qc) (ofK .i64 pq) ∧ Sl (w57.drewN nq) (Value.slice ga gl gc) (ofK .i64 pg) ∧ Ch (· = g) w (w57.drewN nq) ∧ (w57.drewN nq).cell? ⟨b1, 0, none⟩ = some (.int .i64 by_) ∧ (w57.drewN nq).cell? ⟨b2, 0, none⟩ = some (.int .i64 who) from ⟨H58.out.1.below (sm.below _) H58.out.1.lt, H58.out.2.1.below (sm.below _) (Nat.le_refl _), H58.out.2.2.1.below (sm.below _) (Nat.le_refl _), H58.out.2.2.2.1.below (sm.below _) (Nat.le_refl _), H58.out.2.2.2.2.1.trans (Ch.of_below (sm.below _) (Nat.le_refl _)), ((sm.below _).cell (p := ⟨b1, 0, none⟩) (block_of_cell H58.out.2.2.2.2.2.1)).trans H58.out.2.2.2.2.2.1, ((sm.below _).cell (p := ⟨b2, 0, none⟩) (block_of_cell H58.out.2.2.2.2.2.2)).trans H58.out.2.2.2.2.2.2⟩)
          clear sm
          generalize w57.drewN nq = w59 at H60 ⊢
          clear nq
          have HCa := Lib.hid (fun n => contains_any who (Value.slice ra rl rc) pr (World.drewN w59 n) (((Sm.refl w59).drewN n).sl H60.out.2.1))
          rw [HM.out] at HCa
          have c2 := H60.out.1.cell 2
          simp only [pmC, List.getElem?_cons_zero, List.getElem?_cons_succ] at c2
          have k1 := H60.out.2.2.2.2.2.1
          have k2 := H60.out.2.2.2.2.2.2
          go_wp2_with fail
          go_quiet (((go_at_call 27; exact Calls.quiet_eq (HCa.out _))))
          rename_i nq
          clear c2 k1 k2
          have sm := (Sm.refl w59).drewN nq
          have H62 := Lib.hid (show Blk (w59.drewN nq) g 24 (pmC o pe (Value.slice ra rl rc) (Value.slice qa ql qc) (Value.slice ga gl gc)) ∧ Sl (w59.drewN nq) (Value.slice ra rl rc) (ofK .i64 pr) ∧ Sl (w59.drewN nq) (Value.slice qa ql qc) (ofK .i64 pq) ∧ Sl (w59.drewN nq) (Value.slice ga gl gc) (ofK .i64 pg) ∧ Ch (· = g) w (w59.drewN nq) ∧ (w59.drewN nq).cell? ⟨b1, 0, none⟩ = some (.int .i64 by_) ∧ (w59.drewN nq).cell? ⟨b2, 0, none⟩ = some (.int .i64 who) from ⟨H60.out.1.below (sm.below _) H60.out.1.lt, H60.out.2.1.below (sm.below _) (Nat.le_refl _), H60.out.2.2.1.below (sm.below _) (Nat.le_refl _), H60.out.2.2.2.1.below (sm.below _) (Nat.le_refl _), H60.out.2.2.2.2.1.trans (Ch.of_below (sm.below _) (Nat.le_refl _)), ((sm.below _).cell (p := ⟨b1, 0, none⟩) (block_of_cell H60.out.2.2.2.2.2.1)).trans H60.out.2.2.2.2.2.1, ((sm.below _).cell (p := ⟨b2, 0, none⟩) (block_of_cell H60.out.2.2.2.2.2.2)).trans H60.out.2.2.2.2.2.2⟩)
          clear sm
          generalize w59.drewN nq = w61 at H62 ⊢
          clear nq
          clear HCa
          go_wp2_with fail
          refine wp_region_takes (fun w' => w'.cell? ⟨b2, 0, none⟩ = some (.int .i64 who)) [0, 1, 2, 3, 4, 6, 8, 9, 10, 12] 10 (by kernel_rfl) rfl (by kernel_rfl) (by kernel_rfl) H62.out.2.2.2.2.2.2 ?_
          iterate 10 (refine' HeldL.run ?_ ?_ ?_ ?_; rotate_left 2; (simp only [List.getElem?_toArray, List.getElem?_cons_zero, List.getElem?_cons_succ]; rfl); rfl; (rintro w' k0; go_simp; with_reducible rfl); simp only [Act.put, List.setIfInBounds_toArray, List.set_cons_zero, List.set_cons_succ])
          have sm := (Sm.refl w61).drew
          have HV70 := Lib.hid (show Blk w61.drew g 24 (pmC o pe (Value.slice ra rl rc) (Value.slice qa ql qc) (Value.slice ga gl gc)) ∧ Sl w61.drew (Value.slice ra rl rc) (ofK .i64 pr) ∧ Sl w61.drew (Value.slice qa ql qc) (ofK .i64 pq) ∧ Sl w61.drew (Value.slice ga gl gc) (ofK .i64 pg) ∧ Ch (· = g) w w61.drew ∧ w61.drew.cell? ⟨b1, 0, none⟩ = some (.int .i64 by_) ∧ w61.drew.cell? ⟨b2, 0, none⟩ = some (.int .i64 who) from ⟨H62.out.1.below (sm.below _) H62.out.1.lt, H62.out.2.1.below (sm.below _) (Nat.le_refl _), H62.out.2.2.1.below (sm.below _) (Nat.le_refl _), H62.out.2.2.2.1.below (sm.below _) (Nat.le_refl _), H62.out.2.2.2.2.1.trans (Ch.of_below (sm.below _) (Nat.le_refl _)), ((sm.below _).cell (p := ⟨b1, 0, none⟩) (block_of_cell H62.out.2.2.2.2.2.1)).trans H62.out.2.2.2.2.2.1, ((sm.below _).cell (p := ⟨b2, 0, none⟩) (block_of_cell H62.out.2.2.2.2.2.2)).trans H62.out.2.2.2.2.2.2⟩)
          clear sm
          generalize w61.drew = v69 at HV70 ⊢
          refine' wpAnyH_two 5 11 (by kernel_rfl) ?_ ?_ ?_ ?_; rotate_left 2; (simp only [List.getElem?_toArray, List.getElem?_cons_zero, List.getElem?_cons_succ]; rfl); (simp only [List.getElem?_toArray, List.getElem?_cons_zero, List.getElem?_cons_succ]; rfl)
          · skip
            have cc := HV70.out.1.cell 2
            simp only [pmC, List.getElem?_cons_zero, List.getElem?_cons_succ] at cc
            try simp only [Act.put]
            go_wp2_with fail
            clear cc
            refine QK.normal ⟨HV70.out.2.2.2.2.2.2, ?_⟩
            refine' wpAnyH_two 7 11 (by kernel_rfl) ?_ ?_ ?_ ?_; rotate_left 2; (simp only [List.getElem?_toArray, List.getElem?_cons_zero, List.getElem?_cons_succ]; rfl); (simp only [List.getElem?_toArray, List.getElem?_cons_zero, List.getElem?_cons_succ]; rfl)
            · skip
              try simp only [Act.put]
              go_wp2_with fail
              refine (without_any who (Value.slice ra rl rc) pr v69 HV70.out.2.1 HR.out.1.2.2.2.1).mono ?_
              rintro e' u71 ⟨xa63, xl64, xc65, rfl, hs, hb, hab⟩
              have HO0 := Lib.hid (show (∀ k, (Value.slice xa63 xl64 xc65).ownBlock = some k → k ≠ g) ∧ Abv B (Value.slice xa63 xl64 xc65) from ⟨fun k hk e => by have := hab k hk; have := HV70.out.1.lt; omega, fun k hk => Nat.le_trans HN.out.hB (Nat.le_trans HV70.out.2.2.2.2.1.size (hab k hk))⟩)
              have HU72 := Lib.hid (show Blk u71 g 24 (pmC o pe (Value.slice ra rl rc) (Value.slice qa ql qc) (Value.slice ga gl gc)) ∧ Sl u71 (Value.slice ra rl rc) (ofK .i64 pr) ∧ Sl u71 (Value.slice qa ql qc) (ofK .i64 pq) ∧ Sl u71 (Value.slice ga gl gc) (ofK .i64 pg) ∧ Ch (· = g) w u71 ∧ u71.cell? ⟨b1, 0, none⟩ = some (.int .i64 by_) ∧ u71.cell? ⟨b2, 0, none⟩ = some (.int .i64 who) ∧ Sl u71 (Value.slice xa63 xl64 xc65) (ofK .i64 (keepL (who == ·) pr)) from ⟨HV70.out.1.below hb HV70.out.1.lt, HV70.out.2.1.below hb (Nat.le_refl _), HV70.out.2.2.1.below hb (Nat.le_refl _), HV70.out.2.2.2.1.below hb (Nat.le_refl _), HV70.out.2.2.2.2.1.trans (Ch.of_below hb (Nat.le_refl _)), (hb.cell (p := ⟨b1, 0, none⟩) (block_of_cell HV70.out.2.2.2.2.2.1)).trans HV70.out.2.2.2.2.2.1, (hb.cell (p := ⟨b2, 0, none⟩) (block_of_cell HV70.out.2.2.2.2.2.2)).trans HV70.out.2.2.2.2.2.2, hs⟩)
              clear hs hb hab
              go_wp2_with fail
              refine QK.normal ⟨HU72.out.2.2.2.2.2.2.1, ?_⟩
              refine' wpAnyH_one 11 (by kernel_rfl) ?_ ?_; rotate_left; (simp only [List.getElem?_toArray, List.getElem?_cons_zero, List.getElem?_cons_succ]; rfl)
              have cc := HU72.out.1.cell 3
              simp only [pmC, List.getElem?_cons_zero, List.getElem?_cons_succ] at cc
              try simp only [Act.put]
              go_wp2_with fail
              clear cc
              refine QK.normal ⟨HU72.out.2.2.2.2.2.2.1, ?_⟩
              refine' wpAnyH_one 13 (by kernel_rfl) ?_ ?_; rotate_left; (simp only [List.getElem?_toArray, List.getElem?_cons_zero, List.getElem?_cons_succ]; rfl)
              try simp only [Act.put]
              go_wp2_with fail
              refine (without_any who (Value.slice qa ql qc) pq u71 HU72.out.2.2.1 HR.out.1.2.2.2.2.1).mono ?_
              rintro e' u73 ⟨xa66, xl67, xc68, rfl, hs, hb, hab⟩
              have HO1 := Lib.hid (show (∀ k, (Value.slice xa66 xl67 xc68).ownBlock = some k → k ≠ g) ∧ Abv B (Value.slice xa66 xl67 xc68) from ⟨fun k hk e => by have := hab k hk; have := HU72.out.1.lt; omega, fun k hk => Nat.le_trans HN.out.hB (Nat.le_trans HU72.out.2.2.2.2.1.size (hab k hk))⟩)
              have HU74 := Lib.hid (show Blk u73 g 24 (pmC o pe (Value.slice ra rl rc) (Value.slice qa ql qc) (Value.slice ga gl gc)) ∧ Sl u73 (Value.slice ra rl rc) (ofK .i64 pr) ∧ Sl u73 (Value.slice qa ql qc) (ofK .i64 pq) ∧ Sl u73 (Value.slice ga gl gc) (ofK .i64 pg) ∧ Ch (· = g) w u73 ∧ u73.cell? ⟨b1, 0, none⟩ = some (.int .i64 by_) ∧ u73.cell? ⟨b2, 0, none⟩ = some (.int .i64 who) ∧ Sl u73 (Value.slice xa63 xl64 xc65) (ofK .i64 (keepL (who == ·) pr)) ∧ Sl u73 (Value.slice xa66 xl67 xc68) (ofK .i64 (keepL (who == ·) pq)) from ⟨HU72.out.1.below hb HU72.out.1.lt, HU72.out.2.1.below hb (Nat.le_refl _), HU72.out.2.2.1.below hb (Nat.le_refl _), HU72.out.2.2.2.1.below hb (Nat.le_refl _), HU72.out.2.2.2.2.1.trans (Ch.of_below hb (Nat.le_refl _)), (hb.cell (p := ⟨b1, 0, none⟩) (block_of_cell HU72.out.2.2.2.2.2.1)).trans HU72.out.2.2.2.2.2.1, (hb.cell (p := ⟨b2, 0, none⟩) (block_of_cell HU72.out.2.2.2.2.2.2.1)).trans HU72.out.2.2.2.2.2.2.1, HU72.out.2.2.2.2.2.2.2.below hb (Nat.le_refl _), hs⟩)
              clear hs hb hab
              go_wp2_with fail
              refine QK.normal ⟨HU74.out.2.2.2.2.2.2.1, ?_⟩
              refine' wpAnyH_one 14 (by kernel_rfl) ?_ ?_; rotate_left; (simp only [List.getElem?_toArray, List.getElem?_cons_zero, List.getElem?_cons_succ]; rfl)
              try simp only [Act.put]
              go_wp2_with fail
              refine QK.normal ⟨HU74.out.2.2.2.2.2.2.1, ?_⟩
              refine' wpAnyH_one 15 (by kernel_rfl) ?_ ?_; rotate_left; (simp only [List.getElem?_toArray, List.getElem?_cons_zero, List.getElem?_cons_succ]; rfl)
              try simp only [Act.put]
              go_wp2_with fail
              refine QK.normal ⟨HU74.out.2.2.2.2.2.2.1, ?_⟩
              refine' wpAnyH_one 16 (by kernel_rfl) ?_ ?_; rotate_left; (simp only [List.getElem?_toArray, List.getElem?_cons_zero, List.getElem?_cons_succ]; rfl)
              have cc := HU74.out.1.cell 2
              have ff := HU74.out.1.free 2
              simp only [pmC, List.getElem?_cons_zero, List.getElem?_cons_succ] at cc
              try simp only [Act.put]
              go_wp2_with fail
              clear cc ff
              have hc := Ch.set u73 ⟨g, 2, none⟩ (Value.slice xa63 xl64 xc65)
              have HU76 := Lib.hid (show Blk (u73.setCell ⟨g, 2, none⟩ (Value.slice xa63 xl64 xc65)) g 24 (pmC o pe (Value.slice xa63 xl64 xc65) (Value.slice qa ql qc) (Value.slice ga gl gc)) ∧ Sl (u73.setCell ⟨g, 2, none⟩ (Value.slice xa63 xl64 xc65)) (Value.slice xa63 xl64 xc65) (ofK .i64 (keepL (who == ·) pr)) ∧ Sl (u73.setCell ⟨g, 2, none⟩ (Value.slice xa63 xl64 xc65)) (Value.slice qa ql qc) (ofK .i64 pq) ∧ Sl (u73.setCell ⟨g, 2, none⟩ (Value.slice xa63 xl64 xc65)) (Value.slice ga gl gc) (ofK .i64 pg) ∧ Ch (· = g) w (u73.setCell ⟨g, 2, none⟩ (Value.slice xa63 xl64 xc65)) ∧ (u73.setCell ⟨g, 2, none⟩ (Value.slice xa63 xl64 xc65)).cell? ⟨b1, 0, none⟩ = some (.int .i64 by_) ∧ (u73.setCell ⟨g, 2, none⟩ (Value.slice xa63 xl64 xc65)).cell? ⟨b2, 0, none⟩ = some (.int .i64 who) ∧ Sl (u73.setCell ⟨g, 2, none⟩ (Value.slice xa63 xl64 xc65)) (Value.slice xa66 xl67 xc68) (ofK .i64 (keepL (who == ·) pq)) from ⟨HU74.out.1.set 2 (Value.slice xa63 xl64 xc65), HU74.out.2.2.2.2.2.2.2.1.keep hc HO0.out.1, HU74.out.2.2.1.keep hc HN.out.oqq, HU74.out.2.2.2.1.keep hc HN.out.ogg, HU74.out.2.2.2.2.1.trans hc, (hc.cell (p := ⟨b1, 0, none⟩) (block_of_cell HU74.out.2.2.2.2.2.1) (fun e => HN.out.n1 e)).trans HU74.out.2.2.2.2.2.1, (hc.cell (p := ⟨b2, 0, none⟩) (block_of_cell HU74.out.2.2.2.2.2.2.1) (fun e => HN.out.n2 e)).trans HU74.out.2.2.2.2.2.2.1, HU74.out.2.2.2.2.2.2.2.2.keep hc HO1.out.1⟩)
              clear hc
              generalize (u73.setCell ⟨g, 2, none⟩ (Value.slice xa63 xl64 xc65)) = u75 at HU76 ⊢
              refine QK.normal ⟨HU76.out.2.2.2.2.2.2.1, ?_⟩
              refine' wpAnyH_one 17 (by kernel_rfl) ?_ ?_; rotate_left; (simp only [List.getElem?_toArray, List.getElem?_cons_zero, List.getElem?_cons_succ]; rfl)
              try simp only [Act.put]
              go_wp2_with fail
              refine QK.normal ⟨HU76.out.2.2.2.2.2.2.1, ?_⟩
              refine' wpAnyH_one 18 (by kernel_rfl) ?_ ?_; rotate_left; (simp only [List.getElem?_toArray, List.getElem?_cons_zero, List.getElem?_cons_succ]; rfl)
              try simp only [Act.put]
              go_wp2_with fail
              refine QK.normal ⟨HU76.out.2.2.2.2.2.2.1, ?_⟩
              refine' wpAnyH_one 19 (by kernel_rfl) ?_ ?_; rotate_left; (simp only [List.getElem?_toArray, List.getElem?_cons_zero, List.getElem?_cons_succ]; rfl)
              have cc := HU76.out.1.cell 3
              have ff := HU76.out.1.free 3
              simp only [pmC, List.getElem?_cons_zero, List.getElem?_cons_succ] at cc
              try simp only [Act.put]
              go_wp2_with fail
              clear cc ff
              have hc := Ch.set u75 ⟨g, 3, none⟩ (Value.slice xa66 xl67 xc68)
              have HU78 := Lib.hid (show Blk (u75.setCell ⟨g, 3, none⟩ (Value.slice xa66 xl67 xc68)) g 24 (pmC o pe (Value.slice xa63 xl64 xc65) (Value.slice xa66 xl67 xc68) (Value.slice ga gl gc)) ∧ Sl (u75.setCell ⟨g, 3, none⟩ (Value.slice xa66 xl67 xc68)) (Value.slice xa63 xl64 xc65) (ofK .i64 (keepL (who == ·) pr)) ∧ Sl (u75.setCell ⟨g, 3, none⟩ (Value.slice xa66 xl67 xc68)) (Value.slice xa66 xl67 xc68) (ofK .i64 (keepL (who == ·) pq)) ∧ Sl (u75.setCell ⟨g, 3, none⟩ (Value.slice xa66 xl67 xc68)) (Value.slice ga gl gc) (ofK .i64 pg) ∧ Ch (· = g) w (u75.setCell ⟨g, 3, none⟩ (Value.slice xa66 xl67 xc68)) ∧ (u75.setCell ⟨g, 3, none⟩ (Value.slice xa66 xl67 xc68)).cell? ⟨b1, 0, none⟩ = some (.int .i64 by_) ∧ (u75.setCell ⟨g, 3, none⟩ (Value.slice xa66 xl67 xc68)).cell? ⟨b2, 0, none⟩ = some (.int .i64 who) from ⟨HU76.out.1.set 3 (Value.slice xa66 xl67 xc68), HU76.out.2.1.keep hc HO0.out.1, HU76.out.2.2.2.2.2.2.2.keep hc HO1.out.1, HU76.out.2.2.2.1.keep hc HN.out.ogg, HU76.out.2.2.2.2.1.trans hc, (hc.cell (p := ⟨b1, 0, none⟩) (block_of_cell HU76.out.2.2.2.2.2.1) (fun e => HN.out.n1 e)).trans HU76.out.2.2.2.2.2.1, (hc.cell (p := ⟨b2, 0, none⟩) (block_of_cell HU76.out.2.2.2.2.2.2.1) (fun e => HN.out.n2 e)).trans HU76.out.2.2.2.2.2.2.1⟩)
              clear hc
              generalize (u75.setCell ⟨g, 3, none⟩ (Value.slice xa66 xl67 xc68)) = u77 at HU78 ⊢
              refine QK.normal ⟨HU78.out.2.2.2.2.2.2, ?_⟩
              refine wpAnyH_done (by kernel_rfl) ?_ _
              refine NoPanic.normal ?_
              go_wp2_with fail
              refine (next_any ⟨o, pe, keepL (who == ·) pr, keepL (who == ·) pq, pg⟩ g B _ _ _ u77 HU78.out.1 ⟨HU78.out.2.1, HU78.out.2.2.1, HU78.out.2.2.2.1⟩ ⟨HO0.out.1, HO1.out.1, HN.out.ogg⟩ ⟨HO0.out.2, HO1.out.2, HN.out.ab.2.2⟩ HR.out.2.1 HR.out.2.2).mono ?_
              rw [HRR.out]
              rintro e uz ⟨rfl, yr, yq, yg, d1, d2, d3, d4⟩
              have HD := Lib.hid (show DoneP w g B R (.returned (.int .i64 R.1)) uz from ⟨rfl, yr, yq, yg, d1, d2, HU78.out.2.2.2.2.1.trans d3, d4⟩)
              clear d1 d2 d3 d4
              go_wp2_with fail
              go_ret
              exact HD.out
            · skip
              have cc := HV70.out.1.cell 3
              simp only [pmC, List.getElem?_cons_zero, List.getElem?_cons_succ] at cc
              try simp only [Act.put]
              go_wp2_with fail
              clear cc
              refine QK.normal ⟨HV70.out.2.2.2.2.2.2, ?_⟩
              refine' wpAnyH_one 7 (by kernel_rfl) ?_ ?_; rotate_left; (simp only [List.getElem?_toArray, List.getElem?_cons_zero, List.getElem?_cons_succ]; rfl)
              try simp only [Act.put]
              go_wp2_with fail
              refine (without_any who (Value.slice ra rl rc) pr v69 HV70.out.2.1 HR.out.1.2.2.2.1).mono ?_
              rintro e' u79 ⟨xa63, xl64, xc65, rfl, hs, hb, hab⟩
              have HO0 := Lib.hid (show (∀ k, (Value.slice xa63 xl64 xc65).ownBlock = some k → k ≠ g) ∧ Abv B (Value.slice xa63 xl64 xc65) from ⟨fun k hk e => by have := hab k hk; have := HV70.out.1.lt; omega, fun k hk => Nat.le_trans HN.out.hB (Nat.le_trans HV70.out.2.2.2.2.1.size (hab k hk))⟩)
              have HU80 := Lib.hid (show Blk u79 g 24 (pmC o pe (Value.slice ra rl rc) (Value.slice qa ql qc) (Value.slice ga gl gc)) ∧ Sl u79 (Value.slice ra rl rc) (ofK .i64 pr) ∧ Sl u79 (Value.slice qa ql qc) (ofK .i64 pq) ∧ Sl u79 (Value.slice ga gl gc) (ofK .i64 pg) ∧ Ch (· = g) w u79 ∧ u79.cell? ⟨b1, 0, none⟩ = some (.int .i64 by_) ∧ u79.cell? ⟨b2, 0, none⟩ = some (.int .i64 who) ∧ Sl u79 (Value.slice xa63 xl64 xc65) (ofK .i64 (keepL (who == ·) pr)) from ⟨HV70.out.1.below hb HV70.out.1.lt, HV70.out.2.1.below hb (Nat.le_refl _), HV70.out.2.2.1.below hb (Nat.le_refl _), HV70.out.2.2.2.1.below hb (Nat.le_refl _), HV70.out.2.2.2.2.1.trans (Ch.of_below hb (Nat.le_refl _)), (hb.cell (p := ⟨b1, 0, none⟩) (block_of_cell HV70.out.2.2.2.2.2.1)).trans HV70.out.2.2.2.2.2.1, (hb.cell (p := ⟨b2, 0, none⟩) (block_of_cell HV70.out.2.2.2.2.2.2)).trans HV70.out.2.2.2.2.2.2, hs⟩)
              clear hs hb hab
              go_wp2_with fail
              refine QK.normal ⟨HU80.out.2.2.2.2.2.2.1, ?_⟩
              refine' wpAnyH_one 13 (by kernel_rfl) ?_ ?_; rotate_left; (simp only [List.getElem?_toArray, List.getElem?_cons_zero, List.getElem?_cons_succ]; rfl)
              try simp only [Act.put]
              go_wp2_with fail
              refine (without_any who (Value.slice qa ql qc) pq u79 HU80.out.2.2.1 HR.out.1.2.2.2.2.1).mono ?_
              rintro e' u81 ⟨xa66, xl67, xc68, rfl, hs, hb, hab⟩
              have HO1 := Lib.hid (show (∀ k, (Value.slice xa66 xl67 xc68).ownBlock = some k → k ≠ g) ∧ Abv B (Value.slice xa66 xl67 xc68) from ⟨fun k hk e => by have := hab k hk; have := HU80.out.1.lt; omega, fun k hk => Nat.le_trans HN.out.hB (Nat.le_trans HU80.out.2.2.2.2.1.size (hab k hk))⟩)
              have HU82 := Lib.hid (show Blk u81 g 24 (pmC o pe (Value.slice ra rl rc) (Value.slice qa ql qc) (Value.slice ga gl gc)) ∧ Sl u81 (Value.slice ra rl rc) (ofK .i64 pr) ∧ Sl u81 (Value.slice qa ql qc) (ofK .i64 pq) ∧ Sl u81 (Value.slice ga gl gc) (ofK .i64 pg) ∧ Ch (· = g) w u81 ∧ u81.cell? ⟨b1, 0, none⟩ = some (.int .i64 by_) ∧ u81.cell? ⟨b2, 0, none⟩ = some (.int .i64 who) ∧ Sl u81 (Value.slice xa63 xl64 xc65) (ofK .i64 (keepL (who == ·) pr)) ∧ Sl u81 (Value.slice xa66 xl67 xc68) (ofK .i64 (keepL (who == ·) pq)) from ⟨HU80.out.1.below hb HU80.out.1.lt, HU80.out.2.1.below hb (Nat.le_refl _), HU80.out.2.2.1.below hb (Nat.le_refl _), HU80.out.2.2.2.1.below hb (Nat.le_refl _), HU80.out.2.2.2.2.1.trans (Ch.of_below hb (Nat.le_refl _)), (hb.cell (p := ⟨b1, 0, none⟩) (block_of_cell HU80.out.2.2.2.2.2.1)).trans HU80.out.2.2.2.2.2.1, (hb.cell (p := ⟨b2, 0, none⟩) (block_of_cell HU80.out.2.2.2.2.2.2.1)).trans HU80.out.2.2.2.2.2.2.1, HU80.out.2.2.2.2.2.2.2.below hb (Nat.le_refl _), hs⟩)
              clear hs hb hab
              go_wp2_with fail
              refine QK.normal ⟨HU82.out.2.2.2.2.2.2.1, ?_⟩
              refine' wpAnyH_one 14 (by kernel_rfl) ?_ ?_; rotate_left; (simp only [List.getElem?_toArray, List.getElem?_cons_zero, List.getElem?_cons_succ]; rfl)
              try simp only [Act.put]
              go_wp2_with fail
              refine QK.normal ⟨HU82.out.2.2.2.2.2.2.1, ?_⟩
              refine' wpAnyH_one 15 (by kernel_rfl) ?_ ?_; rotate_left; (simp only [List.getElem?_toArray, List.getElem?_cons_zero, List.getElem?_cons_succ]; rfl)
              try simp only [Act.put]
              go_wp2_with fail
              refine QK.normal ⟨HU82.out.2.2.2.2.2.2.1, ?_⟩
              refine' wpAnyH_one 16 (by kernel_rfl) ?_ ?_; rotate_left; (simp only [List.getElem?_toArray, List.getElem?_cons_zero, List.getElem?_cons_succ]; rfl)
              have cc := HU82.out.1.cell 2
              have ff := HU82.out.1.free 2
              simp only [pmC, List.getElem?_cons_zero, List.getElem?_cons_succ] at cc
              try simp only [Act.put]
              go_wp2_with fail
              clear cc ff
              have hc := Ch.set u81 ⟨g, 2, none⟩ (Value.slice xa63 xl64 xc65)
              have HU84 := Lib.hid (show Blk (u81.setCell ⟨g, 2, none⟩ (Value.slice xa63 xl64 xc65)) g 24 (pmC o pe (Value.slice xa63 xl64 xc65) (Value.slice qa ql qc) (Value.slice ga gl gc)) ∧ Sl (u81.setCell ⟨g, 2, none⟩ (Value.slice xa63 xl64 xc65)) (Value.slice xa63 xl64 xc65) (ofK .i64 (keepL (who == ·) pr)) ∧ Sl (u81.setCell ⟨g, 2, none⟩ (Value.slice xa63 xl64 xc65)) (Value.slice qa ql qc) (ofK .i64 pq) ∧ Sl (u81.setCell ⟨g, 2, none⟩ (Value.slice xa63 xl64 xc65)) (Value.slice ga gl gc) (ofK .i64 pg) ∧ Ch (· = g) w (u81.setCell ⟨g, 2, none⟩ (Value.slice xa63 xl64 xc65)) ∧ (u81.setCell ⟨g, 2, none⟩ (Value.slice xa63 xl64 xc65)).cell? ⟨b1, 0, none⟩ = some (.int .i64 by_) ∧ (u81.setCell ⟨g, 2, none⟩ (Value.slice xa63 xl64 xc65)).cell? ⟨b2, 0, none⟩ = some (.int .i64 who) ∧ Sl (u81.setCell ⟨g, 2, none⟩ (Value.slice xa63 xl64 xc65)) (Value.slice xa66 xl67 xc68) (ofK .i64 (keepL (who == ·) pq)) from ⟨HU82.out.1.set 2 (Value.slice xa63 xl64 xc65), HU82.out.2.2.2.2.2.2.2.1.keep hc HO0.out.1, HU82.out.2.2.1.keep hc HN.out.oqq, HU82.out.2.2.2.1.keep hc HN.out.ogg, HU82.out.2.2.2.2.1.trans hc, (hc.cell (p := ⟨b1, 0, none⟩) (block_of_cell HU82.out.2.2.2.2.2.1) (fun e => HN.out.n1 e)).trans HU82.out.2.2.2.2.2.1, (hc.cell (p := ⟨b2, 0, none⟩) (block_of_cell HU82.out.2.2.2.2.2.2.1) (fun e => HN.out.n2 e)).trans HU82.out.2.2.2.2.2.2.1, HU82.out.2.2.2.2.2.2.2.2.keep hc HO1.out.1⟩)
              clear hc
              generalize (u81.setCell ⟨g, 2, none⟩ (Value.slice xa63 xl64 xc65)) = u83 at HU84 ⊢
              refine QK.normal ⟨HU84.out.2.2.2.2.2.2.1, ?_⟩
              refine' wpAnyH_one 17 (by kernel_rfl) ?_ ?_; rotate_left; (simp only [List.getElem?_toArray, List.getElem?_cons_zero, List.getElem?_cons_succ]; rfl)
              try simp only [Act.put]
              go_wp2_with fail
              refine QK.normal ⟨HU84.out.2.2.2.2.2.2.1, ?_⟩
              refine' wpAnyH_one 18 (by kernel_rfl) ?_ ?_; rotate_left; (simp only [List.getElem?_toArray, List.getElem?_cons_zero, List.getElem?_cons_succ]; rfl)
              try simp only [Act.put]
              go_wp2_with fail
              refine QK.normal ⟨HU84.out.2.2.2.2.2.2.1, ?_⟩
              refine' wpAnyH_one 19 (by kernel_rfl) ?_ ?_; rotate_left; (simp only [List.getElem?_toArray, List.getElem?_cons_zero, List.getElem?_cons_succ]; rfl)
              have cc := HU84.out.1.cell 3
              have ff := HU84.out.1.free 3
              simp only [pmC, List.getElem?_cons_zero, List.getElem?_cons_succ] at cc
              try simp only [Act.put]
              go_wp2_with fail
              clear cc ff
              have hc := Ch.set u83 ⟨g, 3, none⟩ (Value.slice xa66 xl67 xc68)
              have HU86 := Lib.hid (show Blk (u83.setCell ⟨g, 3, none⟩ (Value.slice xa66 xl67 xc68)) g 24 (pmC o pe (Value.slice xa63 xl64 xc65) (Value.slice xa66 xl67 xc68) (Value.slice ga gl gc)) ∧ Sl (u83.setCell ⟨g, 3, none⟩ (Value.slice xa66 xl67 xc68)) (Value.slice xa63 xl64 xc65) (ofK .i64 (keepL (who == ·) pr)) ∧ Sl (u83.setCell ⟨g, 3, none⟩ (Value.slice xa66 xl67 xc68)) (Value.slice xa66 xl67 xc68) (ofK .i64 (keepL (who == ·) pq)) ∧ Sl (u83.setCell ⟨g, 3, none⟩ (Value.slice xa66 xl67 xc68)) (Value.slice ga gl gc) (ofK .i64 pg) ∧ Ch (· = g) w (u83.setCell ⟨g, 3, none⟩ (Value.slice xa66 xl67 xc68)) ∧ (u83.setCell ⟨g, 3, none⟩ (Value.slice xa66 xl67 xc68)).cell? ⟨b1, 0, none⟩ = some (.int .i64 by_) ∧ (u83.setCell ⟨g, 3, none⟩ (Value.slice xa66 xl67 xc68)).cell? ⟨b2, 0, none⟩ = some (.int .i64 who) from ⟨HU84.out.1.set 3 (Value.slice xa66 xl67 xc68), HU84.out.2.1.keep hc HO0.out.1, HU84.out.2.2.2.2.2.2.2.keep hc HO1.out.1, HU84.out.2.2.2.1.keep hc HN.out.ogg, HU84.out.2.2.2.2.1.trans hc, (hc.cell (p := ⟨b1, 0, none⟩) (block_of_cell HU84.out.2.2.2.2.2.1) (fun e => HN.out.n1 e)).trans HU84.out.2.2.2.2.2.1, (hc.cell (p := ⟨b2, 0, none⟩) (block_of_cell HU84.out.2.2.2.2.2.2.1) (fun e => HN.out.n2 e)).trans HU84.out.2.2.2.2.2.2.1⟩)
              clear hc
              generalize (u83.setCell ⟨g, 3, none⟩ (Value.slice xa66 xl67 xc68)) = u85 at HU86 ⊢
              refine QK.normal ⟨HU86.out.2.2.2.2.2.2, ?_⟩
              refine wpAnyH_done (by kernel_rfl) ?_ _
              refine NoPanic.normal ?_
              go_wp2_with fail
              refine (next_any ⟨o, pe, keepL (who == ·) pr, keepL (who == ·) pq, pg⟩ g B _ _ _ u85 HU86.out.1 ⟨HU86.out.2.1, HU86.out.2.2.1, HU86.out.2.2.2.1⟩ ⟨HO0.out.1, HO1.out.1, HN.out.ogg⟩ ⟨HO0.out.2, HO1.out.2, HN.out.ab.2.2⟩ HR.out.2.1 HR.out.2.2).mono ?_
              rw [HRR.out]
              rintro e uz ⟨rfl, yr, yq, yg, d1, d2, d3, d4⟩
              have HD := Lib.hid (show DoneP w g B R (.returned (.int .i64 R.1)) uz from ⟨rfl, yr, yq, yg, d1, d2, HU86.out.2.2.2.2.1.trans d3, d4⟩)
              clear d1 d2 d3 d4
              go_wp2_with fail
              go_ret
              exact HD.out
          · skip
            have cc := HV70.out.1.cell 3
            simp only [pmC, List.getElem?_cons_zero, List.getElem?_cons_succ] at cc
            try simp only [Act.put]
            go_wp2_with fail
            clear cc
            refine QK.normal ⟨HV70.out.2.2.2.2.2.2, ?_⟩
            refine' wpAnyH_one 5 (by kernel_rfl) ?_ ?_; rotate_left; (simp only [List.getElem?_toArray, List.getElem?_cons_zero, List.getElem?_cons_succ]; rfl)
            have cc := HV70.out.1.cell 2
            simp only [pmC, List.getElem?_cons_zero, List.getElem?_cons_succ] at cc
            try simp only [Act.put]
            go_wp2_with fail
            clear cc
            refine QK.normal ⟨HV70.out.2.2.2.2.2.2, ?_⟩
            refine' wpAnyH_one 7 (by kernel_rfl) ?_ ?_; rotate_left; (simp only [List.getElem?_toArray, List.getElem?_cons_zero, List.getElem?_cons_succ]; rfl)
            try simp only [Act.put]
            go_wp2_with fail
            refine (without_any who (Value.slice ra rl rc) pr v69 HV70.out.2.1 HR.out.1.2.2.2.1).mono ?_
            rintro e' u87 ⟨xa63, xl64, xc65, rfl, hs, hb, hab⟩
            have HO0 := Lib.hid (show (∀ k, (Value.slice xa63 xl64 xc65).ownBlock = some k → k ≠ g) ∧ Abv B (Value.slice xa63 xl64 xc65) from ⟨fun k hk e => by have := hab k hk; have := HV70.out.1.lt; omega, fun k hk => Nat.le_trans HN.out.hB (Nat.le_trans HV70.out.2.2.2.2.1.size (hab k hk))⟩)
            have HU88 := Lib.hid (show Blk u87 g 24 (pmC o pe (Value.slice ra rl rc) (Value.slice qa ql qc) (Value.slice ga gl gc)) ∧ Sl u87 (Value.slice ra rl rc) (ofK .i64 pr) ∧ Sl u87 (Value.slice qa ql qc) (ofK .i64 pq) ∧ Sl u87 (Value.slice ga gl gc) (ofK .i64 pg) ∧ Ch (· = g) w u87 ∧ u87.cell? ⟨b1, 0, none⟩ = some (.int .i64 by_) ∧ u87.cell? ⟨b2, 0, none⟩ = some (.int .i64 who) ∧ Sl u87 (Value.slice xa63 xl64 xc65) (ofK .i64 (keepL (who == ·) pr)) from ⟨HV70.out.1.below hb HV70.out.1.lt, HV70.out.2.1.below hb (Nat.le_refl _), HV70.out.2.2.1.below hb (Nat.le_refl _), HV70.out.2.2.2.1.below hb (Nat.le_refl _), HV70.out.2.2.2.2.1.trans (Ch.of_below hb (Nat.le_refl _)), (hb.cell (p := ⟨b1, 0, none⟩) (block_of_cell HV70.out.2.2.2.2.2.1)).trans HV70.out.2.2.2.2.2.1, (hb.cell (p := ⟨b2, 0, none⟩) (block_of_cell HV70.out.2.2.2.2.2.2)).trans HV70.out.2.2.2.2.2.2, hs⟩)
            clear hs hb hab
            go_wp2_with fail
            refine QK.normal ⟨HU88.out.2.2.2.2.2.2.1, ?_⟩
            refine' wpAnyH_one 13 (by kernel_rfl) ?_ ?_; rotate_left; (simp only [List.getElem?_toArray, List.getElem?_cons_zero, List.getElem?_cons_succ]; rfl)
            try simp only [Act.put]
            go_wp2_with fail
            refine (without_any who (Value.slice qa ql qc) pq u87 HU88.out.2.2.1 HR.out.1.2.2.2.2.1).mono ?_
            rintro e' u89 ⟨xa66, xl67, xc68, rfl, hs, hb, hab⟩
            have HO1 := Lib.hid (show (∀ k, (Value.slice xa66 xl67 xc68).ownBlock = some k → k ≠ g) ∧ Abv B (Value.slice xa66 xl67 xc68) from ⟨fun k hk e => by have := hab k hk; have := HU88.out.1.lt; omega, fun k hk => Nat.le_trans HN.out.hB (Nat.le_trans HU88.out.2.2.2.2.1.size (hab k hk))⟩)
            have HU90 := Lib.hid (show Blk u89 g 24 (pmC o pe (Value.slice ra rl rc) (Value.slice qa ql qc) (Value.slice ga gl gc)) ∧ Sl u89 (Value.slice ra rl rc) (ofK .i64 pr) ∧ Sl u89 (Value.slice qa ql qc) (ofK .i64 pq) ∧ Sl u89 (Value.slice ga gl gc) (ofK .i64 pg) ∧ Ch (· = g) w u89 ∧ u89.cell? ⟨b1, 0, none⟩ = some (.int .i64 by_) ∧ u89.cell? ⟨b2, 0, none⟩ = some (.int .i64 who) ∧ Sl u89 (Value.slice xa63 xl64 xc65) (ofK .i64 (keepL (who == ·) pr)) ∧ Sl u89 (Value.slice xa66 xl67 xc68) (ofK .i64 (keepL (who == ·) pq)) from ⟨HU88.out.1.below hb HU88.out.1.lt, HU88.out.2.1.below hb (Nat.le_refl _), HU88.out.2.2.1.below hb (Nat.le_refl _), HU88.out.2.2.2.1.below hb (Nat.le_refl _), HU88.out.2.2.2.2.1.trans (Ch.of_below hb (Nat.le_refl _)), (hb.cell (p := ⟨b1, 0, none⟩) (block_of_cell HU88.out.2.2.2.2.2.1)).trans HU88.out.2.2.2.2.2.1, (hb.cell (p := ⟨b2, 0, none⟩) (block_of_cell HU88.out.2.2.2.2.2.2.1)).trans HU88.out.2.2.2.2.2.2.1, HU88.out.2.2.2.2.2.2.2.below hb (Nat.le_refl _), hs⟩)
            clear hs hb hab
            go_wp2_with fail
            refine QK.normal ⟨HU90.out.2.2.2.2.2.2.1, ?_⟩
            refine' wpAnyH_one 14 (by kernel_rfl) ?_ ?_; rotate_left; (simp only [List.getElem?_toArray, List.getElem?_cons_zero, List.getElem?_cons_succ]; rfl)
            try simp only [Act.put]
            go_wp2_with fail
            refine QK.normal ⟨HU90.out.2.2.2.2.2.2.1, ?_⟩
            refine' wpAnyH_one 15 (by kernel_rfl) ?_ ?_; rotate_left; (simp only [List.getElem?_toArray, List.getElem?_cons_zero, List.getElem?_cons_succ]; rfl)
            try simp only [Act.put]
            go_wp2_with fail
            refine QK.normal ⟨HU90.out.2.2.2.2.2.2.1, ?_⟩
            refine' wpAnyH_one 16 (by kernel_rfl) ?_ ?_; rotate_left; (simp only [List.getElem?_toArray, List.getElem?_cons_zero, List.getElem?_cons_succ]; rfl)
            have cc := HU90.out.1.cell 2
            have ff := HU90.out.1.free 2
            simp only [pmC, List.getElem?_cons_zero, List.getElem?_cons_succ] at cc
            try simp only [Act.put]
            go_wp2_with fail
            clear cc ff
            have hc := Ch.set u89 ⟨g, 2, none⟩ (Value.slice xa63 xl64 xc65)
            have HU92 := Lib.hid (show Blk (u89.setCell ⟨g, 2, none⟩ (Value.slice xa63 xl64 xc65)) g 24 (pmC o pe (Value.slice xa63 xl64 xc65) (Value.slice qa ql qc) (Value.slice ga gl gc)) ∧ Sl (u89.setCell ⟨g, 2, none⟩ (Value.slice xa63 xl64 xc65)) (Value.slice xa63 xl64 xc65) (ofK .i64 (keepL (who == ·) pr)) ∧ Sl (u89.setCell ⟨g, 2, none⟩ (Value.slice xa63 xl64 xc65)) (Value.slice qa ql qc) (ofK .i64 pq) ∧ Sl (u89.setCell ⟨g, 2, none⟩ (Value.slice xa63 xl64 xc65)) (Value.slice ga gl gc) (ofK .i64 pg) ∧ Ch (· = g) w (u89.setCell ⟨g, 2, none⟩ (Value.slice xa63 xl64 xc65)) ∧ (u89.setCell ⟨g, 2, none⟩ (Value.slice xa63 xl64 xc65)).cell? ⟨b1, 0, none⟩ = some (.int .i64 by_) ∧ (u89.setCell ⟨g, 2, none⟩ (Value.slice xa63 xl64 xc65)).cell? ⟨b2, 0, none⟩ = some (.int .i64 who) ∧ Sl (u89.setCell ⟨g, 2, none⟩ (Value.slice xa63 xl64 xc65)) (Value.slice xa66 xl67 xc68) (ofK .i64 (keepL (who == ·) pq)) from ⟨HU90.out.1.set 2 (Value.slice xa63 xl64 xc65), HU90.out.2.2.2.2.2.2.2.1.keep hc HO0.out.1, HU90.out.2.2.1.keep hc HN.out.oqq, HU90.out.2.2.2.1.keep hc HN.out.ogg, HU90.out.2.2.2.2.1.trans hc, (hc.cell (p := ⟨b1, 0, none⟩) (block_of_cell HU90.out.2.2.2.2.2.1) (fun e => HN.out.n1 e)).trans HU90.out.2.2.2.2.2.1, (hc.cell (p := ⟨b2, 0, none⟩) (block_of_cell HU90.out.2.2.2.2.2.2.1) (fun e => HN.out.n2 e)).trans HU90.out.2.2.2.2.2.2.1, HU90.out.2.2.2.2.2.2.2.2.keep hc HO1.out.1⟩)
            clear hc
            generalize (u89.setCell ⟨g, 2, none⟩ (Value.slice xa63 xl64 xc65)) = u91 at HU92 ⊢
            refine QK.normal ⟨HU92.out.2.2.2.2.2.2.1, ?_⟩
            refine' wpAnyH_one 17 (by kernel_rfl) ?_ ?_; rotate_left; (simp only [List.getElem?_toArray, List.getElem?_cons_zero, List.getElem?_cons_succ]; rfl)
            try simp only [Act.put]
            go_wp2_with fail
            refine QK.normal ⟨HU92.out.2.2.2.2.2.2.1, ?_⟩
            refine' wpAnyH_one 18 (by kernel_rfl) ?_ ?_; rotate_left; (simp only [List.getElem?_toArray, List.getElem?_cons_zero, List.getElem?_cons_succ]; rfl)
            try simp only [Act.put]
            go_wp2_with fail
            refine QK.normal ⟨HU92.out.2.2.2.2.2.2.1, ?_⟩
            refine' wpAnyH_one 19 (by kernel_rfl) ?_ ?_; rotate_left; (simp only [List.getElem?_toArray, List.getElem?_cons_zero, List.getElem?_cons_succ]; rfl)
            have cc := HU92.out.1.cell 3
            have ff := HU92.out.1.free 3
            simp only [pmC, List.getElem?_cons_zero, List.getElem?_cons_succ] at cc
            try simp only [Act.put]
            go_wp2_with fail
            clear cc ff
            have hc := Ch.set u91 ⟨g, 3, none⟩ (Value.slice xa66 xl67 xc68)
            have HU94 := Lib.hid (show Blk (u91.setCell ⟨g, 3, none⟩ (Value.slice xa66 xl67 xc68)) g 24 (pmC o pe (Value.slice xa63 xl64 xc65) (Value.slice xa66 xl67 xc68) (Value.slice ga gl gc)) ∧ Sl (u91.setCell ⟨g, 3, none⟩ (Value.slice xa66 xl67 xc68)) (Value.slice xa63 xl64 xc65) (ofK .i64 (keepL (who == ·) pr)) ∧ Sl (u91.setCell ⟨g, 3, none⟩ (Value.slice xa66 xl67 xc68)) (Value.slice xa66 xl67 xc68) (ofK .i64 (keepL (who == ·) pq)) ∧ Sl (u91.setCell ⟨g, 3, none⟩ (Value.slice xa66 xl67 xc68)) (Value.slice ga gl gc) (ofK .i64 pg) ∧ Ch (· = g) w (u91.setCell ⟨g, 3, none⟩ (Value.slice xa66 xl67 xc68)) ∧ (u91.setCell ⟨g, 3, none⟩ (Value.slice xa66 xl67 xc68)).cell? ⟨b1, 0, none⟩ = some (.int .i64 by_) ∧ (u91.setCell ⟨g, 3, none⟩ (Value.slice xa66 xl67 xc68)).cell? ⟨b2, 0, none⟩ = some (.int .i64 who) from ⟨HU92.out.1.set 3 (Value.slice xa66 xl67 xc68), HU92.out.2.1.keep hc HO0.out.1, HU92.out.2.2.2.2.2.2.2.keep hc HO1.out.1, HU92.out.2.2.2.1.keep hc HN.out.ogg, HU92.out.2.2.2.2.1.trans hc, (hc.cell (p := ⟨b1, 0, none⟩) (block_of_cell HU92.out.2.2.2.2.2.1) (fun e => HN.out.n1 e)).trans HU92.out.2.2.2.2.2.1, (hc.cell (p := ⟨b2, 0, none⟩) (block_of_cell HU92.out.2.2.2.2.2.2.1) (fun e => HN.out.n2 e)).trans HU92.out.2.2.2.2.2.2.1⟩)
            clear hc
            generalize (u91.setCell ⟨g, 3, none⟩ (Value.slice xa66 xl67 xc68)) = u93 at HU94 ⊢
            refine QK.normal ⟨HU94.out.2.2.2.2.2.2, ?_⟩
            refine wpAnyH_done (by kernel_rfl) ?_ _
            refine NoPanic.normal ?_
            go_wp2_with fail
            refine (next_any ⟨o, pe, keepL (who == ·) pr, keepL (who == ·) pq, pg⟩ g B _ _ _ u93 HU94.out.1 ⟨HU94.out.2.1, HU94.out.2.2.1, HU94.out.2.2.2.1⟩ ⟨HO0.out.1, HO1.out.1, HN.out.ogg⟩ ⟨HO0.out.2, HO1.out.2, HN.out.ab.2.2⟩ HR.out.2.1 HR.out.2.2).mono ?_
            rw [HRR.out]
            rintro e uz ⟨rfl, yr, yq, yg, d1, d2, d3, d4⟩
            have HD := Lib.hid (show DoneP w g B R (.returned (.int .i64 R.1)) uz from ⟨rfl, yr, yq, yg, d1, d2, HU94.out.2.2.2.2.1.trans d3, d4⟩)
            clear d1 d2 d3 d4
            go_wp2_with fail
            go_ret
            exact HD.out
  · have HE := Lib.hid (show R = (211, ⟨o, pe, pr, pq, pg⟩) from by rw [← HRR.out, if_pos h1])
    have t1 : (by_ != o) = true := by simpa using h1
    clear h1
    go_enter Try.func34, Try.ntmps34
    have c0 := H0.out.1.cell 0
    simp only [pmC, List.getElem?_cons_zero, List.getElem?_cons_succ] at c0
    have k1 := H0.out.2.2.2.2.2.1
    have k2 := H0.out.2.2.2.2.2.2
    go_wp2_with fail
    go_quiet (fail)
    rename_i nq
    clear c0 k1 k2
    have sm := (Sm.refl w).drewN nq
    have H96 := Lib.hid (show Blk (w.drewN nq) g 24 (pmC o pe (Value.slice ra rl rc) (Value.slice qa ql qc) (Value.slice ga gl gc)) ∧ Sl (w.drewN nq) (Value.slice ra rl rc) (ofK .i64 pr) ∧ Sl (w.drewN nq) (Value.slice qa ql qc) (ofK .i64 pq) ∧ Sl (w.drewN nq) (Value.slice ga gl gc) (ofK .i64 pg) ∧ Ch (· = g) w (w.drewN nq) ∧ (w.drewN nq).cell? ⟨b1, 0, none⟩ = some (.int .i64 by_) ∧ (w.drewN nq).cell? ⟨b2, 0, none⟩ = some (.int .i64 who) from ⟨H0.out.1.below (sm.below _) H0.out.1.lt, H0.out.2.1.below (sm.below _) (Nat.le_refl _), H0.out.2.2.1.below (sm.below _) (Nat.le_refl _), H0.out.2.2.2.1.below (sm.below _) (Nat.le_refl _), H0.out.2.2.2.2.1.trans (Ch.of_below (sm.below _) (Nat.le_refl _)), ((sm.below _).cell (p := ⟨b1, 0, none⟩) (block_of_cell H0.out.2.2.2.2.2.1)).trans H0.out.2.2.2.2.2.1, ((sm.below _).cell (p := ⟨b2, 0, none⟩) (block_of_cell H0.out.2.2.2.2.2.2)).trans H0.out.2.2.2.2.2.2⟩)
    clear sm
    generalize w.drewN nq = w95 at H96 ⊢
    clear nq
    go_wp2_with fail
    go_ret
    rw [HE.out]
    exact ⟨rfl, _, _, _, H96.out.1, ⟨H96.out.2.1, H96.out.2.2.1, H96.out.2.2.2.1⟩, H96.out.2.2.2.2.1, HN.out.ab⟩

end Go.Proofs.Ytampheimonmggaa
