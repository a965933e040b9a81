/-
  Law 11: PermChanges, walked. Conditions: the numbers are int's.
-/
import Derived.Test.YtampheimonmggaaPmCl
import Derived.Test.YtampheimonmggaaPmZ
import Derived.Test.YtampheimonmggaaPmCp
namespace Go.Proofs.Ytampheimonmggaa
open Go Go.RowKit Go.Sort
set_option linter.unusedSimpArgs false
set_option linter.unusedVariables false

theorem rangeAt_blk {w : World} {g : Nat} {e : TypeId} {xs : List Value} (h : Blk w g e xs) : w.rangeAt g 0 xs := fun j v hv => by rw [Nat.zero_add, h.cell]; exact hv
theorem same_self (p : PmD) : samePB p p = true := (samePB_iff p p).2 rfl


set_option maxRecDepth 100000 in
set_option maxHeartbeats 16000000 in
theorem permChanges_walk (p : PmD) (vr vq vg : Value) (act : Act3) (w : World) (hp : PmS w p vr vq vg) (hpi : PmI p) (ha : Act3Ok act) :
    Calls Try.prog 4 #[.agg (pmC p.o p.e vr vq vg).toArray, .agg (act3C act).toArray] w (TrueP w) := by
  obtain ⟨ra, rc, rfl, -⟩ := hp.1.shape
  obtain ⟨qa, qc, rfl, -⟩ := hp.2.1.shape
  obtain ⟨ga, gc, rfl, -⟩ := hp.2.2.shape
  generalize (ofK .i64 p.r).length = rl at hp ⊢
  generalize (ofK .i64 p.q).length = ql at hp ⊢
  generalize (ofK .i64 p.g).length = gl at hp ⊢
  have HPS := Lib.hid hp
  have HAO := Lib.hid ha
  have H0 := Lib.hid (show PmS w p (Value.slice ra rl rc) (Value.slice qa ql qc) (Value.slice ga gl gc) ∧ Below w.heap.size w w from ⟨hp, Below.refl _ _⟩)
  obtain ⟨lp, hlp⟩ : ∃ b, largeB p = b := ⟨_, rfl⟩
  have HLP := Lib.hid hlp
  obtain ⟨⟨q, er⟩, hR⟩ : ∃ R, turnR p (doC p act) = R := ⟨_, rfl⟩
  have HR := Lib.hid hR
  clear hp hpi ha hlp hR
  go_enter Try.func4, Try.ntmps4
  go_wp2_with (first
    | ((with_reducible refine wpList_box_blk w rfl 24 (.tmp 0) rfl (pmC p.o p.e (Value.slice ra rl rc) (Value.slice qa ql qc) (Value.slice ga gl gc)) rfl ?_); intro a1 hb hbel hsz; have HA1 := Lib.hid (show PmS a1 p (Value.slice ra rl rc) (Value.slice qa ql qc) (Value.slice ga gl gc) ∧ Below w.heap.size w a1 ∧ Blk a1 w.heap.size 24 (pmC p.o p.e (Value.slice ra rl rc) (Value.slice qa ql qc) (Value.slice ga gl gc)) from ⟨H0.out.1.below hbel, below_thn H0.out.2 hbel (Nat.le_refl _), hb⟩); clear hb hbel hsz)
    | ((with_reducible refine wpList_box_blk a1 rfl 35 (.tmp 1) rfl (act3C act) rfl ?_); intro a2 hb hbel hsz; have HA2 := Lib.hid (show PmS a2 p (Value.slice ra rl rc) (Value.slice qa ql qc) (Value.slice ga gl gc) ∧ Below w.heap.size w a2 ∧ Blk a2 w.heap.size 24 (pmC p.o p.e (Value.slice ra rl rc) (Value.slice qa ql qc) (Value.slice ga gl gc)) ∧ Blk a2 a1.heap.size 35 (act3C act) from ⟨HA1.out.1.below hbel, below_thn HA1.out.2.1 hbel (Nat.le_refl _), HA1.out.2.2.below hbel HA1.out.2.2.lt, hb⟩); clear hb hbel hsz))
  refine (wakes11_any a2).mono ?_
  rintro e' y1 ⟨rfl, hb⟩
  have HY1 := Lib.hid (show PmS y1 p (Value.slice ra rl rc) (Value.slice qa ql qc) (Value.slice ga gl gc) ∧ Below w.heap.size w y1 ∧ Blk y1 w.heap.size 24 (pmC p.o p.e (Value.slice ra rl rc) (Value.slice qa ql qc) (Value.slice ga gl gc)) ∧ Blk y1 a1.heap.size 35 (act3C act) from ⟨HA2.out.1.below hb, below_thn HA2.out.2.1 hb (Nat.le_refl _), HA2.out.2.2.1.below hb HA2.out.2.2.1.lt, HA2.out.2.2.2.below hb HA2.out.2.2.2.lt⟩)
  clear hb
  go_wp2_with (with_reducible refine wpList_load_any rfl 24 (.tmp 2) rfl w.heap.size 0 rfl (pmC p.o p.e (Value.slice ra rl rc) (Value.slice qa ql qc) (Value.slice ga gl gc)) _ (rangeW_blk HY1.out.2.2.1) Try.underlying24 rfl (pmC_info _ _ _ _ _) ?_)
  have hx := large_any p _ _ _ y1 HY1.out.1
  rw [HLP.out] at hx
  refine Calls.mono hx ?_
  clear hx
  rintro e' y2 ⟨rfl, hb⟩
  have HY2 := Lib.hid (show PmS y2 p (Value.slice ra rl rc) (Value.slice qa ql qc) (Value.slice ga gl gc) ∧ Below w.heap.size w y2 ∧ Blk y2 w.heap.size 24 (pmC p.o p.e (Value.slice ra rl rc) (Value.slice qa ql qc) (Value.slice ga gl gc)) ∧ Blk y2 a1.heap.size 35 (act3C act) from ⟨HY1.out.1.below hb, below_thn HY1.out.2.1 hb (Nat.le_refl _), HY1.out.2.2.1.below hb HY1.out.2.2.1.lt, HY1.out.2.2.2.below hb HY1.out.2.2.2.lt⟩)
  clear hb
  have HG := Lib.hid (show w.heap.size < a1.heap.size ∧ a1.heap.size < y2.heap.size from ⟨HA1.out.2.2.lt, HY2.out.2.2.2.lt⟩)
  cases lp
  rotate_left
  · skip
    go_wp2_with fail
    go_ret
    exact ⟨rfl, HY2.out.2.1⟩
  have HLEN := Lib.hid ((large_no HLP.out).l (by omega))
  clear HA1 HA2 HY1 H0
  have HB1 := Lib.hid (Below.refl y2.heap.size y2)
  go_wp2_with fail
  refine wp_region_marked (fun w' => w'.rangeAt w.heap.size 0 (pmC p.o p.e (Value.slice ra rl rc) (Value.slice qa ql qc) (Value.slice ga gl gc)) ∧ w'.rangeAt a1.heap.size 0 (act3C act)) 8 [0, 2] 8 (by kernel_rfl) rfl (by kernel_rfl) (by kernel_rfl) ⟨rangeAt_blk HY2.out.2.2.1, rangeAt_blk HY2.out.2.2.2⟩ ?_
  iterate 2 (refine' HeldL.run ?_ ?_ ?_ ?_; rotate_left 2; (simp only [List.getElem?_toArray, List.getElem?_cons_zero, List.getElem?_cons_succ]; rfl); rfl; (rintro w' ⟨k0, k1⟩; first | (go_simp; with_reducible rfl) | exact exec_load_mid rfl rfl k0 Try.underlying24 rfl (pmC_info _ _ _ _ _) | exact exec_load_mid rfl rfl k1 Try.underlying35 rfl (act3C_info _)); simp only [Act.put, List.setIfInBounds_toArray, List.set_cons_zero, List.set_cons_succ])
  have sm := (Sm.refl y2).drew
  have HV3 := Lib.hid (show Below y2.heap.size y2 y2.drew from below_thn HB1.out (sm.below _) (Nat.le_refl _))
  clear sm
  generalize y2.drew = v2 at HV3 ⊢
  refine' wpAnyM_two 1 7 (by kernel_rfl) ?_ ?_ ?_ ?_; rotate_left 2; (simp only [List.getElem?_toArray, List.getElem?_cons_zero, List.getElem?_cons_succ]; rfl); (simp only [List.getElem?_toArray, List.getElem?_cons_zero, List.getElem?_cons_succ]; rfl)
  · skip
    try simp only [Act.put]
    go_wp2_with fail
    refine (copied_any p _ _ _ v2 (HY2.out.1.below HV3.out) HLEN.out).mono ?_
    rintro e' y4 ⟨x6r, x6q, x6g, rfl, hs, hb, -⟩
    obtain ⟨x6a0, x6c0, rfl, -⟩ := hs.1.shape
    obtain ⟨x6a1, x6c1, rfl, -⟩ := hs.2.1.shape
    obtain ⟨x6a2, x6c2, rfl, -⟩ := hs.2.2.shape
    generalize (ofK .i64 p.r).length = x6l0 at hs  ⊢
    generalize (ofK .i64 p.q).length = x6l1 at hs  ⊢
    generalize (ofK .i64 p.g).length = x6l2 at hs  ⊢
    have HY5 := Lib.hid (show Below y2.heap.size y2 y4 ∧ PmS y4 p (Value.slice x6a0 x6l0 x6c0) (Value.slice x6a1 x6l1 x6c1) (Value.slice x6a2 x6l2 x6c2) from ⟨below_thn HV3.out hb (Nat.le_refl _), hs⟩)
    clear hs hb
    go_wp2_with fail
    refine QK.normal ⟨fun _ => ⟨rangeAt_blk (HY2.out.2.2.1.below HY5.out.1 HY2.out.2.2.1.lt), rangeAt_blk (HY2.out.2.2.2.below HY5.out.1 HY2.out.2.2.2.lt)⟩, ?_⟩
    refine' wpAnyM_two 3 7 (by kernel_rfl) ?_ ?_ ?_ ?_; rotate_left 2; (simp only [List.getElem?_toArray, List.getElem?_cons_zero, List.getElem?_cons_succ]; rfl); (simp only [List.getElem?_toArray, List.getElem?_cons_zero, List.getElem?_cons_succ]; rfl)
    · skip
      try simp only [Act.put]
      go_wp2_with fail
      have hx := do_any p act _ _ _ y4 HY5.out.2 HLEN.out HAO.out
      rw [HR.out] at hx
      refine (calls_perm hx).mono ?_
      clear hx
      rintro e' y7 ⟨x9r, x9q, x9g, rfl, hs, hb, hab⟩
      obtain ⟨x9a0, x9c0, rfl, -⟩ := hs.1.shape
      obtain ⟨x9a1, x9c1, rfl, -⟩ := hs.2.1.shape
      obtain ⟨x9a2, x9c2, rfl, -⟩ := hs.2.2.shape
      generalize (ofK .i64 q.r).length = x9l0 at hs hab ⊢
      generalize (ofK .i64 q.q).length = x9l1 at hs hab ⊢
      generalize (ofK .i64 q.g).length = x9l2 at hs hab ⊢
      have HY8 := Lib.hid (show Below y2.heap.size y2 y7 ∧ PmS y7 q (Value.slice x9a0 x9l0 x9c0) (Value.slice x9a1 x9l1 x9c1) (Value.slice x9a2 x9l2 x9c2) ∧ AbvS y4.heap.size (Value.slice x9a0 x9l0 x9c0) (Value.slice x9a1 x9l1 x9c1) (Value.slice x9a2 x9l2 x9c2) from ⟨below_thn HY5.out.1 hb (Nat.le_refl _), hs, hab⟩)
      clear hs hb hab
      go_wp2_with fail
      refine QK.normal ⟨fun _ => ⟨rangeAt_blk (HY2.out.2.2.1.below HY8.out.1 HY2.out.2.2.1.lt), rangeAt_blk (HY2.out.2.2.2.below HY8.out.1 HY2.out.2.2.2.lt)⟩, ?_⟩
      refine wpAnyM_take0 (by kernel_rfl) noPanic_any (fuel := 5) (fun _ => ⟨rangeAt_blk (HY2.out.2.2.1.below HY8.out.1 HY2.out.2.2.1.lt), rangeAt_blk (HY2.out.2.2.2.below HY8.out.1 HY2.out.2.2.2.lt)⟩) 4 (by kernel_rfl) ?_
      refine' HeldL.run ?_ ?_ ?_ ?_; rotate_left 2; (simp only [List.getElem?_toArray, List.getElem?_cons_zero, List.getElem?_cons_succ]; rfl); rfl; (rintro w' -; go_simp; with_reducible rfl); simp only [Act.put, List.setIfInBounds_toArray, List.set_cons_zero, List.set_cons_succ]
      refine wpAnyM_take0 (by kernel_rfl) noPanic_any (fuel := 4) (fun _ => ⟨rangeAt_blk (HY2.out.2.2.1.below HY8.out.1 HY2.out.2.2.1.lt), rangeAt_blk (HY2.out.2.2.2.below HY8.out.1 HY2.out.2.2.2.lt)⟩) 5 (by kernel_rfl) ?_
      refine' HeldL.run ?_ ?_ ?_ ?_; rotate_left 2; (simp only [List.getElem?_toArray, List.getElem?_cons_zero, List.getElem?_cons_succ]; rfl); rfl; (rintro w' -; go_simp; with_reducible rfl); simp only [Act.put, List.setIfInBounds_toArray, List.set_cons_zero, List.set_cons_succ]
      refine wpAnyM_take0 (by kernel_rfl) noPanic_any (fuel := 3) (fun _ => ⟨rangeAt_blk (HY2.out.2.2.1.below HY8.out.1 HY2.out.2.2.1.lt), rangeAt_blk (HY2.out.2.2.2.below HY8.out.1 HY2.out.2.2.2.lt)⟩) 6 (by kernel_rfl) ?_
      refine' HeldL.run ?_ ?_ ?_ ?_; rotate_left 2; (simp only [List.getElem?_toArray, List.getElem?_cons_zero, List.getElem?_cons_succ]; rfl); rfl; (rintro w' -; go_simp; with_reducible rfl); simp only [Act.put, List.setIfInBounds_toArray, List.set_cons_zero, List.set_cons_succ]
      refine' wpAnyM_one 7 (by kernel_rfl) ?_ ?_; rotate_left; (simp only [List.getElem?_toArray, List.getElem?_cons_zero, List.getElem?_cons_succ]; rfl)
      refine wpList_alloc_blk y7 rfl 24 rfl (pmC 0 0 (.slice none 0 0) (.slice none 0 0) (.slice none 0 0)) Try.zeroPm ?_
      intro y10 hb hbel hsz
      have HY11 := Lib.hid (show Below y2.heap.size y2 y10 ∧ PmS y10 q (Value.slice x9a0 x9l0 x9c0) (Value.slice x9a1 x9l1 x9c1) (Value.slice x9a2 x9l2 x9c2) ∧ AbvS y4.heap.size (Value.slice x9a0 x9l0 x9c0) (Value.slice x9a1 x9l1 x9c1) (Value.slice x9a2 x9l2 x9c2) ∧ Blk y10 y7.heap.size 24 (pmC 0 0 (.slice none 0 0) (.slice none 0 0) (.slice none 0 0)) ∧ Below y7.heap.size y7 y10 ∧ y2.heap.size ≤ y7.heap.size from ⟨below_thn HY8.out.1 hbel (Nat.le_refl _), HY8.out.2.1.below hbel, HY8.out.2.2, hb, hbel, HY8.out.1.size⟩)
      clear hb hbel hsz
      try simp only [Act.put, List.setIfInBounds_toArray, List.set_cons_zero, List.set_cons_succ]
      refine QK.normal ⟨fun _ => ⟨rangeAt_blk (HY2.out.2.2.1.below HY11.out.1 HY2.out.2.2.1.lt), rangeAt_blk (HY2.out.2.2.2.below HY11.out.1 HY2.out.2.2.2.lt)⟩, ?_⟩
      refine' wpAnyM_one 8 (by kernel_rfl) ?_ ?_; rotate_left; (simp only [List.getElem?_toArray, List.getElem?_cons_zero, List.getElem?_cons_succ]; rfl)
      refine wpList_store_blk y10 rfl 24 (.tmp 5) (.tmp 18) rfl y7.heap.size 24 (pmC 0 0 (.slice none 0 0) (.slice none 0 0) (.slice none 0 0)) (pmC q.o q.e (Value.slice x9a0 x9l0 x9c0) (Value.slice x9a1 x9l1 x9c1) (Value.slice x9a2 x9l2 x9c2)) HY11.out.2.2.2.1 rfl rfl rfl (pmC_info _ _ _ _ _) (pmC_one _ _ _ _ _ _ _ _ _ _ _) ?_
      intro y12 hb hc hs
      have hb0 := below_ch HY11.out.1 hc (Nat.le_refl _) (fun k hk => by have e : k = y7.heap.size := hk; have := HY11.out.2.2.2.2.2; omega)
      have HY13 := Lib.hid (show Below y2.heap.size y2 y12 ∧ Blk y12 y7.heap.size 24 (pmC q.o q.e (Value.slice x9a0 x9l0 x9c0) (Value.slice x9a1 x9l1 x9c1) (Value.slice x9a2 x9l2 x9c2)) ∧ PmS y12 q (Value.slice x9a0 x9l0 x9c0) (Value.slice x9a1 x9l1 x9c1) (Value.slice x9a2 x9l2 x9c2) from ⟨hb0, hb, HY8.out.2.1.below (below_ch HY11.out.2.2.2.2.1 hc (Nat.le_refl _) (fun k hk => by have e : k = y7.heap.size := hk; omega))⟩)
      clear hb hc hs hb0
      try simp only [Act.put, List.setIfInBounds_toArray, List.set_cons_zero, List.set_cons_succ]
      refine QK.normal ⟨fun h => absurd h (by decide), ?_⟩
      refine' wpAnyM_one 9 (by kernel_rfl) ?_ ?_; rotate_left; (simp only [List.getElem?_toArray, List.getElem?_cons_zero, List.getElem?_cons_succ]; rfl)
      try simp only [Act.put]
      go_wp2_with fail
      refine QK.normal ⟨fun h => absurd h (by decide), ?_⟩
      refine wpAnyM_done (by kernel_rfl) ?_ _
      refine NoPanic.normal ?_
      go_wp2_with fail
      have HV14 := Lib.hid (show PmS y12 p (Value.slice ra rl rc) (Value.slice qa ql qc) (Value.slice ga gl gc) ∧ Below w.heap.size w y12 ∧ Blk y12 w.heap.size 24 (pmC p.o p.e (Value.slice ra rl rc) (Value.slice qa ql qc) (Value.slice ga gl gc)) ∧ Blk y12 a1.heap.size 35 (act3C act) ∧ Blk y12 y7.heap.size 24 (pmC q.o q.e (Value.slice x9a0 x9l0 x9c0) (Value.slice x9a1 x9l1 x9c1) (Value.slice x9a2 x9l2 x9c2)) ∧ PmS y12 q (Value.slice x9a0 x9l0 x9c0) (Value.slice x9a1 x9l1 x9c1) (Value.slice x9a2 x9l2 x9c2) from ⟨HY2.out.1.below HY13.out.1, below_thn HY2.out.2.1 HY13.out.1 (Nat.le_refl _), HY2.out.2.2.1.below HY13.out.1 HY2.out.2.2.1.lt, HY2.out.2.2.2.below HY13.out.1 HY2.out.2.2.2.lt, HY13.out.2.1, HY13.out.2.2⟩)
      have HB15 := Lib.hid (Below.refl y12.heap.size y12)
      go_wp2_with fail
      refine wp_region_marked (fun w' => w'.rangeAt w.heap.size 0 (pmC p.o p.e (Value.slice ra rl rc) (Value.slice qa ql qc) (Value.slice ga gl gc)) ∧ w'.rangeAt a1.heap.size 0 (act3C act) ∧ w'.cell? ⟨a1.heap.size, 1, none⟩ = some (.int .i64 act.b) ∧ w'.cell? ⟨a1.heap.size, 2, none⟩ = some (.int .i64 act.n)) 12 [0, 1, 3, 4, 5, 6] 8 (by kernel_rfl) rfl (by kernel_rfl) (by kernel_rfl) ⟨rangeAt_blk HV14.out.2.2.1, rangeAt_blk HV14.out.2.2.2.1, HV14.out.2.2.2.1.cell 1, HV14.out.2.2.2.1.cell 2⟩ ?_
      iterate 6 (refine' HeldL.run ?_ ?_ ?_ ?_; rotate_left 2; (simp only [List.getElem?_toArray, List.getElem?_cons_zero, List.getElem?_cons_succ]; rfl); rfl; (rintro w' ⟨k0, k1, k2, k3⟩; first | (go_simp; with_reducible rfl) | exact exec_load_mid rfl rfl k0 Try.underlying24 rfl (pmC_info _ _ _ _ _) | exact exec_load_mid rfl rfl k1 Try.underlying35 rfl (act3C_info _)); simp only [Act.put, List.setIfInBounds_toArray, List.set_cons_zero, List.set_cons_succ])
      have sm := (Sm.refl y12).drew
      have HV17 := Lib.hid (show Below y12.heap.size y12 y12.drew from below_thn HB15.out (sm.below _) (Nat.le_refl _))
      clear sm
      generalize y12.drew = v16 at HV17 ⊢
      refine' wpAnyM_two 2 11 (by kernel_rfl) ?_ ?_ ?_ ?_; rotate_left 2; (simp only [List.getElem?_toArray, List.getElem?_cons_zero, List.getElem?_cons_succ]; rfl); (simp only [List.getElem?_toArray, List.getElem?_cons_zero, List.getElem?_cons_succ]; rfl)
      · skip
        try simp only [Act.put]
        go_wp2_with fail
        refine (kind_any act v16 HAO.out).mono ?_
        rintro e' y18 ⟨rfl, hb⟩
        have HY19 := Lib.hid (show Below y12.heap.size y12 y18 from below_thn HV17.out hb (Nat.le_refl _))
        clear hb
        go_wp2_with fail
        refine QK.normal ⟨fun _ => ⟨rangeAt_blk (HV14.out.2.2.1.below HY19.out HV14.out.2.2.1.lt), rangeAt_blk (HV14.out.2.2.2.1.below HY19.out HV14.out.2.2.2.1.lt), (HV14.out.2.2.2.1.below HY19.out HV14.out.2.2.2.1.lt).cell 1, (HV14.out.2.2.2.1.below HY19.out HV14.out.2.2.2.1.lt).cell 2⟩, ?_⟩
        refine' wpAnyM_two 7 11 (by kernel_rfl) ?_ ?_ ?_ ?_; rotate_left 2; (simp only [List.getElem?_toArray, List.getElem?_cons_zero, List.getElem?_cons_succ]; rfl); (simp only [List.getElem?_toArray, List.getElem?_cons_zero, List.getElem?_cons_succ]; rfl)
        · skip
          try simp only [Act.put]
          go_wp2_with fail
          have hx := rchange_any p _ _ _ act y18 (HV14.out.1.below HY19.out)
          rw [HR.out] at hx
          refine (calls_ref hx).mono ?_
          clear hx
          rintro e' y20 ⟨x22r, x22q, x22g, rfl, hs, hb, hmv⟩
          obtain ⟨x22a0, x22c0, rfl, -⟩ := hs.1.shape
          obtain ⟨x22a1, x22c1, rfl, -⟩ := hs.2.1.shape
          obtain ⟨x22a2, x22c2, rfl, -⟩ := hs.2.2.shape
          generalize (ofK .i64 q.r).length = x22l0 at hs hmv ⊢
          generalize (ofK .i64 q.q).length = x22l1 at hs hmv ⊢
          generalize (ofK .i64 q.g).length = x22l2 at hs hmv ⊢
          have HY21 := Lib.hid (show Below y12.heap.size y12 y20 ∧ PmS y20 q (Value.slice x22a0 x22l0 x22c0) (Value.slice x22a1 x22l1 x22c1) (Value.slice x22a2 x22l2 x22c2) ∧ (∀ g w2, g < y18.heap.size → Ch (· = g) y20 w2 → PmS w2 p (Value.slice ra rl rc) (Value.slice qa ql qc) (Value.slice ga gl gc) → PmS w2 q (Value.slice x22a0 x22l0 x22c0) (Value.slice x22a1 x22l1 x22c1) (Value.slice x22a2 x22l2 x22c2)) from ⟨below_thn HY19.out hb (Nat.le_refl _), hs, hmv⟩)
          clear hs hb hmv
          go_wp2_with fail
          refine QK.normal ⟨fun _ => ⟨rangeAt_blk (HV14.out.2.2.1.below HY21.out.1 HV14.out.2.2.1.lt), rangeAt_blk (HV14.out.2.2.2.1.below HY21.out.1 HV14.out.2.2.2.1.lt), (HV14.out.2.2.2.1.below HY21.out.1 HV14.out.2.2.2.1.lt).cell 1, (HV14.out.2.2.2.1.below HY21.out.1 HV14.out.2.2.2.1.lt).cell 2⟩, ?_⟩
          refine wpAnyM_take0 (by kernel_rfl) noPanic_any (fuel := 5) (fun _ => ⟨rangeAt_blk (HV14.out.2.2.1.below HY21.out.1 HV14.out.2.2.1.lt), rangeAt_blk (HV14.out.2.2.2.1.below HY21.out.1 HV14.out.2.2.2.1.lt), (HV14.out.2.2.2.1.below HY21.out.1 HV14.out.2.2.2.1.lt).cell 1, (HV14.out.2.2.2.1.below HY21.out.1 HV14.out.2.2.2.1.lt).cell 2⟩) 8 (by kernel_rfl) ?_
          refine' HeldL.run ?_ ?_ ?_ ?_; rotate_left 2; (simp only [List.getElem?_toArray, List.getElem?_cons_zero, List.getElem?_cons_succ]; rfl); rfl; (rintro w' -; go_simp; with_reducible rfl); simp only [Act.put, List.setIfInBounds_toArray, List.set_cons_zero, List.set_cons_succ]
          refine wpAnyM_take0 (by kernel_rfl) noPanic_any (fuel := 4) (fun _ => ⟨rangeAt_blk (HV14.out.2.2.1.below HY21.out.1 HV14.out.2.2.1.lt), rangeAt_blk (HV14.out.2.2.2.1.below HY21.out.1 HV14.out.2.2.2.1.lt), (HV14.out.2.2.2.1.below HY21.out.1 HV14.out.2.2.2.1.lt).cell 1, (HV14.out.2.2.2.1.below HY21.out.1 HV14.out.2.2.2.1.lt).cell 2⟩) 9 (by kernel_rfl) ?_
          refine' HeldL.run ?_ ?_ ?_ ?_; rotate_left 2; (simp only [List.getElem?_toArray, List.getElem?_cons_zero, List.getElem?_cons_succ]; rfl); rfl; (rintro w' -; go_simp; with_reducible rfl); simp only [Act.put, List.setIfInBounds_toArray, List.set_cons_zero, List.set_cons_succ]
          refine wpAnyM_take0 (by kernel_rfl) noPanic_any (fuel := 3) (fun _ => ⟨rangeAt_blk (HV14.out.2.2.1.below HY21.out.1 HV14.out.2.2.1.lt), rangeAt_blk (HV14.out.2.2.2.1.below HY21.out.1 HV14.out.2.2.2.1.lt), (HV14.out.2.2.2.1.below HY21.out.1 HV14.out.2.2.2.1.lt).cell 1, (HV14.out.2.2.2.1.below HY21.out.1 HV14.out.2.2.2.1.lt).cell 2⟩) 10 (by kernel_rfl) ?_
          refine' HeldL.run ?_ ?_ ?_ ?_; rotate_left 2; (simp only [List.getElem?_toArray, List.getElem?_cons_zero, List.getElem?_cons_succ]; rfl); rfl; (rintro w' -; go_simp; with_reducible rfl); simp only [Act.put, List.setIfInBounds_toArray, List.set_cons_zero, List.set_cons_succ]
          refine' wpAnyM_one 11 (by kernel_rfl) ?_ ?_; rotate_left; (simp only [List.getElem?_toArray, List.getElem?_cons_zero, List.getElem?_cons_succ]; rfl)
          refine wpList_alloc_blk y20 rfl 24 rfl (pmC 0 0 (.slice none 0 0) (.slice none 0 0) (.slice none 0 0)) Try.zeroPm ?_
          intro y23 hb hbel hsz
          have HY24 := Lib.hid (show Below y12.heap.size y12 y23 ∧ PmS y23 q (Value.slice x22a0 x22l0 x22c0) (Value.slice x22a1 x22l1 x22c1) (Value.slice x22a2 x22l2 x22c2) ∧ (∀ g w2, g < y18.heap.size → Ch (· = g) y23 w2 → PmS w2 p (Value.slice ra rl rc) (Value.slice qa ql qc) (Value.slice ga gl gc) → PmS w2 q (Value.slice x22a0 x22l0 x22c0) (Value.slice x22a1 x22l1 x22c1) (Value.slice x22a2 x22l2 x22c2)) ∧ Blk y23 y20.heap.size 24 (pmC 0 0 (.slice none 0 0) (.slice none 0 0) (.slice none 0 0)) ∧ Below y20.heap.size y20 y23 ∧ y12.heap.size ≤ y20.heap.size from ⟨below_thn HY21.out.1 hbel (Nat.le_refl _), HY21.out.2.1.below hbel, (fun g w2 hg hc h => HY21.out.2.2 g w2 hg (Ch.trans (Ch.of_below hbel (Nat.le_refl _)) hc) h), hb, hbel, HY21.out.1.size⟩)
          clear hb hbel hsz
          try simp only [Act.put, List.setIfInBounds_toArray, List.set_cons_zero, List.set_cons_succ]
          refine QK.normal ⟨fun _ => ⟨rangeAt_blk (HV14.out.2.2.1.below HY24.out.1 HV14.out.2.2.1.lt), rangeAt_blk (HV14.out.2.2.2.1.below HY24.out.1 HV14.out.2.2.2.1.lt), (HV14.out.2.2.2.1.below HY24.out.1 HV14.out.2.2.2.1.lt).cell 1, (HV14.out.2.2.2.1.below HY24.out.1 HV14.out.2.2.2.1.lt).cell 2⟩, ?_⟩
          refine' wpAnyM_one 12 (by kernel_rfl) ?_ ?_; rotate_left; (simp only [List.getElem?_toArray, List.getElem?_cons_zero, List.getElem?_cons_succ]; rfl)
          refine wpList_store_blk y23 rfl 24 (.tmp 7) (.tmp 29) rfl y20.heap.size 24 (pmC 0 0 (.slice none 0 0) (.slice none 0 0) (.slice none 0 0)) (pmC q.o q.e (Value.slice x22a0 x22l0 x22c0) (Value.slice x22a1 x22l1 x22c1) (Value.slice x22a2 x22l2 x22c2)) HY24.out.2.2.2.1 rfl rfl rfl (pmC_info _ _ _ _ _) (pmC_one _ _ _ _ _ _ _ _ _ _ _) ?_
          intro y25 hb hc hs
          have hb0 := below_ch HY24.out.1 hc (Nat.le_refl _) (fun k hk => by have e : k = y20.heap.size := hk; have := HY24.out.2.2.2.2.2; omega)
          have HY26 := Lib.hid (show Below y12.heap.size y12 y25 ∧ Blk y25 y20.heap.size 24 (pmC q.o q.e (Value.slice x22a0 x22l0 x22c0) (Value.slice x22a1 x22l1 x22c1) (Value.slice x22a2 x22l2 x22c2)) ∧ PmS y25 q (Value.slice x22a0 x22l0 x22c0) (Value.slice x22a1 x22l1 x22c1) (Value.slice x22a2 x22l2 x22c2) from ⟨hb0, hb, HY21.out.2.1.below (below_ch HY24.out.2.2.2.2.1 hc (Nat.le_refl _) (fun k hk => by have e : k = y20.heap.size := hk; omega))⟩)
          clear hb hc hs hb0
          try simp only [Act.put, List.setIfInBounds_toArray, List.set_cons_zero, List.set_cons_succ]
          refine QK.normal ⟨fun h => absurd h (by decide), ?_⟩
          refine' wpAnyM_one 13 (by kernel_rfl) ?_ ?_; rotate_left; (simp only [List.getElem?_toArray, List.getElem?_cons_zero, List.getElem?_cons_succ]; rfl)
          try simp only [Act.put]
          go_wp2_with fail
          refine QK.normal ⟨fun h => absurd h (by decide), ?_⟩
          refine wpAnyM_done (by kernel_rfl) ?_ _
          refine NoPanic.normal ?_
          have HV27 := Lib.hid (show PmS y25 p (Value.slice ra rl rc) (Value.slice qa ql qc) (Value.slice ga gl gc) ∧ Below w.heap.size w y25 ∧ Blk y25 w.heap.size 24 (pmC p.o p.e (Value.slice ra rl rc) (Value.slice qa ql qc) (Value.slice ga gl gc)) ∧ Blk y25 a1.heap.size 35 (act3C act) ∧ Blk y25 y7.heap.size 24 (pmC q.o q.e (Value.slice x9a0 x9l0 x9c0) (Value.slice x9a1 x9l1 x9c1) (Value.slice x9a2 x9l2 x9c2)) ∧ PmS y25 q (Value.slice x9a0 x9l0 x9c0) (Value.slice x9a1 x9l1 x9c1) (Value.slice x9a2 x9l2 x9c2) ∧ Blk y25 y20.heap.size 24 (pmC q.o q.e (Value.slice x22a0 x22l0 x22c0) (Value.slice x22a1 x22l1 x22c1) (Value.slice x22a2 x22l2 x22c2)) ∧ PmS y25 q (Value.slice x22a0 x22l0 x22c0) (Value.slice x22a1 x22l1 x22c1) (Value.slice x22a2 x22l2 x22c2) from ⟨HV14.out.1.below HY26.out.1, below_thn HV14.out.2.1 HY26.out.1 (Nat.le_refl _), HV14.out.2.2.1.below HY26.out.1 HV14.out.2.2.1.lt, HV14.out.2.2.2.1.below HY26.out.1 HV14.out.2.2.2.1.lt, HV14.out.2.2.2.2.1.below HY26.out.1 HV14.out.2.2.2.2.1.lt, HV14.out.2.2.2.2.2.below HY26.out.1, HY26.out.2.1, HY26.out.2.2⟩)
          have ee : (er == er) = true := by simp
          go_wp2_with (first
    | (with_reducible refine wpList_load_any rfl 24 (.tmp 5) rfl y7.heap.size 0 rfl (pmC q.o q.e (Value.slice x9a0 x9l0 x9c0) (Value.slice x9a1 x9l1 x9c1) (Value.slice x9a2 x9l2 x9c2)) _ (rangeW_blk HV27.out.2.2.2.2.1) Try.underlying24 rfl (pmC_info _ _ _ _ _) ?_)
    | ((with_reducible refine wpList_load_want ?_ 24 (.tmp 5) rfl y7.heap.size 0 rfl (pmC q.o q.e (Value.slice x9a0 x9l0 x9c0) (Value.slice x9a1 x9l1 x9c1) (Value.slice x9a2 x9l2 x9c2)) _ (rangeW_blk HV27.out.2.2.2.2.1) Try.underlying24 rfl (pmC_info _ _ _ _ _) ?_); focus rfl)
    | (with_reducible refine wpList_load_any rfl 24 (.tmp 7) rfl y20.heap.size 0 rfl (pmC q.o q.e (Value.slice x22a0 x22l0 x22c0) (Value.slice x22a1 x22l1 x22c1) (Value.slice x22a2 x22l2 x22c2)) _ (rangeW_blk HV27.out.2.2.2.2.2.2.1) Try.underlying24 rfl (pmC_info _ _ _ _ _) ?_)
    | ((with_reducible refine wpList_load_want ?_ 24 (.tmp 7) rfl y20.heap.size 0 rfl (pmC q.o q.e (Value.slice x22a0 x22l0 x22c0) (Value.slice x22a1 x22l1 x22c1) (Value.slice x22a2 x22l2 x22c2)) _ (rangeW_blk HV27.out.2.2.2.2.2.2.1) Try.underlying24 rfl (pmC_info _ _ _ _ _) ?_); focus rfl))
          have hx := rsame_any q q _ _ _ _ _ _ y25 HV27.out.2.2.2.2.2.1 HV27.out.2.2.2.2.2.2.2
          rw [same_self] at hx
          refine Calls.mono hx ?_
          clear hx
          rintro e' y9 ⟨rfl, hb⟩
          have hb9 := below_thn HV27.out.2.1 hb (Nat.le_refl _)
          clear hb
          go_wp2_with fail
          go_ret
          exact ⟨rfl, hb9⟩
        · skip
          refine wpList_alloc_blk y18 rfl 24 rfl (pmC 0 0 (.slice none 0 0) (.slice none 0 0) (.slice none 0 0)) Try.zeroPm ?_
          intro y28 hb hbel hsz
          have HY29 := Lib.hid (show Below y12.heap.size y12 y28 ∧ Blk y28 y18.heap.size 24 (pmC 0 0 (.slice none 0 0) (.slice none 0 0) (.slice none 0 0)) ∧ Below y18.heap.size y18 y28 ∧ y12.heap.size ≤ y18.heap.size from ⟨below_thn HY19.out hbel (Nat.le_refl _), hb, hbel, HY19.out.size⟩)
          clear hb hbel hsz
          try simp only [Act.put, List.setIfInBounds_toArray, List.set_cons_zero, List.set_cons_succ]
          refine QK.normal ⟨fun _ => ⟨rangeAt_blk (HV14.out.2.2.1.below HY29.out.1 HV14.out.2.2.1.lt), rangeAt_blk (HV14.out.2.2.2.1.below HY29.out.1 HV14.out.2.2.2.1.lt), (HV14.out.2.2.2.1.below HY29.out.1 HV14.out.2.2.2.1.lt).cell 1, (HV14.out.2.2.2.1.below HY29.out.1 HV14.out.2.2.2.1.lt).cell 2⟩, ?_⟩
          refine' wpAnyM_one 7 (by kernel_rfl) ?_ ?_; rotate_left; (simp only [List.getElem?_toArray, List.getElem?_cons_zero, List.getElem?_cons_succ]; rfl)
          try simp only [Act.put]
          go_wp2_with fail
          have hx := rchange_any p _ _ _ act y28 (HV14.out.1.below HY29.out.1)
          rw [HR.out] at hx
          refine (calls_ref hx).mono ?_
          clear hx
          rintro e' y30 ⟨x32r, x32q, x32g, rfl, hs, hb, hmv⟩
          obtain ⟨x32a0, x32c0, rfl, -⟩ := hs.1.shape
          obtain ⟨x32a1, x32c1, rfl, -⟩ := hs.2.1.shape
          obtain ⟨x32a2, x32c2, rfl, -⟩ := hs.2.2.shape
          generalize (ofK .i64 q.r).length = x32l0 at hs hmv ⊢
          generalize (ofK .i64 q.q).length = x32l1 at hs hmv ⊢
          generalize (ofK .i64 q.g).length = x32l2 at hs hmv ⊢
          have HY31 := Lib.hid (show Below y12.heap.size y12 y30 ∧ Blk y30 y18.heap.size 24 (pmC 0 0 (.slice none 0 0) (.slice none 0 0) (.slice none 0 0)) ∧ Below y18.heap.size y18 y30 ∧ y12.heap.size ≤ y18.heap.size ∧ PmS y30 q (Value.slice x32a0 x32l0 x32c0) (Value.slice x32a1 x32l1 x32c1) (Value.slice x32a2 x32l2 x32c2) ∧ (∀ g w2, g < y28.heap.size → Ch (· = g) y30 w2 → PmS w2 p (Value.slice ra rl rc) (Value.slice qa ql qc) (Value.slice ga gl gc) → PmS w2 q (Value.slice x32a0 x32l0 x32c0) (Value.slice x32a1 x32l1 x32c1) (Value.slice x32a2 x32l2 x32c2)) from ⟨below_thn HY29.out.1 hb (Nat.le_refl _), HY29.out.2.1.below hb HY29.out.2.1.lt, below_thn HY29.out.2.2.1 hb (Nat.le_refl _), HY29.out.2.2.2, hs, hmv⟩)
          clear hs hb hmv
          go_wp2_with fail
          refine QK.normal ⟨fun _ => ⟨rangeAt_blk (HV14.out.2.2.1.below HY31.out.1 HV14.out.2.2.1.lt), rangeAt_blk (HV14.out.2.2.2.1.below HY31.out.1 HV14.out.2.2.2.1.lt), (HV14.out.2.2.2.1.below HY31.out.1 HV14.out.2.2.2.1.lt).cell 1, (HV14.out.2.2.2.1.below HY31.out.1 HV14.out.2.2.2.1.lt).cell 2⟩, ?_⟩
          refine wpAnyM_take0 (by kernel_rfl) noPanic_any (fuel := 4) (fun _ => ⟨rangeAt_blk (HV14.out.2.2.1.below HY31.out.1 HV14.out.2.2.1.lt), rangeAt_blk (HV14.out.2.2.2.1.below HY31.out.1 HV14.out.2.2.2.1.lt), (HV14.out.2.2.2.1.below HY31.out.1 HV14.out.2.2.2.1.lt).cell 1, (HV14.out.2.2.2.1.below HY31.out.1 HV14.out.2.2.2.1.lt).cell 2⟩) 8 (by kernel_rfl) ?_
          refine' HeldL.run ?_ ?_ ?_ ?_; rotate_left 2; (simp only [List.getElem?_toArray, List.getElem?_cons_zero, List.getElem?_cons_succ]; rfl); rfl; (rintro w' -; go_simp; with_reducible rfl); simp only [Act.put, List.setIfInBounds_toArray, List.set_cons_zero, List.set_cons_succ]
          refine wpAnyM_take0 (by kernel_rfl) noPanic_any (fuel := 3) (fun _ => ⟨rangeAt_blk (HV14.out.2.2.1.below HY31.out.1 HV14.out.2.2.1.lt), rangeAt_blk (HV14.out.2.2.2.1.below HY31.out.1 HV14.out.2.2.2.1.lt), (HV14.out.2.2.2.1.below HY31.out.1 HV14.out.2.2.2.1.lt).cell 1, (HV14.out.2.2.2.1.below HY31.out.1 HV14.out.2.2.2.1.lt).cell 2⟩) 9 (by kernel_rfl) ?_
          refine' HeldL.run ?_ ?_ ?_ ?_; rotate_left 2; (simp only [List.getElem?_toArray, List.getElem?_cons_zero, List.getElem?_cons_succ]; rfl); rfl; (rintro w' -; go_simp; with_reducible rfl); simp only [Act.put, List.setIfInBounds_toArray, List.set_cons_zero, List.set_cons_succ]
          refine wpAnyM_take0 (by kernel_rfl) noPanic_any (fuel := 2) (fun _ => ⟨rangeAt_blk (HV14.out.2.2.1.below HY31.out.1 HV14.out.2.2.1.lt), rangeAt_blk (HV14.out.2.2.2.1.below HY31.out.1 HV14.out.2.2.2.1.lt), (HV14.out.2.2.2.1.below HY31.out.1 HV14.out.2.2.2.1.lt).cell 1, (HV14.out.2.2.2.1.below HY31.out.1 HV14.out.2.2.2.1.lt).cell 2⟩) 10 (by kernel_rfl) ?_
          refine' HeldL.run ?_ ?_ ?_ ?_; rotate_left 2; (simp only [List.getElem?_toArray, List.getElem?_cons_zero, List.getElem?_cons_succ]; rfl); rfl; (rintro w' -; go_simp; with_reducible rfl); simp only [Act.put, List.setIfInBounds_toArray, List.set_cons_zero, List.set_cons_succ]
          refine' wpAnyM_one 12 (by kernel_rfl) ?_ ?_; rotate_left; (simp only [List.getElem?_toArray, List.getElem?_cons_zero, List.getElem?_cons_succ]; rfl)
          refine wpList_store_blk y30 rfl 24 (.tmp 7) (.tmp 29) rfl y18.heap.size 24 (pmC 0 0 (.slice none 0 0) (.slice none 0 0) (.slice none 0 0)) (pmC q.o q.e (Value.slice x32a0 x32l0 x32c0) (Value.slice x32a1 x32l1 x32c1) (Value.slice x32a2 x32l2 x32c2)) HY31.out.2.1 rfl rfl rfl (pmC_info _ _ _ _ _) (pmC_one _ _ _ _ _ _ _ _ _ _ _) ?_
          intro y33 hb hc hs
          have hb0 := below_ch HY31.out.1 hc (Nat.le_refl _) (fun k hk => by have e : k = y18.heap.size := hk; have := HY31.out.2.2.2.1; omega)
          have hb2 := below_thn HV14.out.2.1 hb0 (Nat.le_refl _)
          have HY34 := Lib.hid (show Below y12.heap.size y12 y33 ∧ Blk y33 y18.heap.size 24 (pmC q.o q.e (Value.slice x32a0 x32l0 x32c0) (Value.slice x32a1 x32l1 x32c1) (Value.slice x32a2 x32l2 x32c2)) ∧ PmS y33 q (Value.slice x32a0 x32l0 x32c0) (Value.slice x32a1 x32l1 x32c1) (Value.slice x32a2 x32l2 x32c2) from ⟨hb0, hb, HY31.out.2.2.2.2.2 y18.heap.size _ HY29.out.2.1.lt (Ch.trans (Ch.of_below (S := (· = y18.heap.size)) (Below.refl _ _) (Nat.le_refl _)) hc) (HPS.out.below hb2)⟩)
          clear hb hc hs hb0 hb2
          try simp only [Act.put, List.setIfInBounds_toArray, List.set_cons_zero, List.set_cons_succ]
          refine QK.normal ⟨fun h => absurd h (by decide), ?_⟩
          refine' wpAnyM_one 13 (by kernel_rfl) ?_ ?_; rotate_left; (simp only [List.getElem?_toArray, List.getElem?_cons_zero, List.getElem?_cons_succ]; rfl)
          try simp only [Act.put]
          go_wp2_with fail
          refine QK.normal ⟨fun h => absurd h (by decide), ?_⟩
          refine wpAnyM_done (by kernel_rfl) ?_ _
          refine NoPanic.normal ?_
          have HV35 := Lib.hid (show PmS y33 p (Value.slice ra rl rc) (Value.slice qa ql qc) (Value.slice ga gl gc) ∧ Below w.heap.size w y33 ∧ Blk y33 w.heap.size 24 (pmC p.o p.e (Value.slice ra rl rc) (Value.slice qa ql qc) (Value.slice ga gl gc)) ∧ Blk y33 a1.heap.size 35 (act3C act) ∧ Blk y33 y7.heap.size 24 (pmC q.o q.e (Value.slice x9a0 x9l0 x9c0) (Value.slice x9a1 x9l1 x9c1) (Value.slice x9a2 x9l2 x9c2)) ∧ PmS y33 q (Value.slice x9a0 x9l0 x9c0) (Value.slice x9a1 x9l1 x9c1) (Value.slice x9a2 x9l2 x9c2) ∧ Blk y33 y18.heap.size 24 (pmC q.o q.e (Value.slice x32a0 x32l0 x32c0) (Value.slice x32a1 x32l1 x32c1) (Value.slice x32a2 x32l2 x32c2)) ∧ PmS y33 q (Value.slice x32a0 x32l0 x32c0) (Value.slice x32a1 x32l1 x32c1) (Value.slice x32a2 x32l2 x32c2) from ⟨HV14.out.1.below HY34.out.1, below_thn HV14.out.2.1 HY34.out.1 (Nat.le_refl _), HV14.out.2.2.1.below HY34.out.1 HV14.out.2.2.1.lt, HV14.out.2.2.2.1.below HY34.out.1 HV14.out.2.2.2.1.lt, HV14.out.2.2.2.2.1.below HY34.out.1 HV14.out.2.2.2.2.1.lt, HV14.out.2.2.2.2.2.below HY34.out.1, HY34.out.2.1, HY34.out.2.2⟩)
          have ee : (er == er) = true := by simp
          go_wp2_with (first
    | (with_reducible refine wpList_load_any rfl 24 (.tmp 5) rfl y7.heap.size 0 rfl (pmC q.o q.e (Value.slice x9a0 x9l0 x9c0) (Value.slice x9a1 x9l1 x9c1) (Value.slice x9a2 x9l2 x9c2)) _ (rangeW_blk HV35.out.2.2.2.2.1) Try.underlying24 rfl (pmC_info _ _ _ _ _) ?_)
    | ((with_reducible refine wpList_load_want ?_ 24 (.tmp 5) rfl y7.heap.size 0 rfl (pmC q.o q.e (Value.slice x9a0 x9l0 x9c0) (Value.slice x9a1 x9l1 x9c1) (Value.slice x9a2 x9l2 x9c2)) _ (rangeW_blk HV35.out.2.2.2.2.1) Try.underlying24 rfl (pmC_info _ _ _ _ _) ?_); focus rfl)
    | (with_reducible refine wpList_load_any rfl 24 (.tmp 7) rfl y18.heap.size 0 rfl (pmC q.o q.e (Value.slice x32a0 x32l0 x32c0) (Value.slice x32a1 x32l1 x32c1) (Value.slice x32a2 x32l2 x32c2)) _ (rangeW_blk HV35.out.2.2.2.2.2.2.1) Try.underlying24 rfl (pmC_info _ _ _ _ _) ?_)
    | ((with_reducible refine wpList_load_want ?_ 24 (.tmp 7) rfl y18.heap.size 0 rfl (pmC q.o q.e (Value.slice x32a0 x32l0 x32c0) (Value.slice x32a1 x32l1 x32c1) (Value.slice x32a2 x32l2 x32c2)) _ (rangeW_blk HV35.out.2.2.2.2.2.2.1) Try.underlying24 rfl (pmC_info _ _ _ _ _) ?_); focus rfl))
          have hx := rsame_any q q _ _ _ _ _ _ y33 HV35.out.2.2.2.2.2.1 HV35.out.2.2.2.2.2.2.2
          rw [same_self] at hx
          refine Calls.mono hx ?_
          clear hx
          rintro e' y9 ⟨rfl, hb⟩
          have hb9 := below_thn HV35.out.2.1 hb (Nat.le_refl _)
          clear hb
          go_wp2_with fail
          go_ret
          exact ⟨rfl, hb9⟩
      · skip
        refine wpList_alloc_blk v16 rfl 24 rfl (pmC 0 0 (.slice none 0 0) (.slice none 0 0) (.slice none 0 0)) Try.zeroPm ?_
        intro y36 hb hbel hsz
        have HY37 := Lib.hid (show Below y12.heap.size y12 y36 ∧ Blk y36 v16.heap.size 24 (pmC 0 0 (.slice none 0 0) (.slice none 0 0) (.slice none 0 0)) ∧ Below v16.heap.size v16 y36 ∧ y12.heap.size ≤ v16.heap.size from ⟨below_thn HV17.out hbel (Nat.le_refl _), hb, hbel, HV17.out.size⟩)
        clear hb hbel hsz
        try simp only [Act.put, List.setIfInBounds_toArray, List.set_cons_zero, List.set_cons_succ]
        refine QK.normal ⟨fun _ => ⟨rangeAt_blk (HV14.out.2.2.1.below HY37.out.1 HV14.out.2.2.1.lt), rangeAt_blk (HV14.out.2.2.2.1.below HY37.out.1 HV14.out.2.2.2.1.lt), (HV14.out.2.2.2.1.below HY37.out.1 HV14.out.2.2.2.1.lt).cell 1, (HV14.out.2.2.2.1.below HY37.out.1 HV14.out.2.2.2.1.lt).cell 2⟩, ?_⟩
        refine' wpAnyM_one 2 (by kernel_rfl) ?_ ?_; rotate_left; (simp only [List.getElem?_toArray, List.getElem?_cons_zero, List.getElem?_cons_succ]; rfl)
        try simp only [Act.put]
        go_wp2_with fail
        refine (kind_any act y36 HAO.out).mono ?_
        rintro e' y38 ⟨rfl, hb⟩
        have HY39 := Lib.hid (show Below y12.heap.size y12 y38 ∧ Blk y38 v16.heap.size 24 (pmC 0 0 (.slice none 0 0) (.slice none 0 0) (.slice none 0 0)) ∧ Below v16.heap.size v16 y38 ∧ y12.heap.size ≤ v16.heap.size from ⟨below_thn HY37.out.1 hb (Nat.le_refl _), HY37.out.2.1.below hb HY37.out.2.1.lt, below_thn HY37.out.2.2.1 hb (Nat.le_refl _), HY37.out.2.2.2⟩)
        clear hb
        go_wp2_with fail
        refine QK.normal ⟨fun _ => ⟨rangeAt_blk (HV14.out.2.2.1.below HY39.out.1 HV14.out.2.2.1.lt), rangeAt_blk (HV14.out.2.2.2.1.below HY39.out.1 HV14.out.2.2.2.1.lt), (HV14.out.2.2.2.1.below HY39.out.1 HV14.out.2.2.2.1.lt).cell 1, (HV14.out.2.2.2.1.below HY39.out.1 HV14.out.2.2.2.1.lt).cell 2⟩, ?_⟩
        refine' wpAnyM_one 7 (by kernel_rfl) ?_ ?_; rotate_left; (simp only [List.getElem?_toArray, List.getElem?_cons_zero, List.getElem?_cons_succ]; rfl)
        try simp only [Act.put]
        go_wp2_with fail
        have hx := rchange_any p _ _ _ act y38 (HV14.out.1.below HY39.out.1)
        rw [HR.out] at hx
        refine (calls_ref hx).mono ?_
        clear hx
        rintro e' y40 ⟨x42r, x42q, x42g, rfl, hs, hb, hmv⟩
        obtain ⟨x42a0, x42c0, rfl, -⟩ := hs.1.shape
        obtain ⟨x42a1, x42c1, rfl, -⟩ := hs.2.1.shape
        obtain ⟨x42a2, x42c2, rfl, -⟩ := hs.2.2.shape
        generalize (ofK .i64 q.r).length = x42l0 at hs hmv ⊢
        generalize (ofK .i64 q.q).length = x42l1 at hs hmv ⊢
        generalize (ofK .i64 q.g).length = x42l2 at hs hmv ⊢
        have HY41 := Lib.hid (show Below y12.heap.size y12 y40 ∧ Blk y40 v16.heap.size 24 (pmC 0 0 (.slice none 0 0) (.slice none 0 0) (.slice none 0 0)) ∧ Below v16.heap.size v16 y40 ∧ y12.heap.size ≤ v16.heap.size ∧ PmS y40 q (Value.slice x42a0 x42l0 x42c0) (Value.slice x42a1 x42l1 x42c1) (Value.slice x42a2 x42l2 x42c2) ∧ (∀ g w2, g < y38.heap.size → Ch (· = g) y40 w2 → PmS w2 p (Value.slice ra rl rc) (Value.slice qa ql qc) (Value.slice ga gl gc) → PmS w2 q (Value.slice x42a0 x42l0 x42c0) (Value.slice x42a1 x42l1 x42c1) (Value.slice x42a2 x42l2 x42c2)) from ⟨below_thn HY39.out.1 hb (Nat.le_refl _), HY39.out.2.1.below hb HY39.out.2.1.lt, below_thn HY39.out.2.2.1 hb (Nat.le_refl _), HY39.out.2.2.2, hs, hmv⟩)
        clear hs hb hmv
        go_wp2_with fail
        refine QK.normal ⟨fun _ => ⟨rangeAt_blk (HV14.out.2.2.1.below HY41.out.1 HV14.out.2.2.1.lt), rangeAt_blk (HV14.out.2.2.2.1.below HY41.out.1 HV14.out.2.2.2.1.lt), (HV14.out.2.2.2.1.below HY41.out.1 HV14.out.2.2.2.1.lt).cell 1, (HV14.out.2.2.2.1.below HY41.out.1 HV14.out.2.2.2.1.lt).cell 2⟩, ?_⟩
        refine wpAnyM_take0 (by kernel_rfl) noPanic_any (fuel := 4) (fun _ => ⟨rangeAt_blk (HV14.out.2.2.1.below HY41.out.1 HV14.out.2.2.1.lt), rangeAt_blk (HV14.out.2.2.2.1.below HY41.out.1 HV14.out.2.2.2.1.lt), (HV14.out.2.2.2.1.below HY41.out.1 HV14.out.2.2.2.1.lt).cell 1, (HV14.out.2.2.2.1.below HY41.out.1 HV14.out.2.2.2.1.lt).cell 2⟩) 8 (by kernel_rfl) ?_
        refine' HeldL.run ?_ ?_ ?_ ?_; rotate_left 2; (simp only [List.getElem?_toArray, List.getElem?_cons_zero, List.getElem?_cons_succ]; rfl); rfl; (rintro w' -; go_simp; with_reducible rfl); simp only [Act.put, List.setIfInBounds_toArray, List.set_cons_zero, List.set_cons_succ]
        refine wpAnyM_take0 (by kernel_rfl) noPanic_any (fuel := 3) (fun _ => ⟨rangeAt_blk (HV14.out.2.2.1.below HY41.out.1 HV14.out.2.2.1.lt), rangeAt_blk (HV14.out.2.2.2.1.below HY41.out.1 HV14.out.2.2.2.1.lt), (HV14.out.2.2.2.1.below HY41.out.1 HV14.out.2.2.2.1.lt).cell 1, (HV14.out.2.2.2.1.below HY41.out.1 HV14.out.2.2.2.1.lt).cell 2⟩) 9 (by kernel_rfl) ?_
        refine' HeldL.run ?_ ?_ ?_ ?_; rotate_left 2; (simp only [List.getElem?_toArray, List.getElem?_cons_zero, List.getElem?_cons_succ]; rfl); rfl; (rintro w' -; go_simp; with_reducible rfl); simp only [Act.put, List.setIfInBounds_toArray, List.set_cons_zero, List.set_cons_succ]
        refine wpAnyM_take0 (by kernel_rfl) noPanic_any (fuel := 2) (fun _ => ⟨rangeAt_blk (HV14.out.2.2.1.below HY41.out.1 HV14.out.2.2.1.lt), rangeAt_blk (HV14.out.2.2.2.1.below HY41.out.1 HV14.out.2.2.2.1.lt), (HV14.out.2.2.2.1.below HY41.out.1 HV14.out.2.2.2.1.lt).cell 1, (HV14.out.2.2.2.1.below HY41.out.1 HV14.out.2.2.2.1.lt).cell 2⟩) 10 (by kernel_rfl) ?_
        refine' HeldL.run ?_ ?_ ?_ ?_; rotate_left 2; (simp only [List.getElem?_toArray, List.getElem?_cons_zero, List.getElem?_cons_succ]; rfl); rfl; (rintro w' -; go_simp; with_reducible rfl); simp only [Act.put, List.setIfInBounds_toArray, List.set_cons_zero, List.set_cons_succ]
        refine' wpAnyM_one 12 (by kernel_rfl) ?_ ?_; rotate_left; (simp only [List.getElem?_toArray, List.getElem?_cons_zero, List.getElem?_cons_succ]; rfl)
        refine wpList_store_blk y40 rfl 24 (.tmp 7) (.tmp 29) rfl v16.heap.size 24 (pmC 0 0 (.slice none 0 0) (.slice none 0 0) (.slice none 0 0)) (pmC q.o q.e (Value.slice x42a0 x42l0 x42c0) (Value.slice x42a1 x42l1 x42c1) (Value.slice x42a2 x42l2 x42c2)) HY41.out.2.1 rfl rfl rfl (pmC_info _ _ _ _ _) (pmC_one _ _ _ _ _ _ _ _ _ _ _) ?_
        intro y43 hb hc hs
        have hb0 := below_ch HY41.out.1 hc (Nat.le_refl _) (fun k hk => by have e : k = v16.heap.size := hk; have := HY41.out.2.2.2.1; omega)
        have hb2 := below_thn HV14.out.2.1 hb0 (Nat.le_refl _)
        have HY44 := Lib.hid (show Below y12.heap.size y12 y43 ∧ Blk y43 v16.heap.size 24 (pmC q.o q.e (Value.slice x42a0 x42l0 x42c0) (Value.slice x42a1 x42l1 x42c1) (Value.slice x42a2 x42l2 x42c2)) ∧ PmS y43 q (Value.slice x42a0 x42l0 x42c0) (Value.slice x42a1 x42l1 x42c1) (Value.slice x42a2 x42l2 x42c2) from ⟨hb0, hb, HY41.out.2.2.2.2.2 v16.heap.size _ HY39.out.2.1.lt (Ch.trans (Ch.of_below (S := (· = v16.heap.size)) (Below.refl _ _) (Nat.le_refl _)) hc) (HPS.out.below hb2)⟩)
        clear hb hc hs hb0 hb2
        try simp only [Act.put, List.setIfInBounds_toArray, List.set_cons_zero, List.set_cons_succ]
        refine QK.normal ⟨fun h => absurd h (by decide), ?_⟩
        refine' wpAnyM_one 13 (by kernel_rfl) ?_ ?_; rotate_left; (simp only [List.getElem?_toArray, List.getElem?_cons_zero, List.getElem?_cons_succ]; rfl)
        try simp only [Act.put]
        go_wp2_with fail
        refine QK.normal ⟨fun h => absurd h (by decide), ?_⟩
        refine wpAnyM_done (by kernel_rfl) ?_ _
        refine NoPanic.normal ?_
        have HV45 := Lib.hid (show PmS y43 p (Value.slice ra rl rc) (Value.slice qa ql qc) (Value.slice ga gl gc) ∧ Below w.heap.size w y43 ∧ Blk y43 w.heap.size 24 (pmC p.o p.e (Value.slice ra rl rc) (Value.slice qa ql qc) (Value.slice ga gl gc)) ∧ Blk y43 a1.heap.size 35 (act3C act) ∧ Blk y43 y7.heap.size 24 (pmC q.o q.e (Value.slice x9a0 x9l0 x9c0) (Value.slice x9a1 x9l1 x9c1) (Value.slice x9a2 x9l2 x9c2)) ∧ PmS y43 q (Value.slice x9a0 x9l0 x9c0) (Value.slice x9a1 x9l1 x9c1) (Value.slice x9a2 x9l2 x9c2) ∧ Blk y43 v16.heap.size 24 (pmC q.o q.e (Value.slice x42a0 x42l0 x42c0) (Value.slice x42a1 x42l1 x42c1) (Value.slice x42a2 x42l2 x42c2)) ∧ PmS y43 q (Value.slice x42a0 x42l0 x42c0) (Value.slice x42a1 x42l1 x42c1) (Value.slice x42a2 x42l2 x42c2) from ⟨HV14.out.1.below HY44.out.1, below_thn HV14.out.2.1 HY44.out.1 (Nat.le_refl _), HV14.out.2.2.1.below HY44.out.1 HV14.out.2.2.1.lt, HV14.out.2.2.2.1.below HY44.out.1 HV14.out.2.2.2.1.lt, HV14.out.2.2.2.2.1.below HY44.out.1 HV14.out.2.2.2.2.1.lt, HV14.out.2.2.2.2.2.below HY44.out.1, HY44.out.2.1, HY44.out.2.2⟩)
        have ee : (er == er) = true := by simp
        go_wp2_with (first
    | (with_reducible refine wpList_load_any rfl 24 (.tmp 5) rfl y7.heap.size 0 rfl (pmC q.o q.e (Value.slice x9a0 x9l0 x9c0) (Value.slice x9a1 x9l1 x9c1) (Value.slice x9a2 x9l2 x9c2)) _ (rangeW_blk HV45.out.2.2.2.2.1) Try.underlying24 rfl (pmC_info _ _ _ _ _) ?_)
    | ((with_reducible refine wpList_load_want ?_ 24 (.tmp 5) rfl y7.heap.size 0 rfl (pmC q.o q.e (Value.slice x9a0 x9l0 x9c0) (Value.slice x9a1 x9l1 x9c1) (Value.slice x9a2 x9l2 x9c2)) _ (rangeW_blk HV45.out.2.2.2.2.1) Try.underlying24 rfl (pmC_info _ _ _ _ _) ?_); focus rfl)
    | (with_reducible refine wpList_load_any rfl 24 (.tmp 7) rfl v16.heap.size 0 rfl (pmC q.o q.e (Value.slice x42a0 x42l0 x42c0) (Value.slice x42a1 x42l1 x42c1) (Value.slice x42a2 x42l2 x42c2)) _ (rangeW_blk HV45.out.2.2.2.2.2.2.1) Try.underlying24 rfl (pmC_info _ _ _ _ _) ?_)
    | ((with_reducible refine wpList_load_want ?_ 24 (.tmp 7) rfl v16.heap.size 0 rfl (pmC q.o q.e (Value.slice x42a0 x42l0 x42c0) (Value.slice x42a1 x42l1 x42c1) (Value.slice x42a2 x42l2 x42c2)) _ (rangeW_blk HV45.out.2.2.2.2.2.2.1) Try.underlying24 rfl (pmC_info _ _ _ _ _) ?_); focus rfl))
        have hx := rsame_any q q _ _ _ _ _ _ y43 HV45.out.2.2.2.2.2.1 HV45.out.2.2.2.2.2.2.2
        rw [same_self] at hx
        refine Calls.mono hx ?_
        clear hx
        rintro e' y9 ⟨rfl, hb⟩
        have hb9 := below_thn HV45.out.2.1 hb (Nat.le_refl _)
        clear hb
        go_wp2_with fail
        go_ret
        exact ⟨rfl, hb9⟩
    · skip
      refine wpList_alloc_blk y4 rfl 24 rfl (pmC 0 0 (.slice none 0 0) (.slice none 0 0) (.slice none 0 0)) Try.zeroPm ?_
      intro y46 hb hbel hsz
      have HY47 := Lib.hid (show Below y2.heap.size y2 y46 ∧ PmS y46 p (Value.slice x6a0 x6l0 x6c0) (Value.slice x6a1 x6l1 x6c1) (Value.slice x6a2 x6l2 x6c2) ∧ Blk y46 y4.heap.size 24 (pmC 0 0 (.slice none 0 0) (.slice none 0 0) (.slice none 0 0)) ∧ Below y4.heap.size y4 y46 ∧ y2.heap.size ≤ y4.heap.size from ⟨below_thn HY5.out.1 hbel (Nat.le_refl _), HY5.out.2.below hbel, hb, hbel, HY5.out.1.size⟩)
      clear hb hbel hsz
      try simp only [Act.put, List.setIfInBounds_toArray, List.set_cons_zero, List.set_cons_succ]
      refine QK.normal ⟨fun _ => ⟨rangeAt_blk (HY2.out.2.2.1.below HY47.out.1 HY2.out.2.2.1.lt), rangeAt_blk (HY2.out.2.2.2.below HY47.out.1 HY2.out.2.2.2.lt)⟩, ?_⟩
      refine' wpAnyM_one 3 (by kernel_rfl) ?_ ?_; rotate_left; (simp only [List.getElem?_toArray, List.getElem?_cons_zero, List.getElem?_cons_succ]; rfl)
      try simp only [Act.put]
      go_wp2_with fail
      have hx := do_any p act _ _ _ y46 HY47.out.2.1 HLEN.out HAO.out
      rw [HR.out] at hx
      refine (calls_perm hx).mono ?_
      clear hx
      rintro e' y48 ⟨x50r, x50q, x50g, rfl, hs, hb, hab⟩
      obtain ⟨x50a0, x50c0, rfl, -⟩ := hs.1.shape
      obtain ⟨x50a1, x50c1, rfl, -⟩ := hs.2.1.shape
      obtain ⟨x50a2, x50c2, rfl, -⟩ := hs.2.2.shape
      generalize (ofK .i64 q.r).length = x50l0 at hs hab ⊢
      generalize (ofK .i64 q.q).length = x50l1 at hs hab ⊢
      generalize (ofK .i64 q.g).length = x50l2 at hs hab ⊢
      have HY49 := Lib.hid (show Below y2.heap.size y2 y48 ∧ Blk y48 y4.heap.size 24 (pmC 0 0 (.slice none 0 0) (.slice none 0 0) (.slice none 0 0)) ∧ Below y4.heap.size y4 y48 ∧ y2.heap.size ≤ y4.heap.size ∧ PmS y48 q (Value.slice x50a0 x50l0 x50c0) (Value.slice x50a1 x50l1 x50c1) (Value.slice x50a2 x50l2 x50c2) ∧ AbvS y46.heap.size (Value.slice x50a0 x50l0 x50c0) (Value.slice x50a1 x50l1 x50c1) (Value.slice x50a2 x50l2 x50c2) from ⟨below_thn HY47.out.1 hb (Nat.le_refl _), HY47.out.2.2.1.below hb HY47.out.2.2.1.lt, below_thn HY47.out.2.2.2.1 hb (Nat.le_refl _), HY47.out.2.2.2.2, hs, hab⟩)
      clear hs hb hab
      go_wp2_with fail
      refine QK.normal ⟨fun _ => ⟨rangeAt_blk (HY2.out.2.2.1.below HY49.out.1 HY2.out.2.2.1.lt), rangeAt_blk (HY2.out.2.2.2.below HY49.out.1 HY2.out.2.2.2.lt)⟩, ?_⟩
      refine wpAnyM_take0 (by kernel_rfl) noPanic_any (fuel := 4) (fun _ => ⟨rangeAt_blk (HY2.out.2.2.1.below HY49.out.1 HY2.out.2.2.1.lt), rangeAt_blk (HY2.out.2.2.2.below HY49.out.1 HY2.out.2.2.2.lt)⟩) 4 (by kernel_rfl) ?_
      refine' HeldL.run ?_ ?_ ?_ ?_; rotate_left 2; (simp only [List.getElem?_toArray, List.getElem?_cons_zero, List.getElem?_cons_succ]; rfl); rfl; (rintro w' -; go_simp; with_reducible rfl); simp only [Act.put, List.setIfInBounds_toArray, List.set_cons_zero, List.set_cons_succ]
      refine wpAnyM_take0 (by kernel_rfl) noPanic_any (fuel := 3) (fun _ => ⟨rangeAt_blk (HY2.out.2.2.1.below HY49.out.1 HY2.out.2.2.1.lt), rangeAt_blk (HY2.out.2.2.2.below HY49.out.1 HY2.out.2.2.2.lt)⟩) 5 (by kernel_rfl) ?_
      refine' HeldL.run ?_ ?_ ?_ ?_; rotate_left 2; (simp only [List.getElem?_toArray, List.getElem?_cons_zero, List.getElem?_cons_succ]; rfl); rfl; (rintro w' -; go_simp; with_reducible rfl); simp only [Act.put, List.setIfInBounds_toArray, List.set_cons_zero, List.set_cons_succ]
      refine wpAnyM_take0 (by kernel_rfl) noPanic_any (fuel := 2) (fun _ => ⟨rangeAt_blk (HY2.out.2.2.1.below HY49.out.1 HY2.out.2.2.1.lt), rangeAt_blk (HY2.out.2.2.2.below HY49.out.1 HY2.out.2.2.2.lt)⟩) 6 (by kernel_rfl) ?_
      refine' HeldL.run ?_ ?_ ?_ ?_; rotate_left 2; (simp only [List.getElem?_toArray, List.getElem?_cons_zero, List.getElem?_cons_succ]; rfl); rfl; (rintro w' -; go_simp; with_reducible rfl); simp only [Act.put, List.setIfInBounds_toArray, List.set_cons_zero, List.set_cons_succ]
      refine' wpAnyM_one 8 (by kernel_rfl) ?_ ?_; rotate_left; (simp only [List.getElem?_toArray, List.getElem?_cons_zero, List.getElem?_cons_succ]; rfl)
      refine wpList_store_blk y48 rfl 24 (.tmp 5) (.tmp 18) rfl y4.heap.size 24 (pmC 0 0 (.slice none 0 0) (.slice none 0 0) (.slice none 0 0)) (pmC q.o q.e (Value.slice x50a0 x50l0 x50c0) (Value.slice x50a1 x50l1 x50c1) (Value.slice x50a2 x50l2 x50c2)) HY49.out.2.1 rfl rfl rfl (pmC_info _ _ _ _ _) (pmC_one _ _ _ _ _ _ _ _ _ _ _) ?_
      intro y51 hb hc hs
      have hb0 := below_ch HY49.out.1 hc (Nat.le_refl _) (fun k hk => by have e : k = y4.heap.size := hk; have := HY49.out.2.2.2.1; omega)
      have HY52 := Lib.hid (show Below y2.heap.size y2 y51 ∧ Blk y51 y4.heap.size 24 (pmC q.o q.e (Value.slice x50a0 x50l0 x50c0) (Value.slice x50a1 x50l1 x50c1) (Value.slice x50a2 x50l2 x50c2)) ∧ PmS y51 q (Value.slice x50a0 x50l0 x50c0) (Value.slice x50a1 x50l1 x50c1) (Value.slice x50a2 x50l2 x50c2) from ⟨hb0, hb, HY49.out.2.2.2.2.1.ch hc (off_abv HY49.out.2.2.2.2.2 HY47.out.2.2.1.lt)⟩)
      clear hb hc hs hb0
      try simp only [Act.put, List.setIfInBounds_toArray, List.set_cons_zero, List.set_cons_succ]
      refine QK.normal ⟨fun h => absurd h (by decide), ?_⟩
      refine' wpAnyM_one 9 (by kernel_rfl) ?_ ?_; rotate_left; (simp only [List.getElem?_toArray, List.getElem?_cons_zero, List.getElem?_cons_succ]; rfl)
      try simp only [Act.put]
      go_wp2_with fail
      refine QK.normal ⟨fun h => absurd h (by decide), ?_⟩
      refine wpAnyM_done (by kernel_rfl) ?_ _
      refine NoPanic.normal ?_
      go_wp2_with fail
      have HV53 := Lib.hid (show PmS y51 p (Value.slice ra rl rc) (Value.slice qa ql qc) (Value.slice ga gl gc) ∧ Below w.heap.size w y51 ∧ Blk y51 w.heap.size 24 (pmC p.o p.e (Value.slice ra rl rc) (Value.slice qa ql qc) (Value.slice ga gl gc)) ∧ Blk y51 a1.heap.size 35 (act3C act) ∧ Blk y51 y4.heap.size 24 (pmC q.o q.e (Value.slice x50a0 x50l0 x50c0) (Value.slice x50a1 x50l1 x50c1) (Value.slice x50a2 x50l2 x50c2)) ∧ PmS y51 q (Value.slice x50a0 x50l0 x50c0) (Value.slice x50a1 x50l1 x50c1) (Value.slice x50a2 x50l2 x50c2) from ⟨HY2.out.1.below HY52.out.1, below_thn HY2.out.2.1 HY52.out.1 (Nat.le_refl _), HY2.out.2.2.1.below HY52.out.1 HY2.out.2.2.1.lt, HY2.out.2.2.2.below HY52.out.1 HY2.out.2.2.2.lt, HY52.out.2.1, HY52.out.2.2⟩)
      have HB54 := Lib.hid (Below.refl y51.heap.size y51)
      go_wp2_with fail
      refine wp_region_marked (fun w' => w'.rangeAt w.heap.size 0 (pmC p.o p.e (Value.slice ra rl rc) (Value.slice qa ql qc) (Value.slice ga gl gc)) ∧ w'.rangeAt a1.heap.size 0 (act3C act) ∧ w'.cell? ⟨a1.heap.size, 1, none⟩ = some (.int .i64 act.b) ∧ w'.cell? ⟨a1.heap.size, 2, none⟩ = some (.int .i64 act.n)) 12 [0, 1, 3, 4, 5, 6] 8 (by kernel_rfl) rfl (by kernel_rfl) (by kernel_rfl) ⟨rangeAt_blk HV53.out.2.2.1, rangeAt_blk HV53.out.2.2.2.1, HV53.out.2.2.2.1.cell 1, HV53.out.2.2.2.1.cell 2⟩ ?_
      iterate 6 (refine' HeldL.run ?_ ?_ ?_ ?_; rotate_left 2; (simp only [List.getElem?_toArray, List.getElem?_cons_zero, List.getElem?_cons_succ]; rfl); rfl; (rintro w' ⟨k0, k1, k2, k3⟩; first | (go_simp; with_reducible rfl) | exact exec_load_mid rfl rfl k0 Try.underlying24 rfl (pmC_info _ _ _ _ _) | exact exec_load_mid rfl rfl k1 Try.underlying35 rfl (act3C_info _)); simp only [Act.put, List.setIfInBounds_toArray, List.set_cons_zero, List.set_cons_succ])
      have sm := (Sm.refl y51).drew
      have HV56 := Lib.hid (show Below y51.heap.size y51 y51.drew from below_thn HB54.out (sm.below _) (Nat.le_refl _))
      clear sm
      generalize y51.drew = v55 at HV56 ⊢
      refine' wpAnyM_two 2 11 (by kernel_rfl) ?_ ?_ ?_ ?_; rotate_left 2; (simp only [List.getElem?_toArray, List.getElem?_cons_zero, List.getElem?_cons_succ]; rfl); (simp only [List.getElem?_toArray, List.getElem?_cons_zero, List.getElem?_cons_succ]; rfl)
      · skip
        try simp only [Act.put]
        go_wp2_with fail
        refine (kind_any act v55 HAO.out).mono ?_
        rintro e' y57 ⟨rfl, hb⟩
        have HY58 := Lib.hid (show Below y51.heap.size y51 y57 from below_thn HV56.out hb (Nat.le_refl _))
        clear hb
        go_wp2_with fail
        refine QK.normal ⟨fun _ => ⟨rangeAt_blk (HV53.out.2.2.1.below HY58.out HV53.out.2.2.1.lt), rangeAt_blk (HV53.out.2.2.2.1.below HY58.out HV53.out.2.2.2.1.lt), (HV53.out.2.2.2.1.below HY58.out HV53.out.2.2.2.1.lt).cell 1, (HV53.out.2.2.2.1.below HY58.out HV53.out.2.2.2.1.lt).cell 2⟩, ?_⟩
        refine' wpAnyM_two 7 11 (by kernel_rfl) ?_ ?_ ?_ ?_; rotate_left 2; (simp only [List.getElem?_toArray, List.getElem?_cons_zero, List.getElem?_cons_succ]; rfl); (simp only [List.getElem?_toArray, List.getElem?_cons_zero, List.getElem?_cons_succ]; rfl)
        · skip
          try simp only [Act.put]
          go_wp2_with fail
          have hx := rchange_any p _ _ _ act y57 (HV53.out.1.below HY58.out)
          rw [HR.out] at hx
          refine (calls_ref hx).mono ?_
          clear hx
          rintro e' y59 ⟨x61r, x61q, x61g, rfl, hs, hb, hmv⟩
          obtain ⟨x61a0, x61c0, rfl, -⟩ := hs.1.shape
          obtain ⟨x61a1, x61c1, rfl, -⟩ := hs.2.1.shape
          obtain ⟨x61a2, x61c2, rfl, -⟩ := hs.2.2.shape
          generalize (ofK .i64 q.r).length = x61l0 at hs hmv ⊢
          generalize (ofK .i64 q.q).length = x61l1 at hs hmv ⊢
          generalize (ofK .i64 q.g).length = x61l2 at hs hmv ⊢
          have HY60 := Lib.hid (show Below y51.heap.size y51 y59 ∧ PmS y59 q (Value.slice x61a0 x61l0 x61c0) (Value.slice x61a1 x61l1 x61c1) (Value.slice x61a2 x61l2 x61c2) ∧ (∀ g w2, g < y57.heap.size → Ch (· = g) y59 w2 → PmS w2 p (Value.slice ra rl rc) (Value.slice qa ql qc) (Value.slice ga gl gc) → PmS w2 q (Value.slice x61a0 x61l0 x61c0) (Value.slice x61a1 x61l1 x61c1) (Value.slice x61a2 x61l2 x61c2)) from ⟨below_thn HY58.out hb (Nat.le_refl _), hs, hmv⟩)
          clear hs hb hmv
          go_wp2_with fail
          refine QK.normal ⟨fun _ => ⟨rangeAt_blk (HV53.out.2.2.1.below HY60.out.1 HV53.out.2.2.1.lt), rangeAt_blk (HV53.out.2.2.2.1.below HY60.out.1 HV53.out.2.2.2.1.lt), (HV53.out.2.2.2.1.below HY60.out.1 HV53.out.2.2.2.1.lt).cell 1, (HV53.out.2.2.2.1.below HY60.out.1 HV53.out.2.2.2.1.lt).cell 2⟩, ?_⟩
          refine wpAnyM_take0 (by kernel_rfl) noPanic_any (fuel := 5) (fun _ => ⟨rangeAt_blk (HV53.out.2.2.1.below HY60.out.1 HV53.out.2.2.1.lt), rangeAt_blk (HV53.out.2.2.2.1.below HY60.out.1 HV53.out.2.2.2.1.lt), (HV53.out.2.2.2.1.below HY60.out.1 HV53.out.2.2.2.1.lt).cell 1, (HV53.out.2.2.2.1.below HY60.out.1 HV53.out.2.2.2.1.lt).cell 2⟩) 8 (by kernel_rfl) ?_
          refine' HeldL.run ?_ ?_ ?_ ?_; rotate_left 2; (simp only [List.getElem?_toArray, List.getElem?_cons_zero, List.getElem?_cons_succ]; rfl); rfl; (rintro w' -; go_simp; with_reducible rfl); simp only [Act.put, List.setIfInBounds_toArray, List.set_cons_zero, List.set_cons_succ]
          refine wpAnyM_take0 (by kernel_rfl) noPanic_any (fuel := 4) (fun _ => ⟨rangeAt_blk (HV53.out.2.2.1.below HY60.out.1 HV53.out.2.2.1.lt), rangeAt_blk (HV53.out.2.2.2.1.below HY60.out.1 HV53.out.2.2.2.1.lt), (HV53.out.2.2.2.1.below HY60.out.1 HV53.out.2.2.2.1.lt).cell 1, (HV53.out.2.2.2.1.below HY60.out.1 HV53.out.2.2.2.1.lt).cell 2⟩) 9 (by kernel_rfl) ?_
          refine' HeldL.run ?_ ?_ ?_ ?_; rotate_left 2; (simp only [List.getElem?_toArray, List.getElem?_cons_zero, List.getElem?_cons_succ]; rfl); rfl; (rintro w' -; go_simp; with_reducible rfl); simp only [Act.put, List.setIfInBounds_toArray, List.set_cons_zero, List.set_cons_succ]
          refine wpAnyM_take0 (by kernel_rfl) noPanic_any (fuel := 3) (fun _ => ⟨rangeAt_blk (HV53.out.2.2.1.below HY60.out.1 HV53.out.2.2.1.lt), rangeAt_blk (HV53.out.2.2.2.1.below HY60.out.1 HV53.out.2.2.2.1.lt), (HV53.out.2.2.2.1.below HY60.out.1 HV53.out.2.2.2.1.lt).cell 1, (HV53.out.2.2.2.1.below HY60.out.1 HV53.out.2.2.2.1.lt).cell 2⟩) 10 (by kernel_rfl) ?_
          refine' HeldL.run ?_ ?_ ?_ ?_; rotate_left 2; (simp only [List.getElem?_toArray, List.getElem?_cons_zero, List.getElem?_cons_succ]; rfl); rfl; (rintro w' -; go_simp; with_reducible rfl); simp only [Act.put, List.setIfInBounds_toArray, List.set_cons_zero, List.set_cons_succ]
          refine' wpAnyM_one 11 (by kernel_rfl) ?_ ?_; rotate_left; (simp only [List.getElem?_toArray, List.getElem?_cons_zero, List.getElem?_cons_succ]; rfl)
          refine wpList_alloc_blk y59 rfl 24 rfl (pmC 0 0 (.slice none 0 0) (.slice none 0 0) (.slice none 0 0)) Try.zeroPm ?_
          intro y62 hb hbel hsz
          have HY63 := Lib.hid (show Below y51.heap.size y51 y62 ∧ PmS y62 q (Value.slice x61a0 x61l0 x61c0) (Value.slice x61a1 x61l1 x61c1) (Value.slice x61a2 x61l2 x61c2) ∧ (∀ g w2, g < y57.heap.size → Ch (· = g) y62 w2 → PmS w2 p (Value.slice ra rl rc) (Value.slice qa ql qc) (Value.slice ga gl gc) → PmS w2 q (Value.slice x61a0 x61l0 x61c0) (Value.slice x61a1 x61l1 x61c1) (Value.slice x61a2 x61l2 x61c2)) ∧ Blk y62 y59.heap.size 24 (pmC 0 0 (.slice none 0 0) (.slice none 0 0) (.slice none 0 0)) ∧ Below y59.heap.size y59 y62 ∧ y51.heap.size ≤ y59.heap.size from ⟨below_thn HY60.out.1 hbel (Nat.le_refl _), HY60.out.2.1.below hbel, (fun g w2 hg hc h => HY60.out.2.2 g w2 hg (Ch.trans (Ch.of_below hbel (Nat.le_refl _)) hc) h), hb, hbel, HY60.out.1.size⟩)
          clear hb hbel hsz
          try simp only [Act.put, List.setIfInBounds_toArray, List.set_cons_zero, List.set_cons_succ]
          refine QK.normal ⟨fun _ => ⟨rangeAt_blk (HV53.out.2.2.1.below HY63.out.1 HV53.out.2.2.1.lt), rangeAt_blk (HV53.out.2.2.2.1.below HY63.out.1 HV53.out.2.2.2.1.lt), (HV53.out.2.2.2.1.below HY63.out.1 HV53.out.2.2.2.1.lt).cell 1, (HV53.out.2.2.2.1.below HY63.out.1 HV53.out.2.2.2.1.lt).cell 2⟩, ?_⟩
          refine' wpAnyM_one 12 (by kernel_rfl) ?_ ?_; rotate_left; (simp only [List.getElem?_toArray, List.getElem?_cons_zero, List.getElem?_cons_succ]; rfl)
          refine wpList_store_blk y62 rfl 24 (.tmp 7) (.tmp 29) rfl y59.heap.size 24 (pmC 0 0 (.slice none 0 0) (.slice none 0 0) (.slice none 0 0)) (pmC q.o q.e (Value.slice x61a0 x61l0 x61c0) (Value.slice x61a1 x61l1 x61c1) (Value.slice x61a2 x61l2 x61c2)) HY63.out.2.2.2.1 rfl rfl rfl (pmC_info _ _ _ _ _) (pmC_one _ _ _ _ _ _ _ _ _ _ _) ?_
          intro y64 hb hc hs
          have hb0 := below_ch HY63.out.1 hc (Nat.le_refl _) (fun k hk => by have e : k = y59.heap.size := hk; have := HY63.out.2.2.2.2.2; omega)
          have HY65 := Lib.hid (show Below y51.heap.size y51 y64 ∧ Blk y64 y59.heap.size 24 (pmC q.o q.e (Value.slice x61a0 x61l0 x61c0) (Value.slice x61a1 x61l1 x61c1) (Value.slice x61a2 x61l2 x61c2)) ∧ PmS y64 q (Value.slice x61a0 x61l0 x61c0) (Value.slice x61a1 x61l1 x61c1) (Value.slice x61a2 x61l2 x61c2) from ⟨hb0, hb, HY60.out.2.1.below (below_ch HY63.out.2.2.2.2.1 hc (Nat.le_refl _) (fun k hk => by have e : k = y59.heap.size := hk; omega))⟩)
          clear hb hc hs hb0
          try simp only [Act.put, List.setIfInBounds_toArray, List.set_cons_zero, List.set_cons_succ]
          refine QK.normal ⟨fun h => absurd h (by decide), ?_⟩
          refine' wpAnyM_one 13 (by kernel_rfl) ?_ ?_; rotate_left; (simp only [List.getElem?_toArray, List.getElem?_cons_zero, List.getElem?_cons_succ]; rfl)
          try simp only [Act.put]
          go_wp2_with fail
          refine QK.normal ⟨fun h => absurd h (by decide), ?_⟩
          refine wpAnyM_done (by kernel_rfl) ?_ _
          refine NoPanic.normal ?_
          have HV66 := Lib.hid (show PmS y64 p (Value.slice ra rl rc) (Value.slice qa ql qc) (Value.slice ga gl gc) ∧ Below w.heap.size w y64 ∧ Blk y64 w.heap.size 24 (pmC p.o p.e (Value.slice ra rl rc) (Value.slice qa ql qc) (Value.slice ga gl gc)) ∧ Blk y64 a1.heap.size 35 (act3C act) ∧ Blk y64 y4.heap.size 24 (pmC q.o q.e (Value.slice x50a0 x50l0 x50c0) (Value.slice x50a1 x50l1 x50c1) (Value.slice x50a2 x50l2 x50c2)) ∧ PmS y64 q (Value.slice x50a0 x50l0 x50c0) (Value.slice x50a1 x50l1 x50c1) (Value.slice x50a2 x50l2 x50c2) ∧ Blk y64 y59.heap.size 24 (pmC q.o q.e (Value.slice x61a0 x61l0 x61c0) (Value.slice x61a1 x61l1 x61c1) (Value.slice x61a2 x61l2 x61c2)) ∧ PmS y64 q (Value.slice x61a0 x61l0 x61c0) (Value.slice x61a1 x61l1 x61c1) (Value.slice x61a2 x61l2 x61c2) from ⟨HV53.out.1.below HY65.out.1, below_thn HV53.out.2.1 HY65.out.1 (Nat.le_refl _), HV53.out.2.2.1.below HY65.out.1 HV53.out.2.2.1.lt, HV53.out.2.2.2.1.below HY65.out.1 HV53.out.2.2.2.1.lt, HV53.out.2.2.2.2.1.below HY65.out.1 HV53.out.2.2.2.2.1.lt, HV53.out.2.2.2.2.2.below HY65.out.1, HY65.out.2.1, HY65.out.2.2⟩)
          have ee : (er == er) = true := by simp
          go_wp2_with (first
    | (with_reducible refine wpList_load_any rfl 24 (.tmp 5) rfl y4.heap.size 0 rfl (pmC q.o q.e (Value.slice x50a0 x50l0 x50c0) (Value.slice x50a1 x50l1 x50c1) (Value.slice x50a2 x50l2 x50c2)) _ (rangeW_blk HV66.out.2.2.2.2.1) Try.underlying24 rfl (pmC_info _ _ _ _ _) ?_)
    | ((with_reducible refine wpList_load_want ?_ 24 (.tmp 5) rfl y4.heap.size 0 rfl (pmC q.o q.e (Value.slice x50a0 x50l0 x50c0) (Value.slice x50a1 x50l1 x50c1) (Value.slice x50a2 x50l2 x50c2)) _ (rangeW_blk HV66.out.2.2.2.2.1) Try.underlying24 rfl (pmC_info _ _ _ _ _) ?_); focus rfl)
    | (with_reducible refine wpList_load_any rfl 24 (.tmp 7) rfl y59.heap.size 0 rfl (pmC q.o q.e (Value.slice x61a0 x61l0 x61c0) (Value.slice x61a1 x61l1 x61c1) (Value.slice x61a2 x61l2 x61c2)) _ (rangeW_blk HV66.out.2.2.2.2.2.2.1) Try.underlying24 rfl (pmC_info _ _ _ _ _) ?_)
    | ((with_reducible refine wpList_load_want ?_ 24 (.tmp 7) rfl y59.heap.size 0 rfl (pmC q.o q.e (Value.slice x61a0 x61l0 x61c0) (Value.slice x61a1 x61l1 x61c1) (Value.slice x61a2 x61l2 x61c2)) _ (rangeW_blk HV66.out.2.2.2.2.2.2.1) Try.underlying24 rfl (pmC_info _ _ _ _ _) ?_); focus rfl))
          have hx := rsame_any q q _ _ _ _ _ _ y64 HV66.out.2.2.2.2.2.1 HV66.out.2.2.2.2.2.2.2
          rw [same_self] at hx
          refine Calls.mono hx ?_
          clear hx
          rintro e' y9 ⟨rfl, hb⟩
          have hb9 := below_thn HV66.out.2.1 hb (Nat.le_refl _)
          clear hb
          go_wp2_with fail
          go_ret
          exact ⟨rfl, hb9⟩
        · skip
          refine wpList_alloc_blk y57 rfl 24 rfl (pmC 0 0 (.slice none 0 0) (.slice none 0 0) (.slice none 0 0)) Try.zeroPm ?_
          intro y67 hb hbel hsz
          have HY68 := Lib.hid (show Below y51.heap.size y51 y67 ∧ Blk y67 y57.heap.size 24 (pmC 0 0 (.slice none 0 0) (.slice none 0 0) (.slice none 0 0)) ∧ Below y57.heap.size y57 y67 ∧ y51.heap.size ≤ y57.heap.size from ⟨below_thn HY58.out hbel (Nat.le_refl _), hb, hbel, HY58.out.size⟩)
          clear hb hbel hsz
          try simp only [Act.put, List.setIfInBounds_toArray, List.set_cons_zero, List.set_cons_succ]
          refine QK.normal ⟨fun _ => ⟨rangeAt_blk (HV53.out.2.2.1.below HY68.out.1 HV53.out.2.2.1.lt), rangeAt_blk (HV53.out.2.2.2.1.below HY68.out.1 HV53.out.2.2.2.1.lt), (HV53.out.2.2.2.1.below HY68.out.1 HV53.out.2.2.2.1.lt).cell 1, (HV53.out.2.2.2.1.below HY68.out.1 HV53.out.2.2.2.1.lt).cell 2⟩, ?_⟩
          refine' wpAnyM_one 7 (by kernel_rfl) ?_ ?_; rotate_left; (simp only [List.getElem?_toArray, List.getElem?_cons_zero, List.getElem?_cons_succ]; rfl)
          try simp only [Act.put]
          go_wp2_with fail
          have hx := rchange_any p _ _ _ act y67 (HV53.out.1.below HY68.out.1)
          rw [HR.out] at hx
          refine (calls_ref hx).mono ?_
          clear hx
          rintro e' y69 ⟨x71r, x71q, x71g, rfl, hs, hb, hmv⟩
          obtain ⟨x71a0, x71c0, rfl, -⟩ := hs.1.shape
          obtain ⟨x71a1, x71c1, rfl, -⟩ := hs.2.1.shape
          obtain ⟨x71a2, x71c2, rfl, -⟩ := hs.2.2.shape
          generalize (ofK .i64 q.r).length = x71l0 at hs hmv ⊢
          generalize (ofK .i64 q.q).length = x71l1 at hs hmv ⊢
          generalize (ofK .i64 q.g).length = x71l2 at hs hmv ⊢
          have HY70 := Lib.hid (show Below y51.heap.size y51 y69 ∧ Blk y69 y57.heap.size 24 (pmC 0 0 (.slice none 0 0) (.slice none 0 0) (.slice none 0 0)) ∧ Below y57.heap.size y57 y69 ∧ y51.heap.size ≤ y57.heap.size ∧ PmS y69 q (Value.slice x71a0 x71l0 x71c0) (Value.slice x71a1 x71l1 x71c1) (Value.slice x71a2 x71l2 x71c2) ∧ (∀ g w2, g < y67.heap.size → Ch (· = g) y69 w2 → PmS w2 p (Value.slice ra rl rc) (Value.slice qa ql qc) (Value.slice ga gl gc) → PmS w2 q (Value.slice x71a0 x71l0 x71c0) (Value.slice x71a1 x71l1 x71c1) (Value.slice x71a2 x71l2 x71c2)) from ⟨below_thn HY68.out.1 hb (Nat.le_refl _), HY68.out.2.1.below hb HY68.out.2.1.lt, below_thn HY68.out.2.2.1 hb (Nat.le_refl _), HY68.out.2.2.2, hs, hmv⟩)
          clear hs hb hmv
          go_wp2_with fail
          refine QK.normal ⟨fun _ => ⟨rangeAt_blk (HV53.out.2.2.1.below HY70.out.1 HV53.out.2.2.1.lt), rangeAt_blk (HV53.out.2.2.2.1.below HY70.out.1 HV53.out.2.2.2.1.lt), (HV53.out.2.2.2.1.below HY70.out.1 HV53.out.2.2.2.1.lt).cell 1, (HV53.out.2.2.2.1.below HY70.out.1 HV53.out.2.2.2.1.lt).cell 2⟩, ?_⟩
          refine wpAnyM_take0 (by kernel_rfl) noPanic_any (fuel := 4) (fun _ => ⟨rangeAt_blk (HV53.out.2.2.1.below HY70.out.1 HV53.out.2.2.1.lt), rangeAt_blk (HV53.out.2.2.2.1.below HY70.out.1 HV53.out.2.2.2.1.lt), (HV53.out.2.2.2.1.below HY70.out.1 HV53.out.2.2.2.1.lt).cell 1, (HV53.out.2.2.2.1.below HY70.out.1 HV53.out.2.2.2.1.lt).cell 2⟩) 8 (by kernel_rfl) ?_
          refine' HeldL.run ?_ ?_ ?_ ?_; rotate_left 2; (simp only [List.getElem?_toArray, List.getElem?_cons_zero, List.getElem?_cons_succ]; rfl); rfl; (rintro w' -; go_simp; with_reducible rfl); simp only [Act.put, List.setIfInBounds_toArray, List.set_cons_zero, List.set_cons_succ]
          refine wpAnyM_take0 (by kernel_rfl) noPanic_any (fuel := 3) (fun _ => ⟨rangeAt_blk (HV53.out.2.2.1.below HY70.out.1 HV53.out.2.2.1.lt), rangeAt_blk (HV53.out.2.2.2.1.below HY70.out.1 HV53.out.2.2.2.1.lt), (HV53.out.2.2.2.1.below HY70.out.1 HV53.out.2.2.2.1.lt).cell 1, (HV53.out.2.2.2.1.below HY70.out.1 HV53.out.2.2.2.1.lt).cell 2⟩) 9 (by kernel_rfl) ?_
          refine' HeldL.run ?_ ?_ ?_ ?_; rotate_left 2; (simp only [List.getElem?_toArray, List.getElem?_cons_zero, List.getElem?_cons_succ]; rfl); rfl; (rintro w' -; go_simp; with_reducible rfl); simp only [Act.put, List.setIfInBounds_toArray, List.set_cons_zero, List.set_cons_succ]
          refine wpAnyM_take0 (by kernel_rfl) noPanic_any (fuel := 2) (fun _ => ⟨rangeAt_blk (HV53.out.2.2.1.below HY70.out.1 HV53.out.2.2.1.lt), rangeAt_blk (HV53.out.2.2.2.1.below HY70.out.1 HV53.out.2.2.2.1.lt), (HV53.out.2.2.2.1.below HY70.out.1 HV53.out.2.2.2.1.lt).cell 1, (HV53.out.2.2.2.1.below HY70.out.1 HV53.out.2.2.2.1.lt).cell 2⟩) 10 (by kernel_rfl) ?_
          refine' HeldL.run ?_ ?_ ?_ ?_; rotate_left 2; (simp only [List.getElem?_toArray, List.getElem?_cons_zero, List.getElem?_cons_succ]; rfl); rfl; (rintro w' -; go_simp; with_reducible rfl); simp only [Act.put, List.setIfInBounds_toArray, List.set_cons_zero, List.set_cons_succ]
          refine' wpAnyM_one 12 (by kernel_rfl) ?_ ?_; rotate_left; (simp only [List.getElem?_toArray, List.getElem?_cons_zero, List.getElem?_cons_succ]; rfl)
          refine wpList_store_blk y69 rfl 24 (.tmp 7) (.tmp 29) rfl y57.heap.size 24 (pmC 0 0 (.slice none 0 0) (.slice none 0 0) (.slice none 0 0)) (pmC q.o q.e (Value.slice x71a0 x71l0 x71c0) (Value.slice x71a1 x71l1 x71c1) (Value.slice x71a2 x71l2 x71c2)) HY70.out.2.1 rfl rfl rfl (pmC_info _ _ _ _ _) (pmC_one _ _ _ _ _ _ _ _ _ _ _) ?_
          intro y72 hb hc hs
          have hb0 := below_ch HY70.out.1 hc (Nat.le_refl _) (fun k hk => by have e : k = y57.heap.size := hk; have := HY70.out.2.2.2.1; omega)
          have hb2 := below_thn HV53.out.2.1 hb0 (Nat.le_refl _)
          have HY73 := Lib.hid (show Below y51.heap.size y51 y72 ∧ Blk y72 y57.heap.size 24 (pmC q.o q.e (Value.slice x71a0 x71l0 x71c0) (Value.slice x71a1 x71l1 x71c1) (Value.slice x71a2 x71l2 x71c2)) ∧ PmS y72 q (Value.slice x71a0 x71l0 x71c0) (Value.slice x71a1 x71l1 x71c1) (Value.slice x71a2 x71l2 x71c2) from ⟨hb0, hb, HY70.out.2.2.2.2.2 y57.heap.size _ HY68.out.2.1.lt (Ch.trans (Ch.of_below (S := (· = y57.heap.size)) (Below.refl _ _) (Nat.le_refl _)) hc) (HPS.out.below hb2)⟩)
          clear hb hc hs hb0 hb2
          try simp only [Act.put, List.setIfInBounds_toArray, List.set_cons_zero, List.set_cons_succ]
          refine QK.normal ⟨fun h => absurd h (by decide), ?_⟩
          refine' wpAnyM_one 13 (by kernel_rfl) ?_ ?_; rotate_left; (simp only [List.getElem?_toArray, List.getElem?_cons_zero, List.getElem?_cons_succ]; rfl)
          try simp only [Act.put]
          go_wp2_with fail
          refine QK.normal ⟨fun h => absurd h (by decide), ?_⟩
          refine wpAnyM_done (by kernel_rfl) ?_ _
          refine NoPanic.normal ?_
          have HV74 := Lib.hid (show PmS y72 p (Value.slice ra rl rc) (Value.slice qa ql qc) (Value.slice ga gl gc) ∧ Below w.heap.size w y72 ∧ Blk y72 w.heap.size 24 (pmC p.o p.e (Value.slice ra rl rc) (Value.slice qa ql qc) (Value.slice ga gl gc)) ∧ Blk y72 a1.heap.size 35 (act3C act) ∧ Blk y72 y4.heap.size 24 (pmC q.o q.e (Value.slice x50a0 x50l0 x50c0) (Value.slice x50a1 x50l1 x50c1) (Value.slice x50a2 x50l2 x50c2)) ∧ PmS y72 q (Value.slice x50a0 x50l0 x50c0) (Value.slice x50a1 x50l1 x50c1) (Value.slice x50a2 x50l2 x50c2) ∧ Blk y72 y57.heap.size 24 (pmC q.o q.e (Value.slice x71a0 x71l0 x71c0) (Value.slice x71a1 x71l1 x71c1) (Value.slice x71a2 x71l2 x71c2)) ∧ PmS y72 q (Value.slice x71a0 x71l0 x71c0) (Value.slice x71a1 x71l1 x71c1) (Value.slice x71a2 x71l2 x71c2) from ⟨HV53.out.1.below HY73.out.1, below_thn HV53.out.2.1 HY73.out.1 (Nat.le_refl _), HV53.out.2.2.1.below HY73.out.1 HV53.out.2.2.1.lt, HV53.out.2.2.2.1.below HY73.out.1 HV53.out.2.2.2.1.lt, HV53.out.2.2.2.2.1.below HY73.out.1 HV53.out.2.2.2.2.1.lt, HV53.out.2.2.2.2.2.below HY73.out.1, HY73.out.2.1, HY73.out.2.2⟩)
          have ee : (er == er) = true := by simp
          go_wp2_with (first
    | (with_reducible refine wpList_load_any rfl 24 (.tmp 5) rfl y4.heap.size 0 rfl (pmC q.o q.e (Value.slice x50a0 x50l0 x50c0) (Value.slice x50a1 x50l1 x50c1) (Value.slice x50a2 x50l2 x50c2)) _ (rangeW_blk HV74.out.2.2.2.2.1) Try.underlying24 rfl (pmC_info _ _ _ _ _) ?_)
    | ((with_reducible refine wpList_load_want ?_ 24 (.tmp 5) rfl y4.heap.size 0 rfl (pmC q.o q.e (Value.slice x50a0 x50l0 x50c0) (Value.slice x50a1 x50l1 x50c1) (Value.slice x50a2 x50l2 x50c2)) _ (rangeW_blk HV74.out.2.2.2.2.1) Try.underlying24 rfl (pmC_info _ _ _ _ _) ?_); focus rfl)
    | (with_reducible refine wpList_load_any rfl 24 (.tmp 7) rfl y57.heap.size 0 rfl (pmC q.o q.e (Value.slice x71a0 x71l0 x71c0) (Value.slice x71a1 x71l1 x71c1) (Value.slice x71a2 x71l2 x71c2)) _ (rangeW_blk HV74.out.2.2.2.2.2.2.1) Try.underlying24 rfl (pmC_info _ _ _ _ _) ?_)
    | ((with_reducible refine wpList_load_want ?_ 24 (.tmp 7) rfl y57.heap.size 0 rfl (pmC q.o q.e (Value.slice x71a0 x71l0 x71c0) (Value.slice x71a1 x71l1 x71c1) (Value.slice x71a2 x71l2 x71c2)) _ (rangeW_blk HV74.out.2.2.2.2.2.2.1) Try.underlying24 rfl (pmC_info _ _ _ _ _) ?_); focus rfl))
          have hx := rsame_any q q _ _ _ _ _ _ y72 HV74.out.2.2.2.2.2.1 HV74.out.2.2.2.2.2.2.2
          rw [same_self] at hx
          refine Calls.mono hx ?_
          clear hx
          rintro e' y9 ⟨rfl, hb⟩
          have hb9 := below_thn HV74.out.2.1 hb (Nat.le_refl _)
          clear hb
          go_wp2_with fail
          go_ret
          exact ⟨rfl, hb9⟩
      · skip
        refine wpList_alloc_blk v55 rfl 24 rfl (pmC 0 0 (.slice none 0 0) (.slice none 0 0) (.slice none 0 0)) Try.zeroPm ?_
        intro y75 hb hbel hsz
        have HY76 := Lib.hid (show Below y51.heap.size y51 y75 ∧ Blk y75 v55.heap.size 24 (pmC 0 0 (.slice none 0 0) (.slice none 0 0) (.slice none 0 0)) ∧ Below v55.heap.size v55 y75 ∧ y51.heap.size ≤ v55.heap.size from ⟨below_thn HV56.out hbel (Nat.le_refl _), hb, hbel, HV56.out.size⟩)
        clear hb hbel hsz
        try simp only [Act.put, List.setIfInBounds_toArray, List.set_cons_zero, List.set_cons_succ]
        refine QK.normal ⟨fun _ => ⟨rangeAt_blk (HV53.out.2.2.1.below HY76.out.1 HV53.out.2.2.1.lt), rangeAt_blk (HV53.out.2.2.2.1.below HY76.out.1 HV53.out.2.2.2.1.lt), (HV53.out.2.2.2.1.below HY76.out.1 HV53.out.2.2.2.1.lt).cell 1, (HV53.out.2.2.2.1.below HY76.out.1 HV53.out.2.2.2.1.lt).cell 2⟩, ?_⟩
        refine' wpAnyM_one 2 (by kernel_rfl) ?_ ?_; rotate_left; (simp only [List.getElem?_toArray, List.getElem?_cons_zero, List.getElem?_cons_succ]; rfl)
        try simp only [Act.put]
        go_wp2_with fail
        refine (kind_any act y75 HAO.out).mono ?_
        rintro e' y77 ⟨rfl, hb⟩
        have HY78 := Lib.hid (show Below y51.heap.size y51 y77 ∧ Blk y77 v55.heap.size 24 (pmC 0 0 (.slice none 0 0) (.slice none 0 0) (.slice none 0 0)) ∧ Below v55.heap.size v55 y77 ∧ y51.heap.size ≤ v55.heap.size from ⟨below_thn HY76.out.1 hb (Nat.le_refl _), HY76.out.2.1.below hb HY76.out.2.1.lt, below_thn HY76.out.2.2.1 hb (Nat.le_refl _), HY76.out.2.2.2⟩)
        clear hb
        go_wp2_with fail
        refine QK.normal ⟨fun _ => ⟨rangeAt_blk (HV53.out.2.2.1.below HY78.out.1 HV53.out.2.2.1.lt), rangeAt_blk (HV53.out.2.2.2.1.below HY78.out.1 HV53.out.2.2.2.1.lt), (HV53.out.2.2.2.1.below HY78.out.1 HV53.out.2.2.2.1.lt).cell 1, (HV53.out.2.2.2.1.below HY78.out.1 HV53.out.2.2.2.1.lt).cell 2⟩, ?_⟩
        refine' wpAnyM_one 7 (by kernel_rfl) ?_ ?_; rotate_left; (simp only [List.getElem?_toArray, List.getElem?_cons_zero, List.getElem?_cons_succ]; rfl)
        try simp only [Act.put]
        go_wp2_with fail
        have hx := rchange_any p _ _ _ act y77 (HV53.out.1.below HY78.out.1)
        rw [HR.out] at hx
        refine (calls_ref hx).mono ?_
        clear hx
        rintro e' y79 ⟨x81r, x81q, x81g, rfl, hs, hb, hmv⟩
        obtain ⟨x81a0, x81c0, rfl, -⟩ := hs.1.shape
        obtain ⟨x81a1, x81c1, rfl, -⟩ := hs.2.1.shape
        obtain ⟨x81a2, x81c2, rfl, -⟩ := hs.2.2.shape
        generalize (ofK .i64 q.r).length = x81l0 at hs hmv ⊢
        generalize (ofK .i64 q.q).length = x81l1 at hs hmv ⊢
        generalize (ofK .i64 q.g).length = x81l2 at hs hmv ⊢
        have HY80 := Lib.hid (show Below y51.heap.size y51 y79 ∧ Blk y79 v55.heap.size 24 (pmC 0 0 (.slice none 0 0) (.slice none 0 0) (.slice none 0 0)) ∧ Below v55.heap.size v55 y79 ∧ y51.heap.size ≤ v55.heap.size ∧ PmS y79 q (Value.slice x81a0 x81l0 x81c0) (Value.slice x81a1 x81l1 x81c1) (Value.slice x81a2 x81l2 x81c2) ∧ (∀ g w2, g < y77.heap.size → Ch (· = g) y79 w2 → PmS w2 p (Value.slice ra rl rc) (Value.slice qa ql qc) (Value.slice ga gl gc) → PmS w2 q (Value.slice x81a0 x81l0 x81c0) (Value.slice x81a1 x81l1 x81c1) (Value.slice x81a2 x81l2 x81c2)) from ⟨below_thn HY78.out.1 hb (Nat.le_refl _), HY78.out.2.1.below hb HY78.out.2.1.lt, below_thn HY78.out.2.2.1 hb (Nat.le_refl _), HY78.out.2.2.2, hs, hmv⟩)
        clear hs hb hmv
        go_wp2_with fail
        refine QK.normal ⟨fun _ => ⟨rangeAt_blk (HV53.out.2.2.1.below HY80.out.1 HV53.out.2.2.1.lt), rangeAt_blk (HV53.out.2.2.2.1.below HY80.out.1 HV53.out.2.2.2.1.lt), (HV53.out.2.2.2.1.below HY80.out.1 HV53.out.2.2.2.1.lt).cell 1, (HV53.out.2.2.2.1.below HY80.out.1 HV53.out.2.2.2.1.lt).cell 2⟩, ?_⟩
        refine wpAnyM_take0 (by kernel_rfl) noPanic_any (fuel := 4) (fun _ => ⟨rangeAt_blk (HV53.out.2.2.1.below HY80.out.1 HV53.out.2.2.1.lt), rangeAt_blk (HV53.out.2.2.2.1.below HY80.out.1 HV53.out.2.2.2.1.lt), (HV53.out.2.2.2.1.below HY80.out.1 HV53.out.2.2.2.1.lt).cell 1, (HV53.out.2.2.2.1.below HY80.out.1 HV53.out.2.2.2.1.lt).cell 2⟩) 8 (by kernel_rfl) ?_
        refine' HeldL.run ?_ ?_ ?_ ?_; rotate_left 2; (simp only [List.getElem?_toArray, List.getElem?_cons_zero, List.getElem?_cons_succ]; rfl); rfl; (rintro w' -; go_simp; with_reducible rfl); simp only [Act.put, List.setIfInBounds_toArray, List.set_cons_zero, List.set_cons_succ]
        refine wpAnyM_take0 (by kernel_rfl) noPanic_any (fuel := 3) (fun _ => ⟨rangeAt_blk (HV53.out.2.2.1.below HY80.out.1 HV53.out.2.2.1.lt), rangeAt_blk (HV53.out.2.2.2.1.below HY80.out.1 HV53.out.2.2.2.1.lt), (HV53.out.2.2.2.1.below HY80.out.1 HV53.out.2.2.2.1.lt).cell 1, (HV53.out.2.2.2.1.below HY80.out.1 HV53.out.2.2.2.1.lt).cell 2⟩) 9 (by kernel_rfl) ?_
        refine' HeldL.run ?_ ?_ ?_ ?_; rotate_left 2; (simp only [List.getElem?_toArray, List.getElem?_cons_zero, List.getElem?_cons_succ]; rfl); rfl; (rintro w' -; go_simp; with_reducible rfl); simp only [Act.put, List.setIfInBounds_toArray, List.set_cons_zero, List.set_cons_succ]
        refine wpAnyM_take0 (by kernel_rfl) noPanic_any (fuel := 2) (fun _ => ⟨rangeAt_blk (HV53.out.2.2.1.below HY80.out.1 HV53.out.2.2.1.lt), rangeAt_blk (HV53.out.2.2.2.1.below HY80.out.1 HV53.out.2.2.2.1.lt), (HV53.out.2.2.2.1.below HY80.out.1 HV53.out.2.2.2.1.lt).cell 1, (HV53.out.2.2.2.1.below HY80.out.1 HV53.out.2.2.2.1.lt).cell 2⟩) 10 (by kernel_rfl) ?_
        refine' HeldL.run ?_ ?_ ?_ ?_; rotate_left 2; (simp only [List.getElem?_toArray, List.getElem?_cons_zero, List.getElem?_cons_succ]; rfl); rfl; (rintro w' -; go_simp; with_reducible rfl); simp only [Act.put, List.setIfInBounds_toArray, List.set_cons_zero, List.set_cons_succ]
        refine' wpAnyM_one 12 (by kernel_rfl) ?_ ?_; rotate_left; (simp only [List.getElem?_toArray, List.getElem?_cons_zero, List.getElem?_cons_succ]; rfl)
        refine wpList_store_blk y79 rfl 24 (.tmp 7) (.tmp 29) rfl v55.heap.size 24 (pmC 0 0 (.slice none 0 0) (.slice none 0 0) (.slice none 0 0)) (pmC q.o q.e (Value.slice x81a0 x81l0 x81c0) (Value.slice x81a1 x81l1 x81c1) (Value.slice x81a2 x81l2 x81c2)) HY80.out.2.1 rfl rfl rfl (pmC_info _ _ _ _ _) (pmC_one _ _ _ _ _ _ _ _ _ _ _) ?_
        intro y82 hb hc hs
        have hb0 := below_ch HY80.out.1 hc (Nat.le_refl _) (fun k hk => by have e : k = v55.heap.size := hk; have := HY80.out.2.2.2.1; omega)
        have hb2 := below_thn HV53.out.2.1 hb0 (Nat.le_refl _)
        have HY83 := Lib.hid (show Below y51.heap.size y51 y82 ∧ Blk y82 v55.heap.size 24 (pmC q.o q.e (Value.slice x81a0 x81l0 x81c0) (Value.slice x81a1 x81l1 x81c1) (Value.slice x81a2 x81l2 x81c2)) ∧ PmS y82 q (Value.slice x81a0 x81l0 x81c0) (Value.slice x81a1 x81l1 x81c1) (Value.slice x81a2 x81l2 x81c2) from ⟨hb0, hb, HY80.out.2.2.2.2.2 v55.heap.size _ HY78.out.2.1.lt (Ch.trans (Ch.of_below (S := (· = v55.heap.size)) (Below.refl _ _) (Nat.le_refl _)) hc) (HPS.out.below hb2)⟩)
        clear hb hc hs hb0 hb2
        try simp only [Act.put, List.setIfInBounds_toArray, List.set_cons_zero, List.set_cons_succ]
        refine QK.normal ⟨fun h => absurd h (by decide), ?_⟩
        refine' wpAnyM_one 13 (by kernel_rfl) ?_ ?_; rotate_left; (simp only [List.getElem?_toArray, List.getElem?_cons_zero, List.getElem?_cons_succ]; rfl)
        try simp only [Act.put]
        go_wp2_with fail
        refine QK.normal ⟨fun h => absurd h (by decide), ?_⟩
        refine wpAnyM_done (by kernel_rfl) ?_ _
        refine NoPanic.normal ?_
        have HV84 := Lib.hid (show PmS y82 p (Value.slice ra rl rc) (Value.slice qa ql qc) (Value.slice ga gl gc) ∧ Below w.heap.size w y82 ∧ Blk y82 w.heap.size 24 (pmC p.o p.e (Value.slice ra rl rc) (Value.slice qa ql qc) (Value.slice ga gl gc)) ∧ Blk y82 a1.heap.size 35 (act3C act) ∧ Blk y82 y4.heap.size 24 (pmC q.o q.e (Value.slice x50a0 x50l0 x50c0) (Value.slice x50a1 x50l1 x50c1) (Value.slice x50a2 x50l2 x50c2)) ∧ PmS y82 q (Value.slice x50a0 x50l0 x50c0) (Value.slice x50a1 x50l1 x50c1) (Value.slice x50a2 x50l2 x50c2) ∧ Blk y82 v55.heap.size 24 (pmC q.o q.e (Value.slice x81a0 x81l0 x81c0) (Value.slice x81a1 x81l1 x81c1) (Value.slice x81a2 x81l2 x81c2)) ∧ PmS y82 q (Value.slice x81a0 x81l0 x81c0) (Value.slice x81a1 x81l1 x81c1) (Value.slice x81a2 x81l2 x81c2) from ⟨HV53.out.1.below HY83.out.1, below_thn HV53.out.2.1 HY83.out.1 (Nat.le_refl _), HV53.out.2.2.1.below HY83.out.1 HV53.out.2.2.1.lt, HV53.out.2.2.2.1.below HY83.out.1 HV53.out.2.2.2.1.lt, HV53.out.2.2.2.2.1.below HY83.out.1 HV53.out.2.2.2.2.1.lt, HV53.out.2.2.2.2.2.below HY83.out.1, HY83.out.2.1, HY83.out.2.2⟩)
        have ee : (er == er) = true := by simp
        go_wp2_with (first
    | (with_reducible refine wpList_load_any rfl 24 (.tmp 5) rfl y4.heap.size 0 rfl (pmC q.o q.e (Value.slice x50a0 x50l0 x50c0) (Value.slice x50a1 x50l1 x50c1) (Value.slice x50a2 x50l2 x50c2)) _ (rangeW_blk HV84.out.2.2.2.2.1) Try.underlying24 rfl (pmC_info _ _ _ _ _) ?_)
    | ((with_reducible refine wpList_load_want ?_ 24 (.tmp 5) rfl y4.heap.size 0 rfl (pmC q.o q.e (Value.slice x50a0 x50l0 x50c0) (Value.slice x50a1 x50l1 x50c1) (Value.slice x50a2 x50l2 x50c2)) _ (rangeW_blk HV84.out.2.2.2.2.1) Try.underlying24 rfl (pmC_info _ _ _ _ _) ?_); focus rfl)
    | (with_reducible refine wpList_load_any rfl 24 (.tmp 7) rfl v55.heap.size 0 rfl (pmC q.o q.e (Value.slice x81a0 x81l0 x81c0) (Value.slice x81a1 x81l1 x81c1) (Value.slice x81a2 x81l2 x81c2)) _ (rangeW_blk HV84.out.2.2.2.2.2.2.1) Try.underlying24 rfl (pmC_info _ _ _ _ _) ?_)
    | ((with_reducible refine wpList_load_want ?_ 24 (.tmp 7) rfl v55.heap.size 0 rfl (pmC q.o q.e (Value.slice x81a0 x81l0 x81c0) (Value.slice x81a1 x81l1 x81c1) (Value.slice x81a2 x81l2 x81c2)) _ (rangeW_blk HV84.out.2.2.2.2.2.2.1) Try.underlying24 rfl (pmC_info _ _ _ _ _) ?_); focus rfl))
        have hx := rsame_any q q _ _ _ _ _ _ y82 HV84.out.2.2.2.2.2.1 HV84.out.2.2.2.2.2.2.2
        rw [same_self] at hx
        refine Calls.mono hx ?_
        clear hx
        rintro e' y9 ⟨rfl, hb⟩
        have hb9 := below_thn HV84.out.2.1 hb (Nat.le_refl _)
        clear hb
        go_wp2_with fail
        go_ret
        exact ⟨rfl, hb9⟩
  · skip
    refine wpList_alloc_blk v2 rfl 24 rfl (pmC 0 0 (.slice none 0 0) (.slice none 0 0) (.slice none 0 0)) Try.zeroPm ?_
    intro y85 hb hbel hsz
    have HY86 := Lib.hid (show Below y2.heap.size y2 y85 ∧ Blk y85 v2.heap.size 24 (pmC 0 0 (.slice none 0 0) (.slice none 0 0) (.slice none 0 0)) ∧ Below v2.heap.size v2 y85 ∧ y2.heap.size ≤ v2.heap.size from ⟨below_thn HV3.out hbel (Nat.le_refl _), hb, hbel, HV3.out.size⟩)
    clear hb hbel hsz
    try simp only [Act.put, List.setIfInBounds_toArray, List.set_cons_zero, List.set_cons_succ]
    refine QK.normal ⟨fun _ => ⟨rangeAt_blk (HY2.out.2.2.1.below HY86.out.1 HY2.out.2.2.1.lt), rangeAt_blk (HY2.out.2.2.2.below HY86.out.1 HY2.out.2.2.2.lt)⟩, ?_⟩
    refine' wpAnyM_one 1 (by kernel_rfl) ?_ ?_; rotate_left; (simp only [List.getElem?_toArray, List.getElem?_cons_zero, List.getElem?_cons_succ]; rfl)
    try simp only [Act.put]
    go_wp2_with fail
    refine (copied_any p _ _ _ y85 (HY2.out.1.below HY86.out.1) HLEN.out).mono ?_
    rintro e' y87 ⟨x89r, x89q, x89g, rfl, hs, hb, -⟩
    obtain ⟨x89a0, x89c0, rfl, -⟩ := hs.1.shape
    obtain ⟨x89a1, x89c1, rfl, -⟩ := hs.2.1.shape
    obtain ⟨x89a2, x89c2, rfl, -⟩ := hs.2.2.shape
    generalize (ofK .i64 p.r).length = x89l0 at hs  ⊢
    generalize (ofK .i64 p.q).length = x89l1 at hs  ⊢
    generalize (ofK .i64 p.g).length = x89l2 at hs  ⊢
    have HY88 := Lib.hid (show Below y2.heap.size y2 y87 ∧ Blk y87 v2.heap.size 24 (pmC 0 0 (.slice none 0 0) (.slice none 0 0) (.slice none 0 0)) ∧ Below v2.heap.size v2 y87 ∧ y2.heap.size ≤ v2.heap.size ∧ PmS y87 p (Value.slice x89a0 x89l0 x89c0) (Value.slice x89a1 x89l1 x89c1) (Value.slice x89a2 x89l2 x89c2) from ⟨below_thn HY86.out.1 hb (Nat.le_refl _), HY86.out.2.1.below hb HY86.out.2.1.lt, below_thn HY86.out.2.2.1 hb (Nat.le_refl _), HY86.out.2.2.2, hs⟩)
    clear hs hb
    go_wp2_with fail
    refine QK.normal ⟨fun _ => ⟨rangeAt_blk (HY2.out.2.2.1.below HY88.out.1 HY2.out.2.2.1.lt), rangeAt_blk (HY2.out.2.2.2.below HY88.out.1 HY2.out.2.2.2.lt)⟩, ?_⟩
    refine' wpAnyM_one 3 (by kernel_rfl) ?_ ?_; rotate_left; (simp only [List.getElem?_toArray, List.getElem?_cons_zero, List.getElem?_cons_succ]; rfl)
    try simp only [Act.put]
    go_wp2_with fail
    have hx := do_any p act _ _ _ y87 HY88.out.2.2.2.2 HLEN.out HAO.out
    rw [HR.out] at hx
    refine (calls_perm hx).mono ?_
    clear hx
    rintro e' y90 ⟨x92r, x92q, x92g, rfl, hs, hb, hab⟩
    obtain ⟨x92a0, x92c0, rfl, -⟩ := hs.1.shape
    obtain ⟨x92a1, x92c1, rfl, -⟩ := hs.2.1.shape
    obtain ⟨x92a2, x92c2, rfl, -⟩ := hs.2.2.shape
    generalize (ofK .i64 q.r).length = x92l0 at hs hab ⊢
    generalize (ofK .i64 q.q).length = x92l1 at hs hab ⊢
    generalize (ofK .i64 q.g).length = x92l2 at hs hab ⊢
    have HY91 := Lib.hid (show Below y2.heap.size y2 y90 ∧ Blk y90 v2.heap.size 24 (pmC 0 0 (.slice none 0 0) (.slice none 0 0) (.slice none 0 0)) ∧ Below v2.heap.size v2 y90 ∧ y2.heap.size ≤ v2.heap.size ∧ PmS y90 q (Value.slice x92a0 x92l0 x92c0) (Value.slice x92a1 x92l1 x92c1) (Value.slice x92a2 x92l2 x92c2) ∧ AbvS y87.heap.size (Value.slice x92a0 x92l0 x92c0) (Value.slice x92a1 x92l1 x92c1) (Value.slice x92a2 x92l2 x92c2) from ⟨below_thn HY88.out.1 hb (Nat.le_refl _), HY88.out.2.1.below hb HY88.out.2.1.lt, below_thn HY88.out.2.2.1 hb (Nat.le_refl _), HY88.out.2.2.2.1, hs, hab⟩)
    clear hs hb hab
    go_wp2_with fail
    refine QK.normal ⟨fun _ => ⟨rangeAt_blk (HY2.out.2.2.1.below HY91.out.1 HY2.out.2.2.1.lt), rangeAt_blk (HY2.out.2.2.2.below HY91.out.1 HY2.out.2.2.2.lt)⟩, ?_⟩
    refine wpAnyM_take0 (by kernel_rfl) noPanic_any (fuel := 4) (fun _ => ⟨rangeAt_blk (HY2.out.2.2.1.below HY91.out.1 HY2.out.2.2.1.lt), rangeAt_blk (HY2.out.2.2.2.below HY91.out.1 HY2.out.2.2.2.lt)⟩) 4 (by kernel_rfl) ?_
    refine' HeldL.run ?_ ?_ ?_ ?_; rotate_left 2; (simp only [List.getElem?_toArray, List.getElem?_cons_zero, List.getElem?_cons_succ]; rfl); rfl; (rintro w' -; go_simp; with_reducible rfl); simp only [Act.put, List.setIfInBounds_toArray, List.set_cons_zero, List.set_cons_succ]
    refine wpAnyM_take0 (by kernel_rfl) noPanic_any (fuel := 3) (fun _ => ⟨rangeAt_blk (HY2.out.2.2.1.below HY91.out.1 HY2.out.2.2.1.lt), rangeAt_blk (HY2.out.2.2.2.below HY91.out.1 HY2.out.2.2.2.lt)⟩) 5 (by kernel_rfl) ?_
    refine' HeldL.run ?_ ?_ ?_ ?_; rotate_left 2; (simp only [List.getElem?_toArray, List.getElem?_cons_zero, List.getElem?_cons_succ]; rfl); rfl; (rintro w' -; go_simp; with_reducible rfl); simp only [Act.put, List.setIfInBounds_toArray, List.set_cons_zero, List.set_cons_succ]
    refine wpAnyM_take0 (by kernel_rfl) noPanic_any (fuel := 2) (fun _ => ⟨rangeAt_blk (HY2.out.2.2.1.below HY91.out.1 HY2.out.2.2.1.lt), rangeAt_blk (HY2.out.2.2.2.below HY91.out.1 HY2.out.2.2.2.lt)⟩) 6 (by kernel_rfl) ?_
    refine' HeldL.run ?_ ?_ ?_ ?_; rotate_left 2; (simp only [List.getElem?_toArray, List.getElem?_cons_zero, List.getElem?_cons_succ]; rfl); rfl; (rintro w' -; go_simp; with_reducible rfl); simp only [Act.put, List.setIfInBounds_toArray, List.set_cons_zero, List.set_cons_succ]
    refine' wpAnyM_one 8 (by kernel_rfl) ?_ ?_; rotate_left; (simp only [List.getElem?_toArray, List.getElem?_cons_zero, List.getElem?_cons_succ]; rfl)
    refine wpList_store_blk y90 rfl 24 (.tmp 5) (.tmp 18) rfl v2.heap.size 24 (pmC 0 0 (.slice none 0 0) (.slice none 0 0) (.slice none 0 0)) (pmC q.o q.e (Value.slice x92a0 x92l0 x92c0) (Value.slice x92a1 x92l1 x92c1) (Value.slice x92a2 x92l2 x92c2)) HY91.out.2.1 rfl rfl rfl (pmC_info _ _ _ _ _) (pmC_one _ _ _ _ _ _ _ _ _ _ _) ?_
    intro y93 hb hc hs
    have hb0 := below_ch HY91.out.1 hc (Nat.le_refl _) (fun k hk => by have e : k = v2.heap.size := hk; have := HY91.out.2.2.2.1; omega)
    have HY94 := Lib.hid (show Below y2.heap.size y2 y93 ∧ Blk y93 v2.heap.size 24 (pmC q.o q.e (Value.slice x92a0 x92l0 x92c0) (Value.slice x92a1 x92l1 x92c1) (Value.slice x92a2 x92l2 x92c2)) ∧ PmS y93 q (Value.slice x92a0 x92l0 x92c0) (Value.slice x92a1 x92l1 x92c1) (Value.slice x92a2 x92l2 x92c2) from ⟨hb0, hb, HY91.out.2.2.2.2.1.ch hc (off_abv HY91.out.2.2.2.2.2 HY88.out.2.1.lt)⟩)
    clear hb hc hs hb0
    try simp only [Act.put, List.setIfInBounds_toArray, List.set_cons_zero, List.set_cons_succ]
    refine QK.normal ⟨fun h => absurd h (by decide), ?_⟩
    refine' wpAnyM_one 9 (by kernel_rfl) ?_ ?_; rotate_left; (simp only [List.getElem?_toArray, List.getElem?_cons_zero, List.getElem?_cons_succ]; rfl)
    try simp only [Act.put]
    go_wp2_with fail
    refine QK.normal ⟨fun h => absurd h (by decide), ?_⟩
    refine wpAnyM_done (by kernel_rfl) ?_ _
    refine NoPanic.normal ?_
    go_wp2_with fail
    have HV95 := Lib.hid (show PmS y93 p (Value.slice ra rl rc) (Value.slice qa ql qc) (Value.slice ga gl gc) ∧ Below w.heap.size w y93 ∧ Blk y93 w.heap.size 24 (pmC p.o p.e (Value.slice ra rl rc) (Value.slice qa ql qc) (Value.slice ga gl gc)) ∧ Blk y93 a1.heap.size 35 (act3C act) ∧ Blk y93 v2.heap.size 24 (pmC q.o q.e (Value.slice x92a0 x92l0 x92c0) (Value.slice x92a1 x92l1 x92c1) (Value.slice x92a2 x92l2 x92c2)) ∧ PmS y93 q (Value.slice x92a0 x92l0 x92c0) (Value.slice x92a1 x92l1 x92c1) (Value.slice x92a2 x92l2 x92c2) from ⟨HY2.out.1.below HY94.out.1, below_thn HY2.out.2.1 HY94.out.1 (Nat.le_refl _), HY2.out.2.2.1.below HY94.out.1 HY2.out.2.2.1.lt, HY2.out.2.2.2.below HY94.out.1 HY2.out.2.2.2.lt, HY94.out.2.1, HY94.out.2.2⟩)
    have HB96 := Lib.hid (Below.refl y93.heap.size y93)
    go_wp2_with fail
    refine wp_region_marked (fun w' => w'.rangeAt w.heap.size 0 (pmC p.o p.e (Value.slice ra rl rc) (Value.slice qa ql qc) (Value.slice ga gl gc)) ∧ w'.rangeAt a1.heap.size 0 (act3C act) ∧ w'.cell? ⟨a1.heap.size, 1, none⟩ = some (.int .i64 act.b) ∧ w'.cell? ⟨a1.heap.size, 2, none⟩ = some (.int .i64 act.n)) 12 [0, 1, 3, 4, 5, 6] 8 (by kernel_rfl) rfl (by kernel_rfl) (by kernel_rfl) ⟨rangeAt_blk HV95.out.2.2.1, rangeAt_blk HV95.out.2.2.2.1, HV95.out.2.2.2.1.cell 1, HV95.out.2.2.2.1.cell 2⟩ ?_
    iterate 6 (refine' HeldL.run ?_ ?_ ?_ ?_; rotate_left 2; (simp only [List.getElem?_toArray, List.getElem?_cons_zero, List.getElem?_cons_succ]; rfl); rfl; (rintro w' ⟨k0, k1, k2, k3⟩; first | (go_simp; with_reducible rfl) | exact exec_load_mid rfl rfl k0 Try.underlying24 rfl (pmC_info _ _ _ _ _) | exact exec_load_mid rfl rfl k1 Try.underlying35 rfl (act3C_info _)); simp only [Act.put, List.setIfInBounds_toArray, List.set_cons_zero, List.set_cons_succ])
    have sm := (Sm.refl y93).drew
    have HV98 := Lib.hid (show Below y93.heap.size y93 y93.drew from below_thn HB96.out (sm.below _) (Nat.le_refl _))
    clear sm
    generalize y93.drew = v97 at HV98 ⊢
    refine' wpAnyM_two 2 11 (by kernel_rfl) ?_ ?_ ?_ ?_; rotate_left 2; (simp only [List.getElem?_toArray, List.getElem?_cons_zero, List.getElem?_cons_succ]; rfl); (simp only [List.getElem?_toArray, List.getElem?_cons_zero, List.getElem?_cons_succ]; rfl)
    · skip
      try simp only [Act.put]
      go_wp2_with fail
      refine (kind_any act v97 HAO.out).mono ?_
      rintro e' y99 ⟨rfl, hb⟩
      have HY100 := Lib.hid (show Below y93.heap.size y93 y99 from below_thn HV98.out hb (Nat.le_refl _))
      clear hb
      go_wp2_with fail
      refine QK.normal ⟨fun _ => ⟨rangeAt_blk (HV95.out.2.2.1.below HY100.out HV95.out.2.2.1.lt), rangeAt_blk (HV95.out.2.2.2.1.below HY100.out HV95.out.2.2.2.1.lt), (HV95.out.2.2.2.1.below HY100.out HV95.out.2.2.2.1.lt).cell 1, (HV95.out.2.2.2.1.below HY100.out HV95.out.2.2.2.1.lt).cell 2⟩, ?_⟩
      refine' wpAnyM_two 7 11 (by kernel_rfl) ?_ ?_ ?_ ?_; rotate_left 2; (simp only [List.getElem?_toArray, List.getElem?_cons_zero, List.getElem?_cons_succ]; rfl); (simp only [List.getElem?_toArray, List.getElem?_cons_zero, List.getElem?_cons_succ]; rfl)
      · skip
        try simp only [Act.put]
        go_wp2_with fail
        have hx := rchange_any p _ _ _ act y99 (HV95.out.1.below HY100.out)
        rw [HR.out] at hx
        refine (calls_ref hx).mono ?_
        clear hx
        rintro e' y101 ⟨x103r, x103q, x103g, rfl, hs, hb, hmv⟩
        obtain ⟨x103a0, x103c0, rfl, -⟩ := hs.1.shape
        obtain ⟨x103a1, x103c1, rfl, -⟩ := hs.2.1.shape
        obtain ⟨x103a2, x103c2, rfl, -⟩ := hs.2.2.shape
        generalize (ofK .i64 q.r).length = x103l0 at hs hmv ⊢
        generalize (ofK .i64 q.q).length = x103l1 at hs hmv ⊢
        generalize (ofK .i64 q.g).length = x103l2 at hs hmv ⊢
        have HY102 := Lib.hid (show Below y93.heap.size y93 y101 ∧ PmS y101 q (Value.slice x103a0 x103l0 x103c0) (Value.slice x103a1 x103l1 x103c1) (Value.slice x103a2 x103l2 x103c2) ∧ (∀ g w2, g < y99.heap.size → Ch (· = g) y101 w2 → PmS w2 p (Value.slice ra rl rc) (Value.slice qa ql qc) (Value.slice ga gl gc) → PmS w2 q (Value.slice x103a0 x103l0 x103c0) (Value.slice x103a1 x103l1 x103c1) (Value.slice x103a2 x103l2 x103c2)) from ⟨below_thn HY100.out hb (Nat.le_refl _), hs, hmv⟩)
        clear hs hb hmv
        go_wp2_with fail
        refine QK.normal ⟨fun _ => ⟨rangeAt_blk (HV95.out.2.2.1.below HY102.out.1 HV95.out.2.2.1.lt), rangeAt_blk (HV95.out.2.2.2.1.below HY102.out.1 HV95.out.2.2.2.1.lt), (HV95.out.2.2.2.1.below HY102.out.1 HV95.out.2.2.2.1.lt).cell 1, (HV95.out.2.2.2.1.below HY102.out.1 HV95.out.2.2.2.1.lt).cell 2⟩, ?_⟩
        refine wpAnyM_take0 (by kernel_rfl) noPanic_any (fuel := 5) (fun _ => ⟨rangeAt_blk (HV95.out.2.2.1.below HY102.out.1 HV95.out.2.2.1.lt), rangeAt_blk (HV95.out.2.2.2.1.below HY102.out.1 HV95.out.2.2.2.1.lt), (HV95.out.2.2.2.1.below HY102.out.1 HV95.out.2.2.2.1.lt).cell 1, (HV95.out.2.2.2.1.below HY102.out.1 HV95.out.2.2.2.1.lt).cell 2⟩) 8 (by kernel_rfl) ?_
        refine' HeldL.run ?_ ?_ ?_ ?_; rotate_left 2; (simp only [List.getElem?_toArray, List.getElem?_cons_zero, List.getElem?_cons_succ]; rfl); rfl; (rintro w' -; go_simp; with_reducible rfl); simp only [Act.put, List.setIfInBounds_toArray, List.set_cons_zero, List.set_cons_succ]
        refine wpAnyM_take0 (by kernel_rfl) noPanic_any (fuel := 4) (fun _ => ⟨rangeAt_blk (HV95.out.2.2.1.below HY102.out.1 HV95.out.2.2.1.lt), rangeAt_blk (HV95.out.2.2.2.1.below HY102.out.1 HV95.out.2.2.2.1.lt), (HV95.out.2.2.2.1.below HY102.out.1 HV95.out.2.2.2.1.lt).cell 1, (HV95.out.2.2.2.1.below HY102.out.1 HV95.out.2.2.2.1.lt).cell 2⟩) 9 (by kernel_rfl) ?_
        refine' HeldL.run ?_ ?_ ?_ ?_; rotate_left 2; (simp only [List.getElem?_toArray, List.getElem?_cons_zero, List.getElem?_cons_succ]; rfl); rfl; (rintro w' -; go_simp; with_reducible rfl); simp only [Act.put, List.setIfInBounds_toArray, List.set_cons_zero, List.set_cons_succ]
        refine wpAnyM_take0 (by kernel_rfl) noPanic_any (fuel := 3) (fun _ => ⟨rangeAt_blk (HV95.out.2.2.1.below HY102.out.1 HV95.out.2.2.1.lt), rangeAt_blk (HV95.out.2.2.2.1.below HY102.out.1 HV95.out.2.2.2.1.lt), (HV95.out.2.2.2.1.below HY102.out.1 HV95.out.2.2.2.1.lt).cell 1, (HV95.out.2.2.2.1.below HY102.out.1 HV95.out.2.2.2.1.lt).cell 2⟩) 10 (by kernel_rfl) ?_
        refine' HeldL.run ?_ ?_ ?_ ?_; rotate_left 2; (simp only [List.getElem?_toArray, List.getElem?_cons_zero, List.getElem?_cons_succ]; rfl); rfl; (rintro w' -; go_simp; with_reducible rfl); simp only [Act.put, List.setIfInBounds_toArray, List.set_cons_zero, List.set_cons_succ]
        refine' wpAnyM_one 11 (by kernel_rfl) ?_ ?_; rotate_left; (simp only [List.getElem?_toArray, List.getElem?_cons_zero, List.getElem?_cons_succ]; rfl)
        refine wpList_alloc_blk y101 rfl 24 rfl (pmC 0 0 (.slice none 0 0) (.slice none 0 0) (.slice none 0 0)) Try.zeroPm ?_
        intro y104 hb hbel hsz
        have HY105 := Lib.hid (show Below y93.heap.size y93 y104 ∧ PmS y104 q (Value.slice x103a0 x103l0 x103c0) (Value.slice x103a1 x103l1 x103c1) (Value.slice x103a2 x103l2 x103c2) ∧ (∀ g w2, g < y99.heap.size → Ch (· = g) y104 w2 → PmS w2 p (Value.slice ra rl rc) (Value.slice qa ql qc) (Value.slice ga gl gc) → PmS w2 q (Value.slice x103a0 x103l0 x103c0) (Value.slice x103a1 x103l1 x103c1) (Value.slice x103a2 x103l2 x103c2)) ∧ Blk y104 y101.heap.size 24 (pmC 0 0 (.slice none 0 0) (.slice none 0 0) (.slice none 0 0)) ∧ Below y101.heap.size y101 y104 ∧ y93.heap.size ≤ y101.heap.size from ⟨below_thn HY102.out.1 hbel (Nat.le_refl _), HY102.out.2.1.below hbel, (fun g w2 hg hc h => HY102.out.2.2 g w2 hg (Ch.trans (Ch.of_below hbel (Nat.le_refl _)) hc) h), hb, hbel, HY102.out.1.size⟩)
        clear hb hbel hsz
        try simp only [Act.put, List.setIfInBounds_toArray, List.set_cons_zero, List.set_cons_succ]
        refine QK.normal ⟨fun _ => ⟨rangeAt_blk (HV95.out.2.2.1.below HY105.out.1 HV95.out.2.2.1.lt), rangeAt_blk (HV95.out.2.2.2.1.below HY105.out.1 HV95.out.2.2.2.1.lt), (HV95.out.2.2.2.1.below HY105.out.1 HV95.out.2.2.2.1.lt).cell 1, (HV95.out.2.2.2.1.below HY105.out.1 HV95.out.2.2.2.1.lt).cell 2⟩, ?_⟩
        refine' wpAnyM_one 12 (by kernel_rfl) ?_ ?_; rotate_left; (simp only [List.getElem?_toArray, List.getElem?_cons_zero, List.getElem?_cons_succ]; rfl)
        refine wpList_store_blk y104 rfl 24 (.tmp 7) (.tmp 29) rfl y101.heap.size 24 (pmC 0 0 (.slice none 0 0) (.slice none 0 0) (.slice none 0 0)) (pmC q.o q.e (Value.slice x103a0 x103l0 x103c0) (Value.slice x103a1 x103l1 x103c1) (Value.slice x103a2 x103l2 x103c2)) HY105.out.2.2.2.1 rfl rfl rfl (pmC_info _ _ _ _ _) (pmC_one _ _ _ _ _ _ _ _ _ _ _) ?_
        intro y106 hb hc hs
        have hb0 := below_ch HY105.out.1 hc (Nat.le_refl _) (fun k hk => by have e : k = y101.heap.size := hk; have := HY105.out.2.2.2.2.2; omega)
        have HY107 := Lib.hid (show Below y93.heap.size y93 y106 ∧ Blk y106 y101.heap.size 24 (pmC q.o q.e (Value.slice x103a0 x103l0 x103c0) (Value.slice x103a1 x103l1 x103c1) (Value.slice x103a2 x103l2 x103c2)) ∧ PmS y106 q (Value.slice x103a0 x103l0 x103c0) (Value.slice x103a1 x103l1 x103c1) (Value.slice x103a2 x103l2 x103c2) from ⟨hb0, hb, HY102.out.2.1.below (below_ch HY105.out.2.2.2.2.1 hc (Nat.le_refl _) (fun k hk => by have e : k = y101.heap.size := hk; omega))⟩)
        clear hb hc hs hb0
        try simp only [Act.put, List.setIfInBounds_toArray, List.set_cons_zero, List.set_cons_succ]
        refine QK.normal ⟨fun h => absurd h (by decide), ?_⟩
        refine' wpAnyM_one 13 (by kernel_rfl) ?_ ?_; rotate_left; (simp only [List.getElem?_toArray, List.getElem?_cons_zero, List.getElem?_cons_succ]; rfl)
        try simp only [Act.put]
        go_wp2_with fail
        refine QK.normal ⟨fun h => absurd h (by decide), ?_⟩
        refine wpAnyM_done (by kernel_rfl) ?_ _
        refine NoPanic.normal ?_
        have HV108 := Lib.hid (show PmS y106 p (Value.slice ra rl rc) (Value.slice qa ql qc) (Value.slice ga gl gc) ∧ Below w.heap.size w y106 ∧ Blk y106 w.heap.size 24 (pmC p.o p.e (Value.slice ra rl rc) (Value.slice qa ql qc) (Value.slice ga gl gc)) ∧ Blk y106 a1.heap.size 35 (act3C act) ∧ Blk y106 v2.heap.size 24 (pmC q.o q.e (Value.slice x92a0 x92l0 x92c0) (Value.slice x92a1 x92l1 x92c1) (Value.slice x92a2 x92l2 x92c2)) ∧ PmS y106 q (Value.slice x92a0 x92l0 x92c0) (Value.slice x92a1 x92l1 x92c1) (Value.slice x92a2 x92l2 x92c2) ∧ Blk y106 y101.heap.size 24 (pmC q.o q.e (Value.slice x103a0 x103l0 x103c0) (Value.slice x103a1 x103l1 x103c1) (Value.slice x103a2 x103l2 x103c2)) ∧ PmS y106 q (Value.slice x103a0 x103l0 x103c0) (Value.slice x103a1 x103l1 x103c1) (Value.slice x103a2 x103l2 x103c2) from ⟨HV95.out.1.below HY107.out.1, below_thn HV95.out.2.1 HY107.out.1 (Nat.le_refl _), HV95.out.2.2.1.below HY107.out.1 HV95.out.2.2.1.lt, HV95.out.2.2.2.1.below HY107.out.1 HV95.out.2.2.2.1.lt, HV95.out.2.2.2.2.1.below HY107.out.1 HV95.out.2.2.2.2.1.lt, HV95.out.2.2.2.2.2.below HY107.out.1, HY107.out.2.1, HY107.out.2.2⟩)
        have ee : (er == er) = true := by simp
        go_wp2_with (first
    | (with_reducible refine wpList_load_any rfl 24 (.tmp 5) rfl v2.heap.size 0 rfl (pmC q.o q.e (Value.slice x92a0 x92l0 x92c0) (Value.slice x92a1 x92l1 x92c1) (Value.slice x92a2 x92l2 x92c2)) _ (rangeW_blk HV108.out.2.2.2.2.1) Try.underlying24 rfl (pmC_info _ _ _ _ _) ?_)
    | ((with_reducible refine wpList_load_want ?_ 24 (.tmp 5) rfl v2.heap.size 0 rfl (pmC q.o q.e (Value.slice x92a0 x92l0 x92c0) (Value.slice x92a1 x92l1 x92c1) (Value.slice x92a2 x92l2 x92c2)) _ (rangeW_blk HV108.out.2.2.2.2.1) Try.underlying24 rfl (pmC_info _ _ _ _ _) ?_); focus rfl)
    | (with_reducible refine wpList_load_any rfl 24 (.tmp 7) rfl y101.heap.size 0 rfl (pmC q.o q.e (Value.slice x103a0 x103l0 x103c0) (Value.slice x103a1 x103l1 x103c1) (Value.slice x103a2 x103l2 x103c2)) _ (rangeW_blk HV108.out.2.2.2.2.2.2.1) Try.underlying24 rfl (pmC_info _ _ _ _ _) ?_)
    | ((with_reducible refine wpList_load_want ?_ 24 (.tmp 7) rfl y101.heap.size 0 rfl (pmC q.o q.e (Value.slice x103a0 x103l0 x103c0) (Value.slice x103a1 x103l1 x103c1) (Value.slice x103a2 x103l2 x103c2)) _ (rangeW_blk HV108.out.2.2.2.2.2.2.1) Try.underlying24 rfl (pmC_info _ _ _ _ _) ?_); focus rfl))
        have hx := rsame_any q q _ _ _ _ _ _ y106 HV108.out.2.2.2.2.2.1 HV108.out.2.2.2.2.2.2.2
        rw [same_self] at hx
        refine Calls.mono hx ?_
        clear hx
        rintro e' y9 ⟨rfl, hb⟩
        have hb9 := below_thn HV108.out.2.1 hb (Nat.le_refl _)
        clear hb
        go_wp2_with fail
        go_ret
        exact ⟨rfl, hb9⟩
      · skip
        refine wpList_alloc_blk y99 rfl 24 rfl (pmC 0 0 (.slice none 0 0) (.slice none 0 0) (.slice none 0 0)) Try.zeroPm ?_
        intro y109 hb hbel hsz
        have HY110 := Lib.hid (show Below y93.heap.size y93 y109 ∧ Blk y109 y99.heap.size 24 (pmC 0 0 (.slice none 0 0) (.slice none 0 0) (.slice none 0 0)) ∧ Below y99.heap.size y99 y109 ∧ y93.heap.size ≤ y99.heap.size from ⟨below_thn HY100.out hbel (Nat.le_refl _), hb, hbel, HY100.out.size⟩)
        clear hb hbel hsz
        try simp only [Act.put, List.setIfInBounds_toArray, List.set_cons_zero, List.set_cons_succ]
        refine QK.normal ⟨fun _ => ⟨rangeAt_blk (HV95.out.2.2.1.below HY110.out.1 HV95.out.2.2.1.lt), rangeAt_blk (HV95.out.2.2.2.1.below HY110.out.1 HV95.out.2.2.2.1.lt), (HV95.out.2.2.2.1.below HY110.out.1 HV95.out.2.2.2.1.lt).cell 1, (HV95.out.2.2.2.1.below HY110.out.1 HV95.out.2.2.2.1.lt).cell 2⟩, ?_⟩
        refine' wpAnyM_one 7 (by kernel_rfl) ?_ ?_; rotate_left; (simp only [List.getElem?_toArray, List.getElem?_cons_zero, List.getElem?_cons_succ]; rfl)
        try simp only [Act.put]
        go_wp2_with fail
        have hx := rchange_any p _ _ _ act y109 (HV95.out.1.below HY110.out.1)
        rw [HR.out] at hx
        refine (calls_ref hx).mono ?_
        clear hx
        rintro e' y111 ⟨x113r, x113q, x113g, rfl, hs, hb, hmv⟩
        obtain ⟨x113a0, x113c0, rfl, -⟩ := hs.1.shape
        obtain ⟨x113a1, x113c1, rfl, -⟩ := hs.2.1.shape
        obtain ⟨x113a2, x113c2, rfl, -⟩ := hs.2.2.shape
        generalize (ofK .i64 q.r).length = x113l0 at hs hmv ⊢
        generalize (ofK .i64 q.q).length = x113l1 at hs hmv ⊢
        generalize (ofK .i64 q.g).length = x113l2 at hs hmv ⊢
        have HY112 := Lib.hid (show Below y93.heap.size y93 y111 ∧ Blk y111 y99.heap.size 24 (pmC 0 0 (.slice none 0 0) (.slice none 0 0) (.slice none 0 0)) ∧ Below y99.heap.size y99 y111 ∧ y93.heap.size ≤ y99.heap.size ∧ PmS y111 q (Value.slice x113a0 x113l0 x113c0) (Value.slice x113a1 x113l1 x113c1) (Value.slice x113a2 x113l2 x113c2) ∧ (∀ g w2, g < y109.heap.size → Ch (· = g) y111 w2 → PmS w2 p (Value.slice ra rl rc) (Value.slice qa ql qc) (Value.slice ga gl gc) → PmS w2 q (Value.slice x113a0 x113l0 x113c0) (Value.slice x113a1 x113l1 x113c1) (Value.slice x113a2 x113l2 x113c2)) from ⟨below_thn HY110.out.1 hb (Nat.le_refl _), HY110.out.2.1.below hb HY110.out.2.1.lt, below_thn HY110.out.2.2.1 hb (Nat.le_refl _), HY110.out.2.2.2, hs, hmv⟩)
        clear hs hb hmv
        go_wp2_with fail
        refine QK.normal ⟨fun _ => ⟨rangeAt_blk (HV95.out.2.2.1.below HY112.out.1 HV95.out.2.2.1.lt), rangeAt_blk (HV95.out.2.2.2.1.below HY112.out.1 HV95.out.2.2.2.1.lt), (HV95.out.2.2.2.1.below HY112.out.1 HV95.out.2.2.2.1.lt).cell 1, (HV95.out.2.2.2.1.below HY112.out.1 HV95.out.2.2.2.1.lt).cell 2⟩, ?_⟩
        refine wpAnyM_take0 (by kernel_rfl) noPanic_any (fuel := 4) (fun _ => ⟨rangeAt_blk (HV95.out.2.2.1.below HY112.out.1 HV95.out.2.2.1.lt), rangeAt_blk (HV95.out.2.2.2.1.below HY112.out.1 HV95.out.2.2.2.1.lt), (HV95.out.2.2.2.1.below HY112.out.1 HV95.out.2.2.2.1.lt).cell 1, (HV95.out.2.2.2.1.below HY112.out.1 HV95.out.2.2.2.1.lt).cell 2⟩) 8 (by kernel_rfl) ?_
        refine' HeldL.run ?_ ?_ ?_ ?_; rotate_left 2; (simp only [List.getElem?_toArray, List.getElem?_cons_zero, List.getElem?_cons_succ]; rfl); rfl; (rintro w' -; go_simp; with_reducible rfl); simp only [Act.put, List.setIfInBounds_toArray, List.set_cons_zero, List.set_cons_succ]
        refine wpAnyM_take0 (by kernel_rfl) noPanic_any (fuel := 3) (fun _ => ⟨rangeAt_blk (HV95.out.2.2.1.below HY112.out.1 HV95.out.2.2.1.lt), rangeAt_blk (HV95.out.2.2.2.1.below HY112.out.1 HV95.out.2.2.2.1.lt), (HV95.out.2.2.2.1.below HY112.out.1 HV95.out.2.2.2.1.lt).cell 1, (HV95.out.2.2.2.1.below HY112.out.1 HV95.out.2.2.2.1.lt).cell 2⟩) 9 (by kernel_rfl) ?_
        refine' HeldL.run ?_ ?_ ?_ ?_; rotate_left 2; (simp only [List.getElem?_toArray, List.getElem?_cons_zero, List.getElem?_cons_succ]; rfl); rfl; (rintro w' -; go_simp; with_reducible rfl); simp only [Act.put, List.setIfInBounds_toArray, List.set_cons_zero, List.set_cons_succ]
        refine wpAnyM_take0 (by kernel_rfl) noPanic_any (fuel := 2) (fun _ => ⟨rangeAt_blk (HV95.out.2.2.1.below HY112.out.1 HV95.out.2.2.1.lt), rangeAt_blk (HV95.out.2.2.2.1.below HY112.out.1 HV95.out.2.2.2.1.lt), (HV95.out.2.2.2.1.below HY112.out.1 HV95.out.2.2.2.1.lt).cell 1, (HV95.out.2.2.2.1.below HY112.out.1 HV95.out.2.2.2.1.lt).cell 2⟩) 10 (by kernel_rfl) ?_
        refine' HeldL.run ?_ ?_ ?_ ?_; rotate_left 2; (simp only [List.getElem?_toArray, List.getElem?_cons_zero, List.getElem?_cons_succ]; rfl); rfl; (rintro w' -; go_simp; with_reducible rfl); simp only [Act.put, List.setIfInBounds_toArray, List.set_cons_zero, List.set_cons_succ]
        refine' wpAnyM_one 12 (by kernel_rfl) ?_ ?_; rotate_left; (simp only [List.getElem?_toArray, List.getElem?_cons_zero, List.getElem?_cons_succ]; rfl)
        refine wpList_store_blk y111 rfl 24 (.tmp 7) (.tmp 29) rfl y99.heap.size 24 (pmC 0 0 (.slice none 0 0) (.slice none 0 0) (.slice none 0 0)) (pmC q.o q.e (Value.slice x113a0 x113l0 x113c0) (Value.slice x113a1 x113l1 x113c1) (Value.slice x113a2 x113l2 x113c2)) HY112.out.2.1 rfl rfl rfl (pmC_info _ _ _ _ _) (pmC_one _ _ _ _ _ _ _ _ _ _ _) ?_
        intro y114 hb hc hs
        have hb0 := below_ch HY112.out.1 hc (Nat.le_refl _) (fun k hk => by have e : k = y99.heap.size := hk; have := HY112.out.2.2.2.1; omega)
        have hb2 := below_thn HV95.out.2.1 hb0 (Nat.le_refl _)
        have HY115 := Lib.hid (show Below y93.heap.size y93 y114 ∧ Blk y114 y99.heap.size 24 (pmC q.o q.e (Value.slice x113a0 x113l0 x113c0) (Value.slice x113a1 x113l1 x113c1) (Value.slice x113a2 x113l2 x113c2)) ∧ PmS y114 q (Value.slice x113a0 x113l0 x113c0) (Value.slice x113a1 x113l1 x113c1) (Value.slice x113a2 x113l2 x113c2) from ⟨hb0, hb, HY112.out.2.2.2.2.2 y99.heap.size _ HY110.out.2.1.lt (Ch.trans (Ch.of_below (S := (· = y99.heap.size)) (Below.refl _ _) (Nat.le_refl _)) hc) (HPS.out.below hb2)⟩)
        clear hb hc hs hb0 hb2
        try simp only [Act.put, List.setIfInBounds_toArray, List.set_cons_zero, List.set_cons_succ]
        refine QK.normal ⟨fun h => absurd h (by decide), ?_⟩
        refine' wpAnyM_one 13 (by kernel_rfl) ?_ ?_; rotate_left; (simp only [List.getElem?_toArray, List.getElem?_cons_zero, List.getElem?_cons_succ]; rfl)
        try simp only [Act.put]
        go_wp2_with fail
        refine QK.normal ⟨fun h => absurd h (by decide), ?_⟩
        refine wpAnyM_done (by kernel_rfl) ?_ _
        refine NoPanic.normal ?_
        have HV116 := Lib.hid (show PmS y114 p (Value.slice ra rl rc) (Value.slice qa ql qc) (Value.slice ga gl gc) ∧ Below w.heap.size w y114 ∧ Blk y114 w.heap.size 24 (pmC p.o p.e (Value.slice ra rl rc) (Value.slice qa ql qc) (Value.slice ga gl gc)) ∧ Blk y114 a1.heap.size 35 (act3C act) ∧ Blk y114 v2.heap.size 24 (pmC q.o q.e (Value.slice x92a0 x92l0 x92c0) (Value.slice x92a1 x92l1 x92c1) (Value.slice x92a2 x92l2 x92c2)) ∧ PmS y114 q (Value.slice x92a0 x92l0 x92c0) (Value.slice x92a1 x92l1 x92c1) (Value.slice x92a2 x92l2 x92c2) ∧ Blk y114 y99.heap.size 24 (pmC q.o q.e (Value.slice x113a0 x113l0 x113c0) (Value.slice x113a1 x113l1 x113c1) (Value.slice x113a2 x113l2 x113c2)) ∧ PmS y114 q (Value.slice x113a0 x113l0 x113c0) (Value.slice x113a1 x113l1 x113c1) (Value.slice x113a2 x113l2 x113c2) from ⟨HV95.out.1.below HY115.out.1, below_thn HV95.out.2.1 HY115.out.1 (Nat.le_refl _), HV95.out.2.2.1.below HY115.out.1 HV95.out.2.2.1.lt, HV95.out.2.2.2.1.below HY115.out.1 HV95.out.2.2.2.1.lt, HV95.out.2.2.2.2.1.below HY115.out.1 HV95.out.2.2.2.2.1.lt, HV95.out.2.2.2.2.2.below HY115.out.1, HY115.out.2.1, HY115.out.2.2⟩)
        have ee : (er == er) = true := by simp
        go_wp2_with (first
    | (with_reducible refine wpList_load_any rfl 24 (.tmp 5) rfl v2.heap.size 0 rfl (pmC q.o q.e (Value.slice x92a0 x92l0 x92c0) (Value.slice x92a1 x92l1 x92c1) (Value.slice x92a2 x92l2 x92c2)) _ (rangeW_blk HV116.out.2.2.2.2.1) Try.underlying24 rfl (pmC_info _ _ _ _ _) ?_)
    | ((with_reducible refine wpList_load_want ?_ 24 (.tmp 5) rfl v2.heap.size 0 rfl (pmC q.o q.e (Value.slice x92a0 x92l0 x92c0) (Value.slice x92a1 x92l1 x92c1) (Value.slice x92a2 x92l2 x92c2)) _ (rangeW_blk HV116.out.2.2.2.2.1) Try.underlying24 rfl (pmC_info _ _ _ _ _) ?_); focus rfl)
    | (with_reducible refine wpList_load_any rfl 24 (.tmp 7) rfl y99.heap.size 0 rfl (pmC q.o q.e (Value.slice x113a0 x113l0 x113c0) (Value.slice x113a1 x113l1 x113c1) (Value.slice x113a2 x113l2 x113c2)) _ (rangeW_blk HV116.out.2.2.2.2.2.2.1) Try.underlying24 rfl (pmC_info _ _ _ _ _) ?_)
    | ((with_reducible refine wpList_load_want ?_ 24 (.tmp 7) rfl y99.heap.size 0 rfl (pmC q.o q.e (Value.slice x113a0 x113l0 x113c0) (Value.slice x113a1 x113l1 x113c1) (Value.slice x113a2 x113l2 x113c2)) _ (rangeW_blk HV116.out.2.2.2.2.2.2.1) Try.underlying24 rfl (pmC_info _ _ _ _ _) ?_); focus rfl))
        have hx := rsame_any q q _ _ _ _ _ _ y114 HV116.out.2.2.2.2.2.1 HV116.out.2.2.2.2.2.2.2
        rw [same_self] at hx
        refine Calls.mono hx ?_
        clear hx
        rintro e' y9 ⟨rfl, hb⟩
        have hb9 := below_thn HV116.out.2.1 hb (Nat.le_refl _)
        clear hb
        go_wp2_with fail
        go_ret
        exact ⟨rfl, hb9⟩
    · skip
      refine wpList_alloc_blk v97 rfl 24 rfl (pmC 0 0 (.slice none 0 0) (.slice none 0 0) (.slice none 0 0)) Try.zeroPm ?_
      intro y117 hb hbel hsz
      have HY118 := Lib.hid (show Below y93.heap.size y93 y117 ∧ Blk y117 v97.heap.size 24 (pmC 0 0 (.slice none 0 0) (.slice none 0 0) (.slice none 0 0)) ∧ Below v97.heap.size v97 y117 ∧ y93.heap.size ≤ v97.heap.size from ⟨below_thn HV98.out hbel (Nat.le_refl _), hb, hbel, HV98.out.size⟩)
      clear hb hbel hsz
      try simp only [Act.put, List.setIfInBounds_toArray, List.set_cons_zero, List.set_cons_succ]
      refine QK.normal ⟨fun _ => ⟨rangeAt_blk (HV95.out.2.2.1.below HY118.out.1 HV95.out.2.2.1.lt), rangeAt_blk (HV95.out.2.2.2.1.below HY118.out.1 HV95.out.2.2.2.1.lt), (HV95.out.2.2.2.1.below HY118.out.1 HV95.out.2.2.2.1.lt).cell 1, (HV95.out.2.2.2.1.below HY118.out.1 HV95.out.2.2.2.1.lt).cell 2⟩, ?_⟩
      refine' wpAnyM_one 2 (by kernel_rfl) ?_ ?_; rotate_left; (simp only [List.getElem?_toArray, List.getElem?_cons_zero, List.getElem?_cons_succ]; rfl)
      try simp only [Act.put]
      go_wp2_with fail
      refine (kind_any act y117 HAO.out).mono ?_
      rintro e' y119 ⟨rfl, hb⟩
      have HY120 := Lib.hid (show Below y93.heap.size y93 y119 ∧ Blk y119 v97.heap.size 24 (pmC 0 0 (.slice none 0 0) (.slice none 0 0) (.slice none 0 0)) ∧ Below v97.heap.size v97 y119 ∧ y93.heap.size ≤ v97.heap.size from ⟨below_thn HY118.out.1 hb (Nat.le_refl _), HY118.out.2.1.below hb HY118.out.2.1.lt, below_thn HY118.out.2.2.1 hb (Nat.le_refl _), HY118.out.2.2.2⟩)
      clear hb
      go_wp2_with fail
      refine QK.normal ⟨fun _ => ⟨rangeAt_blk (HV95.out.2.2.1.below HY120.out.1 HV95.out.2.2.1.lt), rangeAt_blk (HV95.out.2.2.2.1.below HY120.out.1 HV95.out.2.2.2.1.lt), (HV95.out.2.2.2.1.below HY120.out.1 HV95.out.2.2.2.1.lt).cell 1, (HV95.out.2.2.2.1.below HY120.out.1 HV95.out.2.2.2.1.lt).cell 2⟩, ?_⟩
      refine' wpAnyM_one 7 (by kernel_rfl) ?_ ?_; rotate_left; (simp only [List.getElem?_toArray, List.getElem?_cons_zero, List.getElem?_cons_succ]; rfl)
      try simp only [Act.put]
      go_wp2_with fail
      have hx := rchange_any p _ _ _ act y119 (HV95.out.1.below HY120.out.1)
      rw [HR.out] at hx
      refine (calls_ref hx).mono ?_
      clear hx
      rintro e' y121 ⟨x123r, x123q, x123g, rfl, hs, hb, hmv⟩
      obtain ⟨x123a0, x123c0, rfl, -⟩ := hs.1.shape
      obtain ⟨x123a1, x123c1, rfl, -⟩ := hs.2.1.shape
      obtain ⟨x123a2, x123c2, rfl, -⟩ := hs.2.2.shape
      generalize (ofK .i64 q.r).length = x123l0 at hs hmv ⊢
      generalize (ofK .i64 q.q).length = x123l1 at hs hmv ⊢
      generalize (ofK .i64 q.g).length = x123l2 at hs hmv ⊢
      have HY122 := Lib.hid (show Below y93.heap.size y93 y121 ∧ Blk y121 v97.heap.size 24 (pmC 0 0 (.slice none 0 0) (.slice none 0 0) (.slice none 0 0)) ∧ Below v97.heap.size v97 y121 ∧ y93.heap.size ≤ v97.heap.size ∧ PmS y121 q (Value.slice x123a0 x123l0 x123c0) (Value.slice x123a1 x123l1 x123c1) (Value.slice x123a2 x123l2 x123c2) ∧ (∀ g w2, g < y119.heap.size → Ch (· = g) y121 w2 → PmS w2 p (Value.slice ra rl rc) (Value.slice qa ql qc) (Value.slice ga gl gc) → PmS w2 q (Value.slice x123a0 x123l0 x123c0) (Value.slice x123a1 x123l1 x123c1) (Value.slice x123a2 x123l2 x123c2)) from ⟨below_thn HY120.out.1 hb (Nat.le_refl _), HY120.out.2.1.below hb HY120.out.2.1.lt, below_thn HY120.out.2.2.1 hb (Nat.le_refl _), HY120.out.2.2.2, hs, hmv⟩)
      clear hs hb hmv
      go_wp2_with fail
      refine QK.normal ⟨fun _ => ⟨rangeAt_blk (HV95.out.2.2.1.below HY122.out.1 HV95.out.2.2.1.lt), rangeAt_blk (HV95.out.2.2.2.1.below HY122.out.1 HV95.out.2.2.2.1.lt), (HV95.out.2.2.2.1.below HY122.out.1 HV95.out.2.2.2.1.lt).cell 1, (HV95.out.2.2.2.1.below HY122.out.1 HV95.out.2.2.2.1.lt).cell 2⟩, ?_⟩
      refine wpAnyM_take0 (by kernel_rfl) noPanic_any (fuel := 4) (fun _ => ⟨rangeAt_blk (HV95.out.2.2.1.below HY122.out.1 HV95.out.2.2.1.lt), rangeAt_blk (HV95.out.2.2.2.1.below HY122.out.1 HV95.out.2.2.2.1.lt), (HV95.out.2.2.2.1.below HY122.out.1 HV95.out.2.2.2.1.lt).cell 1, (HV95.out.2.2.2.1.below HY122.out.1 HV95.out.2.2.2.1.lt).cell 2⟩) 8 (by kernel_rfl) ?_
      refine' HeldL.run ?_ ?_ ?_ ?_; rotate_left 2; (simp only [List.getElem?_toArray, List.getElem?_cons_zero, List.getElem?_cons_succ]; rfl); rfl; (rintro w' -; go_simp; with_reducible rfl); simp only [Act.put, List.setIfInBounds_toArray, List.set_cons_zero, List.set_cons_succ]
      refine wpAnyM_take0 (by kernel_rfl) noPanic_any (fuel := 3) (fun _ => ⟨rangeAt_blk (HV95.out.2.2.1.below HY122.out.1 HV95.out.2.2.1.lt), rangeAt_blk (HV95.out.2.2.2.1.below HY122.out.1 HV95.out.2.2.2.1.lt), (HV95.out.2.2.2.1.below HY122.out.1 HV95.out.2.2.2.1.lt).cell 1, (HV95.out.2.2.2.1.below HY122.out.1 HV95.out.2.2.2.1.lt).cell 2⟩) 9 (by kernel_rfl) ?_
      refine' HeldL.run ?_ ?_ ?_ ?_; rotate_left 2; (simp only [List.getElem?_toArray, List.getElem?_cons_zero, List.getElem?_cons_succ]; rfl); rfl; (rintro w' -; go_simp; with_reducible rfl); simp only [Act.put, List.setIfInBounds_toArray, List.set_cons_zero, List.set_cons_succ]
      refine wpAnyM_take0 (by kernel_rfl) noPanic_any (fuel := 2) (fun _ => ⟨rangeAt_blk (HV95.out.2.2.1.below HY122.out.1 HV95.out.2.2.1.lt), rangeAt_blk (HV95.out.2.2.2.1.below HY122.out.1 HV95.out.2.2.2.1.lt), (HV95.out.2.2.2.1.below HY122.out.1 HV95.out.2.2.2.1.lt).cell 1, (HV95.out.2.2.2.1.below HY122.out.1 HV95.out.2.2.2.1.lt).cell 2⟩) 10 (by kernel_rfl) ?_
      refine' HeldL.run ?_ ?_ ?_ ?_; rotate_left 2; (simp only [List.getElem?_toArray, List.getElem?_cons_zero, List.getElem?_cons_succ]; rfl); rfl; (rintro w' -; go_simp; with_reducible rfl); simp only [Act.put, List.setIfInBounds_toArray, List.set_cons_zero, List.set_cons_succ]
      refine' wpAnyM_one 12 (by kernel_rfl) ?_ ?_; rotate_left; (simp only [List.getElem?_toArray, List.getElem?_cons_zero, List.getElem?_cons_succ]; rfl)
      refine wpList_store_blk y121 rfl 24 (.tmp 7) (.tmp 29) rfl v97.heap.size 24 (pmC 0 0 (.slice none 0 0) (.slice none 0 0) (.slice none 0 0)) (pmC q.o q.e (Value.slice x123a0 x123l0 x123c0) (Value.slice x123a1 x123l1 x123c1) (Value.slice x123a2 x123l2 x123c2)) HY122.out.2.1 rfl rfl rfl (pmC_info _ _ _ _ _) (pmC_one _ _ _ _ _ _ _ _ _ _ _) ?_
      intro y124 hb hc hs
      have hb0 := below_ch HY122.out.1 hc (Nat.le_refl _) (fun k hk => by have e : k = v97.heap.size := hk; have := HY122.out.2.2.2.1; omega)
      have hb2 := below_thn HV95.out.2.1 hb0 (Nat.le_refl _)
      have HY125 := Lib.hid (show Below y93.heap.size y93 y124 ∧ Blk y124 v97.heap.size 24 (pmC q.o q.e (Value.slice x123a0 x123l0 x123c0) (Value.slice x123a1 x123l1 x123c1) (Value.slice x123a2 x123l2 x123c2)) ∧ PmS y124 q (Value.slice x123a0 x123l0 x123c0) (Value.slice x123a1 x123l1 x123c1) (Value.slice x123a2 x123l2 x123c2) from ⟨hb0, hb, HY122.out.2.2.2.2.2 v97.heap.size _ HY120.out.2.1.lt (Ch.trans (Ch.of_below (S := (· = v97.heap.size)) (Below.refl _ _) (Nat.le_refl _)) hc) (HPS.out.below hb2)⟩)
      clear hb hc hs hb0 hb2
      try simp only [Act.put, List.setIfInBounds_toArray, List.set_cons_zero, List.set_cons_succ]
      refine QK.normal ⟨fun h => absurd h (by decide), ?_⟩
      refine' wpAnyM_one 13 (by kernel_rfl) ?_ ?_; rotate_left; (simp only [List.getElem?_toArray, List.getElem?_cons_zero, List.getElem?_cons_succ]; rfl)
      try simp only [Act.put]
      go_wp2_with fail
      refine QK.normal ⟨fun h => absurd h (by decide), ?_⟩
      refine wpAnyM_done (by kernel_rfl) ?_ _
      refine NoPanic.normal ?_
      have HV126 := Lib.hid (show PmS y124 p (Value.slice ra rl rc) (Value.slice qa ql qc) (Value.slice ga gl gc) ∧ Below w.heap.size w y124 ∧ Blk y124 w.heap.size 24 (pmC p.o p.e (Value.slice ra rl rc) (Value.slice qa ql qc) (Value.slice ga gl gc)) ∧ Blk y124 a1.heap.size 35 (act3C act) ∧ Blk y124 v2.heap.size 24 (pmC q.o q.e (Value.slice x92a0 x92l0 x92c0) (Value.slice x92a1 x92l1 x92c1) (Value.slice x92a2 x92l2 x92c2)) ∧ PmS y124 q (Value.slice x92a0 x92l0 x92c0) (Value.slice x92a1 x92l1 x92c1) (Value.slice x92a2 x92l2 x92c2) ∧ Blk y124 v97.heap.size 24 (pmC q.o q.e (Value.slice x123a0 x123l0 x123c0) (Value.slice x123a1 x123l1 x123c1) (Value.slice x123a2 x123l2 x123c2)) ∧ PmS y124 q (Value.slice x123a0 x123l0 x123c0) (Value.slice x123a1 x123l1 x123c1) (Value.slice x123a2 x123l2 x123c2) from ⟨HV95.out.1.below HY125.out.1, below_thn HV95.out.2.1 HY125.out.1 (Nat.le_refl _), HV95.out.2.2.1.below HY125.out.1 HV95.out.2.2.1.lt, HV95.out.2.2.2.1.below HY125.out.1 HV95.out.2.2.2.1.lt, HV95.out.2.2.2.2.1.below HY125.out.1 HV95.out.2.2.2.2.1.lt, HV95.out.2.2.2.2.2.below HY125.out.1, HY125.out.2.1, HY125.out.2.2⟩)
      have ee : (er == er) = true := by simp
      go_wp2_with (first
    | (with_reducible refine wpList_load_any rfl 24 (.tmp 5) rfl v2.heap.size 0 rfl (pmC q.o q.e (Value.slice x92a0 x92l0 x92c0) (Value.slice x92a1 x92l1 x92c1) (Value.slice x92a2 x92l2 x92c2)) _ (rangeW_blk HV126.out.2.2.2.2.1) Try.underlying24 rfl (pmC_info _ _ _ _ _) ?_)
    | ((with_reducible refine wpList_load_want ?_ 24 (.tmp 5) rfl v2.heap.size 0 rfl (pmC q.o q.e (Value.slice x92a0 x92l0 x92c0) (Value.slice x92a1 x92l1 x92c1) (Value.slice x92a2 x92l2 x92c2)) _ (rangeW_blk HV126.out.2.2.2.2.1) Try.underlying24 rfl (pmC_info _ _ _ _ _) ?_); focus rfl)
    | (with_reducible refine wpList_load_any rfl 24 (.tmp 7) rfl v97.heap.size 0 rfl (pmC q.o q.e (Value.slice x123a0 x123l0 x123c0) (Value.slice x123a1 x123l1 x123c1) (Value.slice x123a2 x123l2 x123c2)) _ (rangeW_blk HV126.out.2.2.2.2.2.2.1) Try.underlying24 rfl (pmC_info _ _ _ _ _) ?_)
    | ((with_reducible refine wpList_load_want ?_ 24 (.tmp 7) rfl v97.heap.size 0 rfl (pmC q.o q.e (Value.slice x123a0 x123l0 x123c0) (Value.slice x123a1 x123l1 x123c1) (Value.slice x123a2 x123l2 x123c2)) _ (rangeW_blk HV126.out.2.2.2.2.2.2.1) Try.underlying24 rfl (pmC_info _ _ _ _ _) ?_); focus rfl))
      have hx := rsame_any q q _ _ _ _ _ _ y124 HV126.out.2.2.2.2.2.1 HV126.out.2.2.2.2.2.2.2
      rw [same_self] at hx
      refine Calls.mono hx ?_
      clear hx
      rintro e' y9 ⟨rfl, hb⟩
      have hb9 := below_thn HV126.out.2.1 hb (Nat.le_refl _)
      clear hb
      go_wp2_with fail
      go_ret
      exact ⟨rfl, hb9⟩


end Go.Proofs.Ytampheimonmggaa
