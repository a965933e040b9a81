/-
  Package wots: Recover and Verify, walked. Conditions: bytes; a row of at most a thousand digests.
-/
import Derived.Test.YtkbhehnpgnilmaaWtD
namespace Go.Proofs.Ytkbhehnpgnilmaa
open Go Go.RowKit
set_option linter.unusedSimpArgs false

theorem own_lt' {w : World} {base n : Nat} {v : Value} {xs : List Value} {k : Nat} (h : w.ownsRow base 23 32 v n xs) (hk : v.ownBlock = some k) : k < w.heap.size := by
  obtain ⟨_, ⟨rfl, _⟩ | ⟨g, cap, C, rfl, _, h5, _⟩⟩ := h
  · cases hk
  · cases hk; exact lt_of_block h5

set_option maxRecDepth 100000 in
set_option maxHeartbeats 8000000 in
theorem recover_ok (m : List Int) (vs : Value) (s : List (List Int)) (w : World) (hm : IsD m) (hs : SlD w vs s) (hl : s.length = 67) (hD : ∀ x ∈ s, IsD x) :
    Calls Try.prog 62 #[.agg (ofK .u8 m).toArray, vs] w (DigP w (recB m s) 0) := by
  obtain ⟨so, sc, rfl, hlc, hc6, hcell⟩ := hs
  rw [hl] at hlc ⊢
  have HS := Lib.hid (And.intro hcell (And.intro hl hD))
  have HM := Lib.hid hm
  have HI := Lib.hid (infoD hm)
  clear hcell hl hD hm
  go_enter Try.func62, Try.ntmps62
  go_wp2_with (first
    | (with_reducible refine wpList_box_blk w rfl 23 (.tmp 0) rfl (ofK .u8 m) rfl ?_; intro w1 hb1 hbel1 hsz1; have HB1 := Lib.hid (And.intro hb1 (And.intro hbel1 hsz1)); clear hb1 hbel1 hsz1)
    | ((with_reducible refine wpList_alloc_blk w1 rfl 23 rfl (ofK .u8 zer32) Try.zeroId ?_); intro w2 hb hbel hsz; have HB2 := Lib.hid (And.intro hb (And.intro (HB1.out.1.below hbel HB1.out.1.lt) (And.intro (below_thn HB1.out.2.1 hbel (Nat.le_refl _)) (show w.heap.size < w1.heap.size ∧ w1.heap.size < w2.heap.size by have := HB1.out.2.2; omega)))); have HRM := Lib.hid (rangeW_blk HB2.out.2.1); clear hb hbel hsz)
    | (with_reducible refine wpList_load_any rfl 23 (.tmp 2) rfl w.heap.size 0 rfl (ofK .u8 m) _ HRM.out Try.underlying23 rfl HI.out ?_))
  refine (digits_any m w2 HM.out).mono ?_
  rintro e w4 ⟨dao, dcp, rfl, hown, hb4⟩
  obtain ⟨dao', dcp', hdv, _, _, hdc⟩ := (Sl.of_owns hown).nums
  rw [digitsL_length HM.out] at hdv
  obtain ⟨rfl, rfl⟩ : dao = dao' ∧ dcp = dcp' := by simpa using hdv
  obtain ⟨dg, dgo, rfl, _, hdcell⟩ := hdc (by rw [digitsL_length HM.out]; omega)
  have HDC := Lib.hid hdcell
  have HB4 := Lib.hid (show Blk w4 w1.heap.size 23 (ofK .u8 zer32) ∧ Below w.heap.size w w4 ∧ w1.heap.size < w4.heap.size from ⟨HB2.out.1.below hb4 HB2.out.1.lt, below_thn HB2.out.2.2.1 hb4 (Nat.le_refl _), by have := hb4.size; have := HB2.out.2.2.2; omega⟩)
  clear hown hb4 hdv hdc hdcell HRM
  go_wp2_with fail
  go_loopw [7, 20] (fun rv i wr => ∃ k : Nat, k ≤ 67 ∧ i = .int .i64 k ∧ ∃ ao cp, rv = .slice ao k cp ∧ Hid (Blk wr w1.heap.size 23 (ofK .u8 zer32) ∧ wr.ownsRow w4.heap.size 23 32 (.slice ao k cp) k (ofK .u8 (recL m s k).flatten) ∧ Below w4.heap.size w4 wr)) (fun _ i _ => 67 - (intOf i).toNat)
  case atStart => exact ⟨0, by omega, rfl, none, 0, rfl, Lib.hid ⟨HB4.out.1, World.ownsRow_nil _ _ _ _, Below.refl _ _⟩⟩
  case round =>
    obtain ⟨k, hk, rfl, ao, cp, rfl, HR⟩ := hrel
    by_cases hlt : k < 67
    · have hk32 : (k : Int) < 67 := by omega
      have hk0 : (0 : Int) ≤ (k : Int) := by omega
      have hks : k < s.length := by rw [HS.out.2.1]; exact hlt
      obtain ⟨sg, sgo, rfl, hcl⟩ := HS.out.1 (by rw [HS.out.2.1]; omega)
      have hbw : Below w.heap.size w wr := below_thn HB4.out.2.1 HR.out.2.2 (Nat.le_refl _)
      have HC := Lib.hid (rangeW_below (hcl k hks) hbw)
      have hxD := HS.out.2.2 s[k] (List.getElem_mem hks)
      have hxs : s.getD k [] = s[k] := by rw [List.getD_eq_getElem?_getD, List.getElem?_eq_getElem hks]; rfl
      have hkd : k < (digitsL m).length := by rw [digitsL_length HM.out]; exact hlt
      have hdb := digitsL_bd HM.out _ (List.getElem_mem hkd)
      have hds : (digitsL m).getD k 0 = (digitsL m)[k] := by rw [List.getD_eq_getElem?_getD, List.getElem?_eq_getElem hkd]; rfl
      have hdw := (HR.out.2.2.cell (p := ⟨dg, dgo + k, none⟩) (block_of_cell (HDC.out k hkd))).trans (HDC.out k hkd)
      have hrs := recL_succ m s k
      rw [hxs, hds] at hrs
      generalize s[k] = x at HC hxD hxs hrs
      generalize (digitsL m)[k] = d at hdb hds hdw hrs
      have hd1 := hdb.1
      have hd2 := hdb.2
      obtain ⟨y, hy⟩ : ∃ y, walkB x k d (15 - d).toNat = y := ⟨_, rfl⟩
      rw [hy] at hrs
      have hyD : IsD y := by rw [← hy]; exact isD_walk hxD _ _ _
      have HX := Lib.hid (And.intro hxD hy)
      have HRS := Lib.hid hrs
      have HYD := Lib.hid hyD
      have HIY := Lib.hid (infoD hyD)
      have HLY := Lib.hid (lenD hyD isD_zer)
      have HY32 := Lib.hid (show (ofK .u8 y).length = 32 by rw [length_ofK, hyD.1])
      have HIX := Lib.hid (infoD hxD)
      have HLX := Lib.hid (lenD hxD isD_zer)
      have HDW := Lib.hid hdw
      have HBW := Lib.hid hbw
      clear hcl hxD hxs hkd hdb hds hrs hyD hy hbw hdw
      go_wp2_with (first
        | (with_reducible refine wpList_load_any rfl 23 (.tmp 23) rfl sg (sgo + k * 32) rfl (ofK .u8 x) _ HC.out Try.underlying23 rfl HIX.out ?_)
        | ((with_reducible refine wpList_alloc_blk wr rfl 23 rfl (ofK .u8 zer32) Try.zeroId ?_); intro w5 hb hbel hsz; have H5 := Lib.hid (And.intro hb (And.intro hbel hsz)); clear hb hbel hsz)
        | ((with_reducible refine wpList_store_blk w5 rfl 23 (.tmp 9) (.tmp 24) rfl wr.heap.size 23 (ofK .u8 zer32) (ofK .u8 x) H5.out.1 rfl rfl HLX.out HIX.out (one_ofK _ _) ?_); intro w6 hb hc hs; have hw6 : Below wr.heap.size wr w6 := below_ch H5.out.2.1 hc (Nat.le_refl _) (fun k hk => by have : k = wr.heap.size := hk; omega); have H6 := Lib.hid (show RecI w wr w4 w1.heap.size dg dgo k x d (.slice ao k cp) k (recL m s k) w6 from ⟨HR.out.1.below hw6 HR.out.1.lt, hb, (hw6.cell (p := ⟨dg, dgo + k, none⟩) (block_of_cell HDW.out)).trans HDW.out, own_ch HR.out.2.1 (Ch.of_below (S := fun _ => False) hw6 (Nat.le_refl _)) (fun _ _ h => h), below_thn HBW.out hw6 (Nat.le_refl _), below_thn HR.out.2.2 hw6 (Nat.le_refl _), hw6.size, HR.out.1.lt, block_of_cell HDW.out, fun k e => own_lt' HR.out.2.1 e, HBW.out.size, HR.out.2.2.size⟩); have HG := Lib.hid (show wr.heap.size < w6.heap.size from hb.lt); clear hb hc hs hw6))
      have H7 := Lib.hid (H6.out.below (Below.refl _ w6).drew)
      refine wp_region_takes (fun w' => w'.rangeAt wr.heap.size 0 (ofK .u8 x) ∧ w'.cell? ⟨dg, dgo + k, none⟩ = some (.int .i64 d)) [0, 1, 2, 3, 4, 5] 7 (by kernel_rfl) rfl (by kernel_rfl) (by kernel_rfl) H7.out.S ?_
      have HG7 := Lib.hid (show wr.heap.size < w6.drew.heap.size from HG.out)
      generalize w6.drew = v0 at H7 HG7 ⊢
      clear H5 H6 HR HG
      refine' HeldL.run ?_ ?_ ?_ ?_; rotate_left 2; (simp only [List.getElem?_toArray, List.getElem?_cons_zero, List.getElem?_cons_succ]; rfl); rfl; (rintro w' ⟨k0, k1⟩; exact exec_load_mid rfl rfl k0 Try.underlying23 rfl HIX.out); simp only [Act.put, List.setIfInBounds_toArray, List.set_cons_zero, List.set_cons_succ]
      iterate 5 (refine' HeldL.run ?_ ?_ ?_ ?_; rotate_left 2; (simp only [List.getElem?_toArray, List.getElem?_cons_zero, List.getElem?_cons_succ]; rfl); rfl; (rintro w' ⟨k0, k1⟩; go_simp; with_reducible rfl); simp only [Act.put, List.setIfInBounds_toArray, List.set_cons_zero, List.set_cons_succ])
      refine' wpAnyH_two 6 10 (by kernel_rfl) ?_ ?_ ?_ ?_; rotate_left 2; (simp only [List.getElem?_toArray, List.getElem?_cons_zero, List.getElem?_cons_succ]; rfl); (simp only [List.getElem?_toArray, List.getElem?_cons_zero, List.getElem?_cons_succ]; rfl)
      · skip
        skip
        try simp only [Act.put]
        go_wp2_with fail
        refine (chain_ok x k d 15 v0 HX.out.1 (by omega) (by omega) hd1 hd2 (by omega)).mono ?_
        rintro e v1 ⟨rfl, hb⟩
        have H8 := Lib.hid (H7.out.below hb)
        have HGn := Lib.hid (Nat.lt_of_lt_of_le HG7.out hb.size)
        rw [HX.out.2]
        clear hb
        try go_wp2_with fail
        refine QK.normal ⟨H8.out.S, ?_⟩
        refine wpAnyH_takes (fuel := 3) (by kernel_rfl) noPanic_any H8.out.S [7, 8, 9] _ _ (by kernel_rfl) ?_
        try simp only [Act.put]
        iterate 3 (refine' HeldL.run ?_ ?_ ?_ ?_; rotate_left 2; (simp only [List.getElem?_toArray, List.getElem?_cons_zero, List.getElem?_cons_succ]; rfl); rfl; (rintro w' ⟨k0, k1⟩; go_simp; with_reducible rfl); simp only [Act.put, List.setIfInBounds_toArray, List.set_cons_zero, List.set_cons_succ])
        refine' wpAnyH_one 10 (by kernel_rfl) ?_ ?_; rotate_left; (simp only [List.getElem?_toArray, List.getElem?_cons_zero, List.getElem?_cons_succ]; rfl)
        refine wpList_alloc_blk v1 rfl 23 rfl (ofK .u8 zer32) Try.zeroId ?_
        intro v2 hb hbel hsz
        have H9 := Lib.hid (H8.out.below hbel)
        have HAL := Lib.hid hb
        clear hb hbel hsz
        simp only [Act.put, List.setIfInBounds_toArray, List.set_cons_zero, List.set_cons_succ]
        refine QK.normal ⟨H9.out.S, ?_⟩
        have HG := Lib.hid HGn.out
        refine' wpAnyH_one 11 (by kernel_rfl) ?_ ?_; rotate_left; (simp only [List.getElem?_toArray, List.getElem?_cons_zero, List.getElem?_cons_succ]; rfl)
        refine wpList_store_blk v2 rfl 23 (.tmp 10) (.tmp 33) rfl v1.heap.size 23 (ofK .u8 zer32) (ofK .u8 y) HAL.out rfl rfl HLY.out HIY.out (one_ofK _ _) ?_
        intro u9 hb hc hs
        have HN := Lib.hid (And.intro hb (show RecI w wr w4 w1.heap.size dg dgo k x d (.slice ao k cp) k (recL m s k) u9 from H9.out.store hc HG.out))
        clear hb hc hs
        simp only [Act.put, List.setIfInBounds_toArray, List.set_cons_zero, List.set_cons_succ]
        refine QK.normal ⟨HN.out.2.S, ?_⟩
        refine' wpAnyH_one 12 (by kernel_rfl) ?_ ?_; rotate_left; (simp only [List.getElem?_toArray, List.getElem?_cons_zero, List.getElem?_cons_succ]; rfl)
        try simp only [Act.put]
        go_wp2_with fail
        refine QK.normal ⟨HN.out.2.S, ?_⟩
        refine wpAnyH_done (by kernel_rfl) ?_ _
        refine NoPanic.normal ?_
        have HRY := Lib.hid (rangeW_blk HN.out.1)
        go_wp2_with (first
          | (with_reducible refine wpList_load_any rfl 23 (.tmp 10) rfl v1.heap.size 0 rfl (ofK .u8 y) _ HRY.out Try.underlying23 rfl HIY.out ?_)
          | ((with_reducible refine wpList_slice_one u9 rfl 54 (.tmp 36) rfl Try.underlying54 Try.sizeId Try.zeroId Try.id1 Try.id2 (ofK .u8 y) HY32.out rfl ?_); intro u10 hb hbel hsz; have H10 := Lib.hid (And.intro hb (HN.out.2.below hbel)); clear hb hbel hsz)
          | (at_builtin; refine wpList_append_id u10 rfl (.tmp 35) (.tmp 37) rfl w4.heap.size (.slice ao k cp) k (recL m s k) rfl H10.out.2.row u9.heap.size y rfl H10.out.1 HYD.out (by omega) H10.out.2.belb.size ?_))
        intro ao2 cp2 u11 hown hgr _
        have e2 : (recL m s k).flatten ++ y = (recL m s (k + 1)).flatten := by rw [HRS.out]; simp
        try simp only [List.flatten_append, List.flatten_cons, List.flatten_nil, List.append_nil] at hown
        rw [e2] at hown
        clear e2
        have HE := Lib.hid (show Blk u11 w1.heap.size 23 (ofK .u8 zer32) ∧ u11.ownsRow w4.heap.size 23 32 (.slice ao2 (k + 1) cp2) (k + 1) (ofK .u8 (recL m s (k + 1)).flatten) ∧ Below w4.heap.size w4 u11 from H10.out.2.appended hown hgr HB4.out.2.2)
        clear hown hgr
        go_wp2_with fail
        go_roundw
        case rel => exact ⟨k + 1, by omega, by go_num, ao2, cp2, rfl, HE⟩
        case measure => simp [intOf]; omega
      · skip
        refine wpList_alloc_blk v0 rfl 23 rfl (ofK .u8 zer32) Try.zeroId ?_
        intro v1 hb hbel hsz
        have H8 := Lib.hid (H7.out.below hbel)
        have HAL := Lib.hid hb
        clear hb hbel hsz
        simp only [Act.put, List.setIfInBounds_toArray, List.set_cons_zero, List.set_cons_succ]
        refine QK.normal ⟨H8.out.S, ?_⟩
        have HG := Lib.hid HG7.out
        refine' wpAnyH_one 6 (by kernel_rfl) ?_ ?_; rotate_left; (simp only [List.getElem?_toArray, List.getElem?_cons_zero, List.getElem?_cons_succ]; rfl)
        try simp only [Act.put]
        go_wp2_with fail
        refine (chain_ok x k d 15 v1 HX.out.1 (by omega) (by omega) hd1 hd2 (by omega)).mono ?_
        rintro e v2 ⟨rfl, hb⟩
        have H9 := Lib.hid (H8.out.below hb)
        replace HAL := Lib.hid (HAL.out.below hb HAL.out.lt)
        rw [HX.out.2]
        clear hb
        try go_wp2_with fail
        refine QK.normal ⟨H9.out.S, ?_⟩
        refine wpAnyH_takes (fuel := 2) (by kernel_rfl) noPanic_any H9.out.S [7, 8, 9] _ _ (by kernel_rfl) ?_
        try simp only [Act.put]
        iterate 3 (refine' HeldL.run ?_ ?_ ?_ ?_; rotate_left 2; (simp only [List.getElem?_toArray, List.getElem?_cons_zero, List.getElem?_cons_succ]; rfl); rfl; (rintro w' ⟨k0, k1⟩; go_simp; with_reducible rfl); simp only [Act.put, List.setIfInBounds_toArray, List.set_cons_zero, List.set_cons_succ])
        refine' wpAnyH_one 11 (by kernel_rfl) ?_ ?_; rotate_left; (simp only [List.getElem?_toArray, List.getElem?_cons_zero, List.getElem?_cons_succ]; rfl)
        refine wpList_store_blk v2 rfl 23 (.tmp 10) (.tmp 33) rfl v0.heap.size 23 (ofK .u8 zer32) (ofK .u8 y) HAL.out rfl rfl HLY.out HIY.out (one_ofK _ _) ?_
        intro u9 hb hc hs
        have HN := Lib.hid (And.intro hb (show RecI w wr w4 w1.heap.size dg dgo k x d (.slice ao k cp) k (recL m s k) u9 from H9.out.store hc HG.out))
        clear hb hc hs
        simp only [Act.put, List.setIfInBounds_toArray, List.set_cons_zero, List.set_cons_succ]
        refine QK.normal ⟨HN.out.2.S, ?_⟩
        refine' wpAnyH_one 12 (by kernel_rfl) ?_ ?_; rotate_left; (simp only [List.getElem?_toArray, List.getElem?_cons_zero, List.getElem?_cons_succ]; rfl)
        try simp only [Act.put]
        go_wp2_with fail
        refine QK.normal ⟨HN.out.2.S, ?_⟩
        refine wpAnyH_done (by kernel_rfl) ?_ _
        refine NoPanic.normal ?_
        have HRY := Lib.hid (rangeW_blk HN.out.1)
        go_wp2_with (first
          | (with_reducible refine wpList_load_any rfl 23 (.tmp 10) rfl v0.heap.size 0 rfl (ofK .u8 y) _ HRY.out Try.underlying23 rfl HIY.out ?_)
          | ((with_reducible refine wpList_slice_one u9 rfl 54 (.tmp 36) rfl Try.underlying54 Try.sizeId Try.zeroId Try.id1 Try.id2 (ofK .u8 y) HY32.out rfl ?_); intro u10 hb hbel hsz; have H10 := Lib.hid (And.intro hb (HN.out.2.below hbel)); clear hb hbel hsz)
          | (at_builtin; refine wpList_append_id u10 rfl (.tmp 35) (.tmp 37) rfl w4.heap.size (.slice ao k cp) k (recL m s k) rfl H10.out.2.row u9.heap.size y rfl H10.out.1 HYD.out (by omega) H10.out.2.belb.size ?_))
        intro ao2 cp2 u11 hown hgr _
        have e2 : (recL m s k).flatten ++ y = (recL m s (k + 1)).flatten := by rw [HRS.out]; simp
        try simp only [List.flatten_append, List.flatten_cons, List.flatten_nil, List.append_nil] at hown
        rw [e2] at hown
        clear e2
        have HE := Lib.hid (show Blk u11 w1.heap.size 23 (ofK .u8 zer32) ∧ u11.ownsRow w4.heap.size 23 32 (.slice ao2 (k + 1) cp2) (k + 1) (ofK .u8 (recL m s (k + 1)).flatten) ∧ Below w4.heap.size w4 u11 from H10.out.2.appended hown hgr HB4.out.2.2)
        clear hown hgr
        go_wp2_with fail
        go_roundw
        case rel => exact ⟨k + 1, by omega, by go_num, ao2, cp2, rfl, HE⟩
        case measure => simp [intOf]; omega
    · obtain rfl : k = 67 := by omega
      have hrD := recL_D (m := m) HS.out.2.2 67 (by rw [HS.out.2.1]; exact Nat.le_refl _)
      have HRD := Lib.hid hrD
      have HQ := Lib.hid (isD_sum (digB_allB (c := 75) (nums := []) (by omega) hrD))
      have HIQ := Lib.hid (infoD HQ.out)
      have HLQ := Lib.hid (lenD HQ.out isD_zer)
      clear hrD
      go_wp2_with fail
      refine (digest_any 75 _ [] _ (recL m s 67) wr (by omega) (Sl.nil wr) (by simp) (fun _ h => by cases h) (SlD.of_owns HR.out.2.1 (recL_length m s 67).symm HRD.out) (by rw [recL_length]; omega) HRD.out).mono ?_
      rintro e w8 ⟨rfl, hb8⟩
      have H8 := Lib.hid (And.intro (HR.out.1.below hb8 HR.out.1.lt) (below_thn (below_thn HB4.out.2.1 HR.out.2.2 (Nat.le_refl _)) hb8 (Nat.le_refl _)))
      clear hb8
      go_wp2_with ((with_reducible refine wpList_store_blk w8 rfl 23 (.tmp 4) (.tmp 41) rfl w1.heap.size 23 (ofK .u8 zer32) (ofK .u8 (sumL (digB 75 [] (recL m s 67)))) H8.out.1 rfl rfl HLQ.out HIQ.out (one_ofK _ _) ?_); intro w9 hb hc hs; have H9 := Lib.hid (And.intro hb hc); clear hb hc hs)
      refine bodyPost_ret (results_cellTmp Try.results62 _ _ w1.heap.size _ _ rfl H9.out.1 _ Try.underlying23 rfl HIQ.out _ rfl) rfl ⟨rfl, ?_⟩
      exact below_ch H8.out.2 H9.out.2 (Nat.le_refl _) (fun k hk => by have : k = w1.heap.size := hk; have := HB2.out.2.2.2; omega)

end Go.Proofs.Ytkbhehnpgnilmaa
