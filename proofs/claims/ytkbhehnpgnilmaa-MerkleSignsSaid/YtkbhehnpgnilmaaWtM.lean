/-
  Package wots: Sign, walked. Conditions: bytes.
-/
import Derived.Test.YtkbhehnpgnilmaaWtL
namespace Go.Proofs.Ytkbhehnpgnilmaa
open Go Go.RowKit Go.Shelf
set_option linter.unusedSimpArgs false
attribute [local go_sem] Oper.semAt_some

theorem no_defer {l : List Oper} (h : l.all (fun o => match o.op with | .defer _ => false | _ => true) = true) : ∀ o ∈ l, ∀ c, o.op ≠ .defer c := fun o ho c hc => by
  have := List.all_eq_true.1 h o ho
  rw [hc] at this
  simp at this

theorem Try.infoInts : (Try.prog.info? 55).map (·.size) = some 1 := by kernel_rfl

set_option maxRecDepth 100000 in
set_option maxHeartbeats 4000000 in
theorem sign_any (seed m : List Int) (w : World) (hs : IsD seed) (hm : IsD m) :
    Calls Try.prog 57 #[.agg (ofK .u8 seed).toArray, .agg (ofK .u8 m).toArray] w (fun e w' => ∃ ao c, e = .returned (.slice ao 67 c) ∧ w'.ownsRow w.heap.size 23 32 (.slice ao 67 c) 67 (ofK .u8 (sigOf seed m).flatten) ∧ Below w.heap.size w w') := by
  have HX := Lib.hid hs
  have HI := Lib.hid (infoD hs)
  have HM := Lib.hid hm
  have HIM := Lib.hid (infoD hm)
  clear hs hm
  have hg := (by kernel_rfl : Try.prog.funcs[57]? = some Try.f57)
  refine callsIn_wide.1 (callsIn_of_wp_marks (F := Fence.wide) (n := 9) (fn := Try.f57) hg rfl trivial (wpIn_wide.2 ?_) rfl)
  simp only [Try.ntmps57, List.size_toArray, List.length_cons, List.length_nil, Nat.reduceAdd, Nat.reduceSub, Array.replicate_succ, Array.replicate_zero, List.push_toArray, List.append_toArray, List.nil_append, List.cons_append]
  clear hg
  go_wp2_with (first
    | (with_reducible refine wpList_box_blk w rfl 23 (.tmp 0) rfl (ofK .u8 seed) rfl ?_; intro w1 hb hbel hsz; have HB1 := Lib.hid (And.intro hb (And.intro hbel hsz)); clear hb hbel hsz)
    | (with_reducible refine wpList_box_blk w1 rfl 23 (.tmp 1) rfl (ofK .u8 m) rfl ?_; intro w2 hb hbel hsz; have HB2 := Lib.hid (show Blk w2 w.heap.size 23 (ofK .u8 seed) ∧ Below w.heap.size w w2 ∧ w.heap.size < w1.heap.size ∧ w1.heap.size < w2.heap.size from ⟨HB1.out.1.below hbel HB1.out.1.lt, below_thn HB1.out.2.1 hbel (Nat.le_refl _), by have := HB1.out.2.2; omega, by omega⟩); have HRM := Lib.hid (rangeW_blk hb); clear hb hbel hsz)
    | (with_reducible refine wpList_load_any rfl 23 (.tmp 3) rfl w1.heap.size 0 rfl (ofK .u8 m) _ HRM.out Try.underlying23 rfl HIM.out ?_))
  refine (digits_any m w2 HM.out).mono ?_
  rintro e w3 ⟨dao, dcp, rfl, hown, hb3⟩
  obtain ⟨dao', dcp', hdv, _, _, hdc⟩ := (Sl.of_owns hown).nums
  rw [digitsL_length HM.out] at hdv
  obtain ⟨rfl, rfl⟩ : dao = dao' ∧ dcp = dcp' := by simpa using hdv
  obtain ⟨dg, dgo, rfl, _, hdcell⟩ := hdc (by rw [digitsL_length HM.out]; omega)
  have HDC := Lib.hid hdcell
  have HB3 := Lib.hid (show Blk w3 w.heap.size 23 (ofK .u8 seed) ∧ Below w.heap.size w w3 ∧ w.heap.size < w3.heap.size from ⟨HB2.out.1.below hb3 HB2.out.1.lt, below_thn HB2.out.2.1 hb3 (Nat.le_refl _), by have := hb3.size; have := HB2.out.2.2; omega⟩)
  clear hown hb3 hdv hdc hdcell HRM
  have HRX := Lib.hid (fun (w' : World) (hb : Below w3.heap.size w3 w') => rangeW_below (rangeW_blk HB3.out.1) hb)
  go_wp2_with (first
    | ((with_reducible refine wpList_store1 (w3.alloc (.cells #[.slice none 0 0] 55)) rfl 55 (.tmp 5) (.tmp 12) rfl w3.heap.size 0 55 [.slice none 0 0] (Blk.new _ _ _) rfl (.slice (some ⟨dg, dgo, none⟩) 67 dcp) rfl (by simp) Try.infoInts rfl rfl ?_); intro w5 hb hc hs; have H5 := Lib.hid (show Blk w5 w3.heap.size 55 [(.slice (some ⟨dg, dgo, none⟩) 67 dcp)] ∧ Below w3.heap.size w3 w5 from ⟨hb, below_ch ((Below.refl _ _).alloc (Nat.le_refl _) _) hc (Nat.le_refl _) (fun k hk => by have : k = w3.heap.size := hk; omega)⟩); clear hb hc hs)
    | (with_reducible refine wpList_load_any rfl 23 (.tmp 2) rfl w.heap.size 0 rfl (ofK .u8 seed) _ (HRX.out _ (H5.out.2.alloc (by have := H5.out.2.size; omega) _)) Try.underlying23 rfl HI.out ?_))
  refine (starts_any seed _).mono ?_
  rintro e W0 ⟨rfl, hbs, hb0⟩
  obtain ⟨w6, hw6⟩ : ∃ w6, w5.alloc (.cells #[.slice none 0 0] 54) = w6 := ⟨_, rfl⟩
  have hz6 : w6.heap.size = w5.heap.size + 1 := by rw [← hw6, World.size_alloc]
  have hl6 : Blk w6 w5.heap.size 54 [.slice none 0 0] := by rw [← hw6]; exact Blk.new _ _ _
  have hb6 : Below w5.heap.size w5 w6 := by rw [← hw6]; exact (Below.refl _ _).alloc (Nat.le_refl _) _
  rw [hw6] at hbs hb0 ⊢
  have hb50 : Below w5.heap.size w5 W0 := below_thn hb6 hb0 (by omega)
  have h5 := H5.out.2.size
  have h5b := H5.out.1.lt
  have HP := Lib.hid (show Below w.heap.size w W0 ∧ w.heap.size < w3.heap.size ∧ (∀ k (hk : k < (digitsL m).length), W0.cell? ⟨dg, dgo + k, none⟩ = some (.int .i64 (digitsL m)[k])) from ⟨below_thn HB3.out.2.1 (below_thn H5.out.2 hb50 (by omega)) (by omega), HB3.out.2.2, fun k hk => ((below_thn H5.out.2 hb50 (by omega)).cell (p := ⟨dg, dgo + k, none⟩) (block_of_cell (HDC.out k hk))).trans (HDC.out k hk)⟩)
  obtain ⟨lb, hlb⟩ : ∃ lb, w5.heap.size = lb := ⟨_, rfl⟩
  obtain ⟨db, hdb⟩ : ∃ db, w3.heap.size = db := ⟨_, rfl⟩
  have HL := Lib.hid (show Blk W0 lb 54 [.slice none 0 0] ∧ Blk W0 w6.heap.size 23 (ofK .u8 seed) ∧ lb < w6.heap.size ∧ w6.heap.size < W0.heap.size ∧ w.heap.size ≤ lb ∧ Blk W0 db 55 [(.slice (some ⟨dg, dgo, none⟩) 67 dcp)] ∧ db < lb ∧ dg < lb from ⟨by rw [← hlb]; exact hl6.below hb0 hl6.lt, hbs, by omega, hbs.lt, by have := HB3.out.2.2; omega, by rw [← hdb]; exact H5.out.1.below hb50 h5b, by omega, by have := block_of_cell (HDC.out 0 (by rw [digitsL_length HM.out]; omega)); have : dg < w3.heap.size := this; omega⟩)
  rw [hlb, hdb]
  obtain ⟨Bs, hBs⟩ : ∃ Bs, w6.heap.size = Bs := ⟨_, rfl⟩
  rw [hBs] at HL ⊢
  clear hbs hb0 hw6 hz6 hl6 hb6 hlb hdb hBs hb50 h5 h5b HRX HB3 HB2 HB1 H5 HDC
  go_wp2_with fail
  refine (wpIn_wide (n := 9)).1 ?_
  refine wpIn_rangeFunc_ownH (F := Fence.wide) rfl (by omega) (gf := 117) (lb := #[.pointer (some ⟨Bs, 0, none⟩)]) rfl trivial (enters_of Try.func117 (by kernel_rfl) rfl)
    (starts_stops seed HX.out W0.heap.size lb Bs W0 HL.out.2.1 HL.out.2.2.2.1 (by have := HL.out; omega)) Kq.trans (fun W l o o' h1 h2 h3 h4 => Kq.putObj (w := W0) (Nat.le_refl _) W l o o' h1 h2 h3 h4) (Below.refl _ _) (fun _ => rfl)
    (LoopI W0 lb (fun i => sigL seed m i.1)) (fun _ _ _ => False) (LoopI.own W0 lb _) (fun _ _ _ _ _ h _ _ => h) (LoopI.start W0 lb _ HL.out.1)
    (fun y a' W => ∃ Bx, W0.heap.size ≤ Bx ∧ Blk W Bx 23 (ofK .u8 (startB seed y.1)) ∧ a' = { tmps := #[.agg (ofK .u8 seed).toArray, .agg (ofK .u8 m).toArray, .pointer (some ⟨w.heap.size, 0, none⟩), .pointer (some ⟨w1.heap.size, 0, none⟩), .slice none 0 0, .pointer (some ⟨db, 0, none⟩), .pointer (some ⟨lb, 0, none⟩), .int .i64 y.1, .pointer (some ⟨Bx, 0, none⟩), undef, undef, .agg (ofK .u8 m).toArray, (.slice (some ⟨dg, dgo, none⟩) 67 dcp), .agg (ofK .u8 seed).toArray, .func (.func 117) #[] #[.pointer (some ⟨Bs, 0, none⟩)], .int .i64 y.1, .agg (ofK .u8 (startB seed y.1)).toArray, undef, undef, undef, undef, undef, undef, undef, undef, undef, undef, undef, undef, undef, undef, undef], defers := [] })
    (fun x a' _ X Y row hs hg hr => by obtain ⟨Bx, h1, h2, h3⟩ := hs; exact ⟨Bx, h1, blk_own h2 hg (fun r e => (hr r e).2), h3⟩)
    ?assign ?body ?done ?stop
  case assign =>
    rintro l pre y W K hI hK
    have hyD := isD_start HX.out y.1
    have HIY := Lib.hid (infoD hyD)
    have HLY := Lib.hid (lenD hyD isD_zer)
    have HW := Lib.hid hI
    clear hI hyD
    rw [zip2, foldl2]
    simp only [List.setIfInBounds_toArray, List.set_cons_zero, List.set_cons_succ]
    gi_wp2_with (first
      | ((with_reducible refine inL_alloc (WideF.round l) W rfl 23 rfl (ofK .u8 zer32) Try.zeroId ?_); intro W1 hb hbel hsz; have HB1 := Lib.hid (And.intro hb hbel); clear hb hbel hsz)
      | ((with_reducible refine inL_store (WideF.round l) W1 rfl 23 (.tmp 8) (.tmp 16) rfl W.heap.size 23 (ofK .u8 zer32) (ofK .u8 (startB seed y.1)) HB1.out.1 rfl rfl HLY.out HIY.out (one_ofK _ _) ?_); intro W2 hb hc hs; have HB2 := Lib.hid (And.intro hb (below_ch HB1.out.2 hc (Nat.le_refl _) (fun k hk => by have : k = W.heap.size := hk; omega))); clear hb hc hs))
    have h4 : Ch (fun _ => False) W W2 := Ch.of_below HB2.out.2 (Nat.le_refl _)
    obtain ⟨ao, cp, hbx, hrw⟩ := HW.out.box
    exact hK _ _ ⟨h4.size, fun k o _ hk ho => (h4.block k (Array.getElem?_eq_some_iff.1 hk).1 id).trans hk⟩ (fun k hk _ => h4.block k (by have := HW.out.keep.size; omega) id) ⟨⟨ao, cp, hbx.keep h4 id, own_ch hrw h4 (fun _ _ h => h)⟩, HW.out.keep.trans (h4.mono (fun _ h => h.elim))⟩ ⟨W.heap.size, HW.out.keep.size, HB2.out.1, rfl⟩
  case body =>
    rintro l pre y a' W hl - hI ⟨Bx, hBx, bX, rfl⟩ hlt
    obtain ⟨ao, cp, hbx, hrw⟩ := hI.box
    have HY := Lib.hid (isD_start HX.out y.1)
    have HIY := Lib.hid (infoD HY.out)
    have hkd : y.1 < (digitsL m).length := by rw [digitsL_length HM.out]; exact y.2
    have hdb := digitsL_bd HM.out _ (List.getElem_mem hkd)
    have hds : (digitsL m).getD y.1 0 = (digitsL m)[y.1] := by rw [List.getD_eq_getElem?_getD, List.getElem?_eq_getElem hkd]; rfl
    have hdw0 := HP.out.2.2 y.1 hkd
    have hdw : W.cell? ⟨dg, dgo + y.1, none⟩ = some (.int .i64 (digitsL m)[y.1]) := by
      have hne : dg ≠ lb := by have := HL.out; omega
      rw [← hdw0]
      exact hI.keep.cell (p := ⟨dg, dgo + y.1, none⟩) (block_of_cell hdw0) hne
    have hdbx := (HL.out.2.2.2.2.2.1.keep hI.keep (by have := HL.out; omega)).cell 0
    simp only [List.getElem?_cons_zero] at hdbx
    have hgk : sigL seed m y.1 = walkB (startB seed y.1) y.1 0 ((digitsL m)[y.1]).toNat := by unfold sigL; rw [hds]
    generalize (digitsL m)[y.1] = d at hdb hdw hgk
    have hd1 := hdb.1
    have hd2 := hdb.2
    have hwk : walkB (startB seed y.1) (y.1 : Int) 0 (d - 0).toNat = sigL seed m y.1 := by rw [hgk, Int.sub_zero]
    obtain ⟨z, hz⟩ : ∃ z, sigL seed m y.1 = z := ⟨_, rfl⟩
    have hzD : IsD z := by rw [← hz]; exact isD_sig HX.out m y.1
    rw [hz] at hwk
    have HWK := Lib.hid hwk
    have HGK := Lib.hid hz
    have HZD := Lib.hid hzD
    have HIZ := Lib.hid (infoD hzD)
    have HLZ := Lib.hid (lenD hzD isD_zer)
    have HZ32 := Lib.hid (show (ofK .u8 z).length = 32 by rw [length_ofK, hzD.1])
    have HW := Lib.hid (And.intro hI (And.intro hbx hrw))
    have hlbW := hbx.lt
    have hy0 : (0 : Int) ≤ (y.1 : Int) := by omega
    have hy1 : (y.1 : Int) < 67 := by have := y.2; omega
    have HB := Lib.hid (And.intro hlbW hlt)
    have HS := Lib.hid (show ∀ w', Below W.heap.size W w' → w'.rangeAt Bx 0 (ofK .u8 (startB seed y.1)) ∧ w'.cell? ⟨db, 0, none⟩ = some (.slice (some ⟨dg, dgo, none⟩) 67 dcp) ∧ w'.cell? ⟨dg, dgo + y.1, none⟩ = some (.int .i64 d) from fun w' hb => ⟨rangeW_below (rangeW_blk bX) hb, (hb.cell (p := ⟨db, 0, none⟩) (block_of_cell hdbx)).trans hdbx, (hb.cell (p := ⟨dg, dgo + y.1, none⟩) (block_of_cell hdw)).trans hdw⟩)
    clear hI hbx hrw bX hlt hlbW hdb hds hdw0 hdw hdbx hgk hwk hz hzD hkd
    have H7 := Lib.hid ((Below.refl W.heap.size W).drew)
    gi_wp2_with fail
    refine wpIn_region_takes (WideF.round l) (no_defer rfl) (fun w' => w'.rangeAt Bx 0 (ofK .u8 (startB seed y.1)) ∧ w'.cell? ⟨db, 0, none⟩ = some (.slice (some ⟨dg, dgo, none⟩) 67 dcp) ∧ w'.cell? ⟨dg, dgo + y.1, none⟩ = some (.int .i64 d)) [0, 1, 2, 3, 4, 5] 7 (by kernel_rfl) rfl (by kernel_rfl) (by kernel_rfl) (HS.out _ H7.out) ?_
    have HG7 := Lib.hid (show W.heap.size ≤ W.drew.heap.size from Nat.le_refl _)
    generalize W.drew = v0 at H7 HG7 ⊢
    refine' HeldL.run ?_ ?_ ?_ ?_; rotate_left 2; (simp only [List.getElem?_toArray, List.getElem?_cons_zero, List.getElem?_cons_succ]; rfl); rfl; (rintro w' ⟨k0, k1, k2⟩; exact exec_load_mid rfl rfl k0 Try.underlying23 rfl HIY.out); simp only [Act.put, List.setIfInBounds_toArray, List.set_cons_zero, List.set_cons_succ]
    iterate 5 (refine' HeldL.run ?_ ?_ ?_ ?_; rotate_left 2; (simp only [List.getElem?_toArray, List.getElem?_cons_zero, List.getElem?_cons_succ]; rfl); rfl; (rintro w' ⟨k0, k1, k2⟩; go_simp; with_reducible rfl); simp only [Act.put, List.setIfInBounds_toArray, List.set_cons_zero, List.set_cons_succ])
    refine' wpAnyH_two 6 10 (by kernel_rfl) ?_ ?_ ?_ ?_; rotate_left 2; (simp only [List.getElem?_toArray, List.getElem?_cons_zero, List.getElem?_cons_succ]; rfl); (simp only [List.getElem?_toArray, List.getElem?_cons_zero, List.getElem?_cons_succ]; rfl)
    · skip
      skip
      try simp only [Act.put]
      go_wp2_with fail
      refine (chain_ok (startB seed y.1) y.1 0 d v0 HY.out hy0 hy1 (by omega) hd1 hd2).mono ?_
      rintro e v1 ⟨rfl, hb⟩
      rw [HWK.out]
      have H8 := Lib.hid (below_thn H7.out hb (Nat.le_refl _))
      clear hb
      try go_wp2_with fail
      refine QK.normal ⟨HS.out _ H8.out, ?_⟩
      refine wpAnyH_takes (fuel := 3) (by kernel_rfl) QN.noPanic (HS.out _ H8.out) [7, 8, 9] _ _ (by kernel_rfl) ?_
      try simp only [Act.put]
      iterate 3 (refine' HeldL.run ?_ ?_ ?_ ?_; rotate_left 2; (simp only [List.getElem?_toArray, List.getElem?_cons_zero, List.getElem?_cons_succ]; rfl); rfl; (rintro w' ⟨k0, k1, k2⟩; go_simp; with_reducible rfl); simp only [Act.put, List.setIfInBounds_toArray, List.set_cons_zero, List.set_cons_succ])
      refine' wpAnyH_one 10 (by kernel_rfl) ?_ ?_; rotate_left; (simp only [List.getElem?_toArray, List.getElem?_cons_zero, List.getElem?_cons_succ]; rfl)
      refine wpList_alloc_blk v1 rfl 23 rfl (ofK .u8 zer32) Try.zeroId ?_
      intro v2 hb hbel hsz
      have H9 := Lib.hid (below_thn H8.out hbel (Nat.le_refl _))
      have HAL := Lib.hid hb
      clear hb hbel hsz
      simp only [Act.put, List.setIfInBounds_toArray, List.set_cons_zero, List.set_cons_succ]
      refine QK.normal ⟨HS.out _ H9.out, ?_⟩
      refine' wpAnyH_one 11 (by kernel_rfl) ?_ ?_; rotate_left; (simp only [List.getElem?_toArray, List.getElem?_cons_zero, List.getElem?_cons_succ]; rfl)
      refine wpList_store_blk v2 rfl 23 (.tmp 9) (.tmp 25) rfl v1.heap.size 23 (ofK .u8 zer32) (ofK .u8 z) HAL.out rfl rfl HLZ.out HIZ.out (one_ofK _ _) ?_
      intro u9 hb hc hs
      have HN := Lib.hid (show u9.rangeAt v1.heap.size 0 (ofK .u8 z) ∧ Below W.heap.size W u9 from ⟨rangeW_blk hb, below_ch H9.out hc (Nat.le_refl _) (fun k hk => by have : k = v1.heap.size := hk; have := H8.out.size; omega)⟩)
      clear hb hc hs
      simp only [Act.put, List.setIfInBounds_toArray, List.set_cons_zero, List.set_cons_succ]
      refine QK.normal ⟨HS.out _ HN.out.2, ?_⟩
      refine' wpAnyH_one 12 (by kernel_rfl) ?_ ?_; rotate_left; (simp only [List.getElem?_toArray, List.getElem?_cons_zero, List.getElem?_cons_succ]; rfl)
      try simp only [Act.put]
      go_wp2_with fail
      refine QK.normal ⟨HS.out _ HN.out.2, ?_⟩
      refine wpAnyH_done (by kernel_rfl) ?_ _
      refine QN.normal ?_
      have hcl := (HW.out.2.1.below HN.out.2 HB.out.1).cell 0
      simp only [List.getElem?_cons_zero] at hcl
      gi_wp2_with (first
        | (with_reducible refine inL_load (WideF.round l) u9 rfl 23 (.tmp 9) rfl v1.heap.size 0 rfl (ofK .u8 z) _ HN.out.1 Try.underlying23 rfl HIZ.out ?_)
        | ((with_reducible refine inL_slice1 (WideF.round l) u9 rfl 54 (.tmp 28) rfl Try.underlying54 Try.sizeId Try.zeroId Try.id1 Try.id2 (ofK .u8 z) HZ32.out rfl ?_); intro w8 hb hbel hsz; have H8 := Lib.hid (show Blk w8 u9.heap.size 23 (ofK .u8 z) ∧ Below W.heap.size W w8 from ⟨hb, below_thn HN.out.2 hbel (Nat.le_refl _)⟩); have H8o := Lib.hid (own_ch HW.out.2.2 (Ch.of_below (S := fun _ => False) H8.out.2 (Nat.le_refl _)) (fun _ _ h => h)); clear hb hbel hsz)
        | (with_reducible refine inL_append_id (WideF.round l) w8 rfl (.tmp 27) (.tmp 29) rfl W0.heap.size (.slice ao pre.length cp) pre.length (pre.map (fun i : Fin 67 => sigL seed m i.1)) rfl H8o.out u9.heap.size z rfl H8.out.1 HZD.out (by have := HB.out.2; omega) (by have := HW.out.1.keep.size; have := H8.out.2.size; omega) ?_; intro ao2 cp2 w9 ho hgr; have H9 := Lib.hid (And.intro ho (And.intro hgr (show Blk w9 lb 54 [.slice ao pre.length cp] from by have h8b := HW.out.2.1.below H8.out.2 HB.out.1; exact h8b.keep (ch_grown hgr) (fun e => by have := (H8o.out.lt lb e).1; have := HL.out; omega)))); clear ho hgr)
        | ((with_reducible refine inL_store1 (WideF.round l) w9 rfl 54 (.tmp 6) (.tmp 30) rfl lb 0 54 [.slice ao pre.length cp] H9.out.2.2 rfl (.slice ao2 (pre.length + 1) cp2) rfl (by simp) Try.infoIds rfl rfl ?_); intro w10 hb hc hs; have H10 := Lib.hid (show Blk w10 lb 54 [.slice ao2 (pre.length + 1) cp2] ∧ Ch (· = lb) w9 w10 from ⟨hb, hc⟩); clear hb hc hs))
      exact HW.out.1.next HW.out.2.1 HW.out.2.2 (by have := HL.out; omega) H8.out.2 (by rw [HGK.out]; exact H9.out.1) H9.out.2.1 H10.out.1 H10.out.2
    · skip
      refine wpList_alloc_blk v0 rfl 23 rfl (ofK .u8 zer32) Try.zeroId ?_
      intro v1 hb hbel hsz
      have H8 := Lib.hid (below_thn H7.out hbel (Nat.le_refl _))
      have HAL := Lib.hid hb
      clear hb hbel hsz
      simp only [Act.put, List.setIfInBounds_toArray, List.set_cons_zero, List.set_cons_succ]
      refine QK.normal ⟨HS.out _ H8.out, ?_⟩
      refine' wpAnyH_one 6 (by kernel_rfl) ?_ ?_; rotate_left; (simp only [List.getElem?_toArray, List.getElem?_cons_zero, List.getElem?_cons_succ]; rfl)
      try simp only [Act.put]
      go_wp2_with fail
      refine (chain_ok (startB seed y.1) y.1 0 d v1 HY.out hy0 hy1 (by omega) hd1 hd2).mono ?_
      rintro e v2 ⟨rfl, hb⟩
      rw [HWK.out]
      have H9 := Lib.hid (below_thn H8.out hb (Nat.le_refl _))
      replace HAL := Lib.hid (HAL.out.below hb HAL.out.lt)
      clear hb
      try go_wp2_with fail
      refine QK.normal ⟨HS.out _ H9.out, ?_⟩
      refine wpAnyH_takes (fuel := 2) (by kernel_rfl) QN.noPanic (HS.out _ H9.out) [7, 8, 9] _ _ (by kernel_rfl) ?_
      try simp only [Act.put]
      iterate 3 (refine' HeldL.run ?_ ?_ ?_ ?_; rotate_left 2; (simp only [List.getElem?_toArray, List.getElem?_cons_zero, List.getElem?_cons_succ]; rfl); rfl; (rintro w' ⟨k0, k1, k2⟩; go_simp; with_reducible rfl); simp only [Act.put, List.setIfInBounds_toArray, List.set_cons_zero, List.set_cons_succ])
      refine' wpAnyH_one 11 (by kernel_rfl) ?_ ?_; rotate_left; (simp only [List.getElem?_toArray, List.getElem?_cons_zero, List.getElem?_cons_succ]; rfl)
      refine wpList_store_blk v2 rfl 23 (.tmp 9) (.tmp 25) rfl v0.heap.size 23 (ofK .u8 zer32) (ofK .u8 z) HAL.out rfl rfl HLZ.out HIZ.out (one_ofK _ _) ?_
      intro u9 hb hc hs
      have HN := Lib.hid (show u9.rangeAt v0.heap.size 0 (ofK .u8 z) ∧ Below W.heap.size W u9 from ⟨rangeW_blk hb, below_ch H9.out hc (Nat.le_refl _) (fun k hk => by have : k = v0.heap.size := hk; have := HG7.out; omega)⟩)
      clear hb hc hs
      simp only [Act.put, List.setIfInBounds_toArray, List.set_cons_zero, List.set_cons_succ]
      refine QK.normal ⟨HS.out _ HN.out.2, ?_⟩
      refine' wpAnyH_one 12 (by kernel_rfl) ?_ ?_; rotate_left; (simp only [List.getElem?_toArray, List.getElem?_cons_zero, List.getElem?_cons_succ]; rfl)
      try simp only [Act.put]
      go_wp2_with fail
      refine QK.normal ⟨HS.out _ HN.out.2, ?_⟩
      refine wpAnyH_done (by kernel_rfl) ?_ _
      refine QN.normal ?_
      have hcl := (HW.out.2.1.below HN.out.2 HB.out.1).cell 0
      simp only [List.getElem?_cons_zero] at hcl
      gi_wp2_with (first
        | (with_reducible refine inL_load (WideF.round l) u9 rfl 23 (.tmp 9) rfl v0.heap.size 0 rfl (ofK .u8 z) _ HN.out.1 Try.underlying23 rfl HIZ.out ?_)
        | ((with_reducible refine inL_slice1 (WideF.round l) u9 rfl 54 (.tmp 28) rfl Try.underlying54 Try.sizeId Try.zeroId Try.id1 Try.id2 (ofK .u8 z) HZ32.out rfl ?_); intro w8 hb hbel hsz; have H8 := Lib.hid (show Blk w8 u9.heap.size 23 (ofK .u8 z) ∧ Below W.heap.size W w8 from ⟨hb, below_thn HN.out.2 hbel (Nat.le_refl _)⟩); have H8o := Lib.hid (own_ch HW.out.2.2 (Ch.of_below (S := fun _ => False) H8.out.2 (Nat.le_refl _)) (fun _ _ h => h)); clear hb hbel hsz)
        | (with_reducible refine inL_append_id (WideF.round l) w8 rfl (.tmp 27) (.tmp 29) rfl W0.heap.size (.slice ao pre.length cp) pre.length (pre.map (fun i : Fin 67 => sigL seed m i.1)) rfl H8o.out u9.heap.size z rfl H8.out.1 HZD.out (by have := HB.out.2; omega) (by have := HW.out.1.keep.size; have := H8.out.2.size; omega) ?_; intro ao2 cp2 w9 ho hgr; have H9 := Lib.hid (And.intro ho (And.intro hgr (show Blk w9 lb 54 [.slice ao pre.length cp] from by have h8b := HW.out.2.1.below H8.out.2 HB.out.1; exact h8b.keep (ch_grown hgr) (fun e => by have := (H8o.out.lt lb e).1; have := HL.out; omega)))); clear ho hgr)
        | ((with_reducible refine inL_store1 (WideF.round l) w9 rfl 54 (.tmp 6) (.tmp 30) rfl lb 0 54 [.slice ao pre.length cp] H9.out.2.2 rfl (.slice ao2 (pre.length + 1) cp2) rfl (by simp) Try.infoIds rfl rfl ?_); intro w10 hb hc hs; have H10 := Lib.hid (show Blk w10 lb 54 [.slice ao2 (pre.length + 1) cp2] ∧ Ch (· = lb) w9 w10 from ⟨hb, hc⟩); clear hb hc hs))
      exact HW.out.1.next HW.out.2.1 HW.out.2.2 (by have := HL.out; omega) H8.out.2 (by rw [HGK.out]; exact H9.out.1) H9.out.2.1 H10.out.1 H10.out.2
  case done =>
    rintro D xs W hD rfl hI hK
    obtain ⟨ao, cp, hbx, hrw⟩ := hI.box
    rw [List.length_finRange] at hbx hrw
    rw [fin_row] at hrw
    have hcl := hbx.cell 0
    simp only [List.getElem?_cons_zero] at hcl
    have HW := Lib.hid (And.intro hI.keep (And.intro hrw hK))
    clear hI hbx hrw hK
    go_wp2_with fail
    have hK2 := HW.out.2.2
    have hg2 := grownBy_putObj' W D (.deferred none)
    have hr2 : ∀ r, some D = some r → ∃ o : Obj, W.heap[r]? = some o ∧ o.isCells = false := fun r e => by cases e; exact ⟨_, hK2, rfl⟩
    have hb6 : Below w.heap.size w W := below_ch HP.out.1 HW.out.1 (Nat.le_refl _) (fun k hk => by have e : k = lb := hk; have := HL.out; omega)
    refine ⟨by simp, .inl ⟨_, _, rfl, run_takeDeferred hK2, ?_⟩⟩
    refine ⟨_, results_tmp Try.results57 _ _ _, ao, cp, rfl, ownsRow_base (own_own HW.out.2.1 hg2 hr2) HP.out.1.size, ?_⟩
    exact hb6.grown hg2 hb6.size (fun k e => by cases e; have := HL.out; omega)
  case stop =>
    rintro D c pre W _ _ h _
    exact h.elim

end Go.Proofs.Ytkbhehnpgnilmaa
