/-
  Package wots: Key, walked. Conditions: a seed of 32 bytes.
-/
import Derived.Test.YtkbhehnpgnilmaaWtL
namespace Go.Proofs.Ytkbhehnpgnilmaa
open Go Go.RowKit Go.Shelf
set_option linter.unusedSimpArgs false
attribute [local go_sem] Oper.semAt_some

set_option maxRecDepth 100000 in
set_option maxHeartbeats 8000000 in
theorem key_any (seed : List Int) (w : World) (hs : IsD seed) :
    Calls Try.prog 61 #[.agg (ofK .u8 seed).toArray] w (fun e w' => e = .returned (.agg (ofK .u8 (keyOf seed)).toArray) ∧ Below w.heap.size w w') := by
  have HX := Lib.hid hs
  have HI := Lib.hid (infoD hs)
  clear hs
  have hg := (by kernel_rfl : Try.prog.funcs[61]? = some Try.f61)
  refine callsIn_wide.1 (callsIn_of_wp_marks (F := Fence.wide) (n := 9) (fn := Try.f61) hg rfl trivial (wpIn_wide.2 ?_) rfl)
  simp only [Try.ntmps61, List.size_toArray, List.length_cons, List.length_nil, Nat.reduceAdd, Nat.reduceSub, Array.replicate_succ, Array.replicate_zero, List.push_toArray, List.append_toArray, List.nil_append, List.cons_append]
  clear hg
  go_wp2_with (first
    | (with_reducible refine wpList_box_blk w rfl 23 (.tmp 0) rfl (ofK .u8 seed) rfl ?_; intro w1 hb hbel hsz; have HB1 := Lib.hid (And.intro hb (And.intro hbel hsz)); clear hb hbel hsz)
    | ((with_reducible refine wpList_alloc_blk w1 rfl 23 rfl (ofK .u8 zer32) Try.zeroId ?_); intro w3 hb hbel hsz; have HB3 := Lib.hid (PreI.mk (w := w) (HB1.out.1.below hbel HB1.out.1.lt) hb (below_thn HB1.out.2.1 hbel (Nat.le_refl _)) (by have := HB1.out.2.2; omega)); have HRX := Lib.hid (fun o => rangeW_below (rangeW_blk HB3.out.box) ((Below.refl _ w3).alloc (Nat.le_refl _) o)); have HZ := Lib.hid (And.intro hsz HB1.out.2.2); clear hb hbel hsz)
    | (with_reducible refine wpList_load_any rfl 23 (.tmp 1) rfl w.heap.size 0 rfl (ofK .u8 seed) _ (HRX.out _) Try.underlying23 rfl HI.out ?_))
  refine (starts_any seed _).mono ?_
  rintro e W0 ⟨rfl, hbs, hb0⟩
  obtain ⟨w4, hw4⟩ : ∃ w4, w3.alloc (.cells #[.slice none 0 0] 54) = w4 := ⟨_, rfl⟩
  have hz4 : w4.heap.size = w3.heap.size + 1 := by rw [← hw4, World.size_alloc]
  have hl4 : Blk w4 w3.heap.size 54 [.slice none 0 0] := by rw [← hw4]; exact Blk.new _ _ _
  have hb4 : Below w3.heap.size w3 w4 := by rw [← hw4]; exact (Below.refl _ _).alloc (Nat.le_refl _) _
  rw [hw4] at hbs hb0 ⊢
  have HP := Lib.hid (show PreI w w.heap.size seed w1.heap.size W0 from (HB3.out.below hb4).below hb0)
  obtain ⟨lb, hlb⟩ : ∃ lb, w3.heap.size = lb := ⟨_, rfl⟩
  have HL := Lib.hid (show Blk W0 lb 54 [.slice none 0 0] ∧ Blk W0 w4.heap.size 23 (ofK .u8 seed) ∧ lb < w4.heap.size ∧ w4.heap.size < W0.heap.size ∧ w.heap.size ≤ lb ∧ w1.heap.size < lb from ⟨by rw [← hlb]; exact hl4.below hb0 hl4.lt, hbs, by omega, hbs.lt, by have := HZ.out; omega, by have := HZ.out; omega⟩)
  rw [hlb]
  obtain ⟨Bs, hBs⟩ : ∃ Bs, w4.heap.size = Bs := ⟨_, rfl⟩
  rw [hBs] at HL ⊢
  clear hbs hb0 hw4 hz4 hl4 hb4 hlb hBs HZ HRX HB3 HB1
  go_wp2_with fail
  refine (wpIn_wide (n := 9)).1 ?_
  refine wpIn_rangeFunc_ownH (F := Fence.wide) rfl (by omega) (gf := 117) (lb := #[.pointer (some ⟨Bs, 0, none⟩)]) rfl trivial (enters_of Try.func117 (by kernel_rfl) rfl)
    (starts_stops seed HX.out W0.heap.size lb Bs W0 HL.out.2.1 HL.out.2.2.2.1 (by have := HL.out; omega)) Kq.trans (fun W l o o' h1 h2 h3 h4 => Kq.putObj (w := W0) (Nat.le_refl _) W l o o' h1 h2 h3 h4) (Below.refl _ _) (fun _ => rfl)
    (LoopI W0 lb (fun i => endL seed i.1)) (fun _ _ _ => False) (LoopI.own W0 lb _) (fun _ _ _ _ _ h _ _ => h) (LoopI.start W0 lb _ HL.out.1)
    (fun y a' W => ∃ Bx, W0.heap.size ≤ Bx ∧ Blk W Bx 23 (ofK .u8 (startB seed y.1)) ∧ a' = { tmps := #[.agg (ofK .u8 seed).toArray, .pointer (some ⟨w.heap.size, 0, none⟩), .pointer (some ⟨w1.heap.size, 0, none⟩), .pointer (some ⟨lb, 0, none⟩), .int .i64 y.1, .pointer (some ⟨Bx, 0, none⟩), undef, undef, .agg (ofK .u8 seed).toArray, .func (.func 117) #[] #[.pointer (some ⟨Bs, 0, none⟩)], .int .i64 y.1, .agg (ofK .u8 (startB seed y.1)).toArray, undef, undef, undef, undef, undef, undef, undef, undef, undef, undef, undef, undef], defers := [] })
    (fun x a' _ X Y row hs hg hr => by obtain ⟨Bx, h1, h2, h3⟩ := hs; exact ⟨Bx, h1, blk_own h2 hg (fun r e => (hr r e).2), h3⟩)
    ?assign ?body ?done ?stop
  case assign =>
    rintro l pre y W K hI hK
    have hyD := isD_start HX.out y.1
    have HIY := Lib.hid (infoD hyD)
    have HLY := Lib.hid (lenD hyD isD_zer)
    have HW := Lib.hid hI
    clear hI hyD
    rw [zip2, foldl2]
    simp only [List.setIfInBounds_toArray, List.set_cons_zero, List.set_cons_succ]
    gi_wp2_with (first
      | ((with_reducible refine inL_alloc (WideF.round l) W rfl 23 rfl (ofK .u8 zer32) Try.zeroId ?_); intro W1 hb hbel hsz; have HB1 := Lib.hid (And.intro hb hbel); clear hb hbel hsz)
      | ((with_reducible refine inL_store (WideF.round l) W1 rfl 23 (.tmp 5) (.tmp 11) rfl W.heap.size 23 (ofK .u8 zer32) (ofK .u8 (startB seed y.1)) HB1.out.1 rfl rfl HLY.out HIY.out (one_ofK _ _) ?_); intro W2 hb hc hs; have HB2 := Lib.hid (And.intro hb (below_ch HB1.out.2 hc (Nat.le_refl _) (fun k hk => by have : k = W.heap.size := hk; omega))); clear hb hc hs))
    have h4 : Ch (fun _ => False) W W2 := Ch.of_below HB2.out.2 (Nat.le_refl _)
    obtain ⟨ao, cp, hbx, hrw⟩ := HW.out.box
    exact hK _ _ ⟨h4.size, fun k o _ hk ho => (h4.block k (Array.getElem?_eq_some_iff.1 hk).1 id).trans hk⟩ (fun k hk _ => h4.block k (by have := HW.out.keep.size; omega) id) ⟨⟨ao, cp, hbx.keep h4 id, own_ch hrw h4 (fun _ _ h => h)⟩, HW.out.keep.trans (h4.mono (fun _ h => h.elim))⟩ ⟨W.heap.size, HW.out.keep.size, HB2.out.1, rfl⟩
  case body =>
    rintro l pre y a' W hl - hI ⟨Bx, hBx, bX, rfl⟩ hlt
    obtain ⟨ao, cp, hbx, hrw⟩ := hI.box
    have HY := Lib.hid (isD_start HX.out y.1)
    have HIY := Lib.hid (infoD HY.out)
    have HE := Lib.hid (isD_end HX.out y.1)
    have HIE := Lib.hid (infoD HE.out)
    have HLE := Lib.hid (lenD HE.out isD_zer)
    have HE32 := Lib.hid (show (ofK .u8 (endL seed y.1)).length = 32 by rw [length_ofK, HE.out.1])
    have HRX := Lib.hid (rangeW_blk bX)
    have HW := Lib.hid (And.intro hI (And.intro hbx hrw))
    have hlb := hbx.lt
    have hy0 : (0 : Int) ≤ (y.1 : Int) := by omega
    have hy1 : (y.1 : Int) < 67 := by have := y.2; omega
    have HB := Lib.hid (And.intro hlb hlt)
    clear hI hbx hrw bX hlt hlb
    gi_wp2_with (with_reducible refine inL_load (WideF.round l) W rfl 23 (.tmp 5) rfl Bx 0 rfl (ofK .u8 (startB seed y.1)) _ HRX.out Try.underlying23 rfl HIY.out ?_)
    refine ⟨trivial, ?_⟩
    refine (CallsIn.inRound l (callsIn_wide.2 (chain_ok (startB seed y.1) y.1 0 15 W HY.out hy0 hy1 (by omega) (by omega) (by omega)))).mono ?_
    rintro e w5 ⟨rfl, hb5⟩
    have H5 := Lib.hid hb5
    clear hb5
    rw [show walkB (startB seed y.1) (y.1 : Int) 0 ((15 : Int) - 0).toNat = endL seed y.1 from rfl]
    gi_wp2_with (first
      | ((with_reducible refine inL_alloc (WideF.round l) w5 rfl 23 rfl (ofK .u8 zer32) Try.zeroId ?_); intro w6 hb hbel hsz; have H6 := Lib.hid (And.intro hb (below_thn H5.out hbel (Nat.le_refl _))); clear hb hbel hsz)
      | ((with_reducible refine inL_store (WideF.round l) w6 rfl 23 (.tmp 6) (.tmp 16) rfl w5.heap.size 23 (ofK .u8 zer32) (ofK .u8 (endL seed y.1)) H6.out.1 rfl rfl HLE.out HIE.out (one_ofK _ _) ?_); intro w7 hb hc hs; have H7 := Lib.hid (show w7.rangeAt w5.heap.size 0 (ofK .u8 (endL seed y.1)) ∧ Below W.heap.size W w7 from ⟨rangeW_blk hb, below_ch H6.out.2 hc (Nat.le_refl _) (fun k hk => by have : k = w5.heap.size := hk; have := H5.out.size; omega)⟩); have hcl := (HW.out.2.1.below H7.out.2 HB.out.1).cell 0; simp only [List.getElem?_cons_zero] at hcl; clear hb hc hs)
      | (with_reducible refine inL_load (WideF.round l) w7 rfl 23 (.tmp 6) rfl w5.heap.size 0 rfl (ofK .u8 (endL seed y.1)) _ H7.out.1 Try.underlying23 rfl HIE.out ?_)
      | ((with_reducible refine inL_slice1 (WideF.round l) w7 rfl 54 (.tmp 19) rfl Try.underlying54 Try.sizeId Try.zeroId Try.id1 Try.id2 (ofK .u8 (endL seed y.1)) HE32.out rfl ?_); intro w8 hb hbel hsz; have H8 := Lib.hid (show Blk w8 w7.heap.size 23 (ofK .u8 (endL seed y.1)) ∧ Below W.heap.size W w8 from ⟨hb, below_thn H7.out.2 hbel (Nat.le_refl _)⟩); have H8o := Lib.hid (own_ch HW.out.2.2 (Ch.of_below (S := fun _ => False) H8.out.2 (Nat.le_refl _)) (fun _ _ h => h)); clear hb hbel hsz)
      | (with_reducible refine inL_append_id (WideF.round l) w8 rfl (.tmp 18) (.tmp 20) rfl W0.heap.size (.slice ao pre.length cp) pre.length (pre.map (fun i => endL seed i.1)) rfl H8o.out w7.heap.size (endL seed y.1) rfl H8.out.1 HE.out (by have := HB.out.2; omega) (by have := HW.out.1.keep.size; have := H8.out.2.size; omega) ?_; intro ao2 cp2 w9 ho hgr; have H9 := Lib.hid (And.intro ho (And.intro hgr (show Blk w9 lb 54 [.slice ao pre.length cp] from by have h8b := HW.out.2.1.below H8.out.2 HB.out.1; exact h8b.keep (ch_grown hgr) (fun e => by have := (H8o.out.lt lb e).1; have := HL.out; omega)))); clear ho hgr)
      | ((with_reducible refine inL_store1 (WideF.round l) w9 rfl 54 (.tmp 3) (.tmp 21) rfl lb 0 54 [.slice ao pre.length cp] H9.out.2.2 rfl (.slice ao2 (pre.length + 1) cp2) rfl (by simp) Try.infoIds rfl rfl ?_); intro w10 hb hc hs; have H10 := Lib.hid (show Blk w10 lb 54 [.slice ao2 (pre.length + 1) cp2] ∧ Ch (· = lb) w9 w10 from ⟨hb, hc⟩); clear hb hc hs))
    exact HW.out.1.next HW.out.2.1 HW.out.2.2 (by have := HL.out; omega) H8.out.2 H9.out.1 H9.out.2.1 H10.out.1 H10.out.2
  case done =>
    rintro D xs W hD rfl hI hK
    obtain ⟨ao, cp, hbx, hrw⟩ := hI.box
    rw [List.length_finRange] at hbx hrw
    have hd : ∀ x ∈ rowL (endL seed) 67, IsD x := rowL_D (fun i hi => isD_end HX.out i)
    have HRD := Lib.hid hd
    have HQ := Lib.hid (isD_sum (digB_allB (c := 75) (nums := []) (by omega) hd))
    have HIQ := Lib.hid (infoD HQ.out)
    have HLQ := Lib.hid (lenD HQ.out isD_zer)
    rw [fin_row] at hrw
    have hcl := hbx.cell 0
    simp only [List.getElem?_cons_zero] at hcl
    have HW := Lib.hid (And.intro hI.keep (And.intro hrw hK))
    clear hI hbx hrw hd hK
    go_wp2_with fail
    refine (digest_any 75 _ [] _ (rowL (endL seed) 67) W (by omega) (Sl.nil W) (by simp) (fun _ h => by cases h) (SlD.of_owns HW.out.2.1 (by rw [rowL_length]) HRD.out) (by rw [rowL_length]; omega) HRD.out).mono ?_
    rintro e w8 ⟨rfl, hb8⟩
    have H8 := Lib.hid (show Blk w8 w1.heap.size 23 (ofK .u8 zer32) ∧ Below w.heap.size w w8 ∧ w8.heap[D]? = some (.deferred (some [])) from ⟨((HP.out.res.keep HW.out.1 (fun e => by have := HL.out; omega)).below hb8 (by have := (HP.out.res.keep HW.out.1 (fun e => by have := HL.out; omega)).lt; exact this)), below_thn (below_ch HP.out.bel HW.out.1 (Nat.le_refl _) (fun k hk => by have e : k = lb := hk; have := HL.out; omega)) hb8 (Nat.le_refl _), (hb8.block D (lt_of_block HW.out.2.2)).trans HW.out.2.2⟩)
    clear hb8
    go_wp2_with ((with_reducible refine wpList_store_blk w8 rfl 23 (.tmp 2) (.tmp 23) rfl w1.heap.size 23 (ofK .u8 zer32) (ofK .u8 (sumL (digB 75 [] (rowL (endL seed) 67)))) H8.out.1 rfl rfl HLQ.out HIQ.out (one_ofK _ _) ?_); intro w9 hb hc hs; have H9 := Lib.hid (And.intro hb hc); clear hb hc hs)
    have hK2 : w9.heap[D]? = some (.deferred (some [])) := (H9.out.2.block D (lt_of_block H8.out.2.2) (fun e => by have e : D = w1.heap.size := e; have := HL.out; omega)).trans H8.out.2.2
    try rw [Exit.noGoto_ret]
    refine ⟨by simp, .inl ⟨_, _, rfl, run_takeDeferred hK2, ?_⟩⟩
    have hb5 := blk_own H9.out.1 (grownBy_putObj' w9 D (.deferred none)) (fun r e => by cases e; exact ⟨_, hK2, rfl⟩)
    refine ⟨_, results_blk Try.results61 _ _ w1.heap.size _ _ rfl hb5 _ Try.underlying23 rfl HIQ.out, rfl, ?_⟩
    have hb6 : Below w.heap.size w w9 := below_ch H8.out.2.1 H9.out.2 (Nat.le_refl _) (fun k hk => by have e : k = w1.heap.size := hk; have := HP.out.le; omega)
    exact hb6.grown (grownBy_putObj' w9 D (.deferred none)) hb6.size (fun k e => by cases e; have := HL.out; omega)
  case stop =>
    rintro D c pre W _ _ h _
    exact h.elim

end Go.Proofs.Ytkbhehnpgnilmaa
