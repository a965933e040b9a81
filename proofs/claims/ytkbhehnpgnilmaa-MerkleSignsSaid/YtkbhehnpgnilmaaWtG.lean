/-
  Law 06: step, start and walk, walked. Conditions: bytes; numbers of chains and steps.
-/
import Derived.Test.YtkbhehnpgnilmaaWtF
namespace Go.Proofs.Ytkbhehnpgnilmaa
open Go Go.RowKit
set_option linter.unusedSimpArgs false

set_option maxRecDepth 100000 in
set_option maxHeartbeats 4000000 in
theorem lstep_any (x : List Int) (c n : Int) (w : World) (hx : IsD x) (hc0 : 0 ≤ c) (hc1 : c < 256) (hn0 : 0 ≤ n) (hn1 : n < 256) :
    Calls Try.prog 55 #[.agg (ofK .u8 x).toArray, .int .i64 c, .int .i64 n] w (fun e w' => e = .returned (.agg (ofK .u8 (stepB x c n)).toArray) ∧ Below w.heap.size w w') := by
  obtain ⟨i0, hi, hz0, hz1, hz2⟩ := info_parts Try.info5
  have HX := Lib.hid hx
  have ec : c % 256 = c := by omega
  have en : n % 256 = n := by omega
  have HQ := Lib.hid (show digB 67 [c, n] [x] = [67, c, n] ++ x from by simp [digB, ec, en])
  have HQA := Lib.hid (digB_allB (c := 67) (nums := [c, n]) (l := [x]) (by omega) (all1 hx))
  have HS := Lib.hid (isD_sum HQA.out)
  have HSI := Lib.hid (infoD HS.out)
  have HSL := Lib.hid (lenD HS.out isD_zer)
  have wc : IntKind.u8.wrap c = c := by rw [IntKind.wrap_u8]; omega
  have wn : IntKind.u8.wrap n = n := by rw [IntKind.wrap_u8]; omega
  clear hx
  go_enter Try.func55, Try.ntmps55
  go_wp2_with (first
    | (with_reducible refine wpList_box_blk w rfl 23 (.tmp 0) rfl (ofK .u8 x) rfl ?_; intro w1 hb1 hbel1 hsz1; have HB1 := Lib.hid (And.intro hb1 (And.intro hbel1 hsz1)); clear hb1 hbel1 hsz1)
    | ((with_reducible refine wpList_alloc_blk w1 rfl 23 rfl (ofK .u8 zer32) Try.zeroId ?_); intro w2 hb hbel hsz; have HB2 := Lib.hid (And.intro hb (And.intro (HB1.out.1.below hbel HB1.out.1.lt) (And.intro (below_thn HB1.out.2.1 hbel (Nat.le_refl _)) (show w.heap.size < w1.heap.size ∧ w1.heap.size < w2.heap.size by have := HB1.out.2.2; omega)))); clear hb hbel hsz)
    | (at_builtin; refine wpList_append_sl (w2.alloc (.cells #[.int .u8 67, .int .u8 c, .int .u8 n] 5)) rfl (.tmp 11) (.tmp 12) 33 rfl w2.heap.size 5 i0 (.int .u8 0) 1 Try.underlying33 hi hz0 hz1 hz2 rfl _ 3 (ofK .u8 [67, c, n]) rfl (Blk.owns (xs := ofK .u8 [67, c, n]) (Blk.new w2 (ofK .u8 [67, c, n]) 5) (Nat.le_refl _) (by simp [ofK, maxLen])) _ (ofK .u8 x) rfl (sl_id HX.out (HB2.out.2.1.alloc _)) (one_ofK _ _) 35 ?_ ?_ ?_ ?_ ?_))
  · rw [length_ofK, HX.out.1]
  · unfold maxLen; omega
  · omega
  · simp
  intro ao cp w3 hown hgr _
  have hb3 : Below w2.heap.size w2 w3 := ((Below.refl _ w2).alloc (Nat.le_refl _) _).grown hgr (by simp) (fun k h => by cases h; exact Nat.le_refl _)
  have H3 := Lib.hid (show w3.ownsRow w2.heap.size 5 1 (.slice ao 35 cp) 35 (ofK .u8 (digB 67 [c, n] [x])) ∧ Blk w3 w1.heap.size 23 (ofK .u8 zer32) ∧ Below w.heap.size w w3 from ⟨by rw [HQ.out]; have := hown; simp only [ofK, List.map_append] at this ⊢; exact this, HB2.out.1.below hb3 HB2.out.1.lt, below_thn HB2.out.2.2.1 hb3 (Nat.le_refl _)⟩)
  clear hown hgr hb3
  go_wp2_with fail
  refine (sum_any _ _ w3 (Sl.of_owns H3.out.1) (by rw [HQ.out]; simp [HX.out.1]) HQA.out).mono ?_
  rintro e w5 ⟨rfl, hb5⟩
  have H5 := Lib.hid (And.intro (H3.out.2.1.below hb5 H3.out.2.1.lt) (below_thn H3.out.2.2 hb5 (Nat.le_refl _)))
  clear hb5
  go_wp2_with ((with_reducible refine wpList_store_blk w5 rfl 23 (.tmp 6) (.tmp 14) rfl w1.heap.size 23 (ofK .u8 zer32) (ofK .u8 (sumL (digB 67 [c, n] [x]))) H5.out.1 rfl rfl HSL.out HSI.out (one_ofK _ _) ?_); intro w6 hb hc hs; have H6 := Lib.hid (And.intro hb hc); clear hb hc hs)
  refine bodyPost_ret (results_blk Try.results55 _ _ w1.heap.size _ _ rfl H6.out.1 _ Try.underlying23 rfl HSI.out) rfl ⟨rfl, ?_⟩
  exact below_ch H5.out.2 H6.out.2 (Nat.le_refl _) (fun k hk => by have : k = w1.heap.size := hk; have := HB2.out.2.2.2; omega)

set_option maxRecDepth 100000 in
set_option maxHeartbeats 4000000 in
theorem lstart_any (x : List Int) (c : Int) (w : World) (hx : IsD x) (hc0 : 0 ≤ c) (hc1 : c < 256) :
    Calls Try.prog 54 #[.agg (ofK .u8 x).toArray, .int .i64 c] w (fun e w' => e = .returned (.agg (ofK .u8 (startB x c)).toArray) ∧ Below w.heap.size w w') := by
  obtain ⟨i0, hi, hz0, hz1, hz2⟩ := info_parts Try.info5
  have HX := Lib.hid hx
  have ec : c % 256 = c := by omega
  have HQ := Lib.hid (show digB 83 [c] [x] = [83, c] ++ x from by simp [digB, ec])
  have HQA := Lib.hid (digB_allB (c := 83) (nums := [c]) (l := [x]) (by omega) (all1 hx))
  have HS := Lib.hid (isD_sum HQA.out)
  have HSI := Lib.hid (infoD HS.out)
  have HSL := Lib.hid (lenD HS.out isD_zer)
  have wc : IntKind.u8.wrap c = c := by rw [IntKind.wrap_u8]; omega
  clear hx
  go_enter Try.func54, Try.ntmps54
  go_wp2_with (first
    | (with_reducible refine wpList_box_blk w rfl 23 (.tmp 0) rfl (ofK .u8 x) rfl ?_; intro w1 hb1 hbel1 hsz1; have HB1 := Lib.hid (And.intro hb1 (And.intro hbel1 hsz1)); clear hb1 hbel1 hsz1)
    | ((with_reducible refine wpList_alloc_blk w1 rfl 23 rfl (ofK .u8 zer32) Try.zeroId ?_); intro w2 hb hbel hsz; have HB2 := Lib.hid (And.intro hb (And.intro (HB1.out.1.below hbel HB1.out.1.lt) (And.intro (below_thn HB1.out.2.1 hbel (Nat.le_refl _)) (show w.heap.size < w1.heap.size ∧ w1.heap.size < w2.heap.size by have := HB1.out.2.2; omega)))); clear hb hbel hsz)
    | (at_builtin; refine wpList_append_sl (w2.alloc (.cells #[.int .u8 83, .int .u8 c] 5)) rfl (.tmp 7) (.tmp 8) 33 rfl w2.heap.size 5 i0 (.int .u8 0) 1 Try.underlying33 hi hz0 hz1 hz2 rfl _ 2 (ofK .u8 [83, c]) rfl (Blk.owns (xs := ofK .u8 [83, c]) (Blk.new w2 (ofK .u8 [83, c]) 5) (Nat.le_refl _) (by simp [ofK, maxLen])) _ (ofK .u8 x) rfl (sl_id HX.out (HB2.out.2.1.alloc _)) (one_ofK _ _) 34 ?_ ?_ ?_ ?_ ?_))
  · rw [length_ofK, HX.out.1]
  · unfold maxLen; omega
  · omega
  · simp
  intro ao cp w3 hown hgr _
  have hb3 : Below w2.heap.size w2 w3 := ((Below.refl _ w2).alloc (Nat.le_refl _) _).grown hgr (by simp) (fun k h => by cases h; exact Nat.le_refl _)
  have H3 := Lib.hid (show w3.ownsRow w2.heap.size 5 1 (.slice ao 34 cp) 34 (ofK .u8 (digB 83 [c] [x])) ∧ Blk w3 w1.heap.size 23 (ofK .u8 zer32) ∧ Below w.heap.size w w3 from ⟨by rw [HQ.out]; have := hown; simp only [ofK, List.map_append] at this ⊢; exact this, HB2.out.1.below hb3 HB2.out.1.lt, below_thn HB2.out.2.2.1 hb3 (Nat.le_refl _)⟩)
  clear hown hgr hb3
  go_wp2_with fail
  refine (sum_any _ _ w3 (Sl.of_owns H3.out.1) (by rw [HQ.out]; simp [HX.out.1]) HQA.out).mono ?_
  rintro e w5 ⟨rfl, hb5⟩
  have H5 := Lib.hid (And.intro (H3.out.2.1.below hb5 H3.out.2.1.lt) (below_thn H3.out.2.2 hb5 (Nat.le_refl _)))
  clear hb5
  go_wp2_with ((with_reducible refine wpList_store_blk w5 rfl 23 (.tmp 4) (.tmp 10) rfl w1.heap.size 23 (ofK .u8 zer32) (ofK .u8 (sumL (digB 83 [c] [x]))) H5.out.1 rfl rfl HSL.out HSI.out (one_ofK _ _) ?_); intro w6 hb hc hs; have H6 := Lib.hid (And.intro hb hc); clear hb hc hs)
  refine bodyPost_ret (results_blk Try.results54 _ _ w1.heap.size _ _ rfl H6.out.1 _ Try.underlying23 rfl HSI.out) rfl ⟨rfl, ?_⟩
  exact below_ch H5.out.2 H6.out.2 (Nat.le_refl _) (fun k hk => by have : k = w1.heap.size := hk; have := HB2.out.2.2.2; omega)

set_option maxRecDepth 100000 in
set_option maxHeartbeats 4000000 in
theorem lwalk_any (x : List Int) (c a b : Int) (w : World) (hx : IsD x) (h0 : 0 ≤ c) (h1 : c < 67) (ha : 0 ≤ a) (hab : a ≤ b) (hb : b ≤ 15) :
    Calls Try.prog 56 #[.agg (ofK .u8 x).toArray, .int .i64 c, .int .i64 a, .int .i64 b] w (fun e w' => e = .returned (.agg (ofK .u8 (walkB x c a (b - a).toNat)).toArray) ∧ Below w.heap.size w w') := by
  have HX := Lib.hid hx
  clear hx
  go_enter Try.func56, Try.ntmps56
  go_wp2_with (first
    | (with_reducible refine wpList_box_blk w rfl 23 (.tmp 0) rfl (ofK .u8 x) rfl ?_; intro w1 hb1 hbel1 hsz1; have HB1 := Lib.hid (And.intro hb1 (And.intro hbel1 hsz1)); clear hb1 hbel1 hsz1)
    | ((with_reducible refine wpList_alloc_blk w1 rfl 23 rfl (ofK .u8 zer32) Try.zeroId ?_); intro w2 hb hbel hsz; have HB2 := Lib.hid (And.intro hb (And.intro (HB1.out.1.below hbel HB1.out.1.lt) (And.intro (below_thn HB1.out.2.1 hbel (Nat.le_refl _)) (show w.heap.size < w1.heap.size ∧ w1.heap.size < w2.heap.size by have := HB1.out.2.2; omega)))); clear hb hbel hsz))
  go_loopw [9] (fun i wr => ∃ k : Nat, (k : Int) ≤ b - a ∧ i = .int .i64 (a + k) ∧ Hid (Blk wr w.heap.size 23 (ofK .u8 (walkB x c a k)) ∧ Blk wr w1.heap.size 23 (ofK .u8 zer32) ∧ Below w.heap.size w wr)) (fun i _ => (b - intOf i).toNat)
  case atStart => exact ⟨0, by omega, by simp, Lib.hid ⟨HB2.out.2.1, HB2.out.1, HB2.out.2.2.1⟩⟩
  case round =>
    obtain ⟨k, hk, rfl, HR⟩ := hrel
    have HW := Lib.hid (isD_walk HX.out c a k)
    have HIW := Lib.hid (infoD HW.out)
    by_cases hlt : a + k < b
    · have HRW := Lib.hid (rangeW_blk HR.out.1)
      have HWn := Lib.hid (isD_walk HX.out c a (k + 1))
      have HIn := Lib.hid (infoD HWn.out)
      have HLn := Lib.hid (lenD HWn.out HW.out)
      go_wp2_with (with_reducible refine wpList_load_any rfl 23 (.tmp 4) rfl w.heap.size 0 rfl (ofK .u8 (walkB x c a k)) _ HRW.out Try.underlying23 rfl HIW.out ?_)
      refine (lstep_any (walkB x c a k) c (a + k) wr HW.out h0 (by omega) (by omega) (by omega)).mono ?_
      rintro e w5 ⟨rfl, hb5⟩
      have H5 := Lib.hid (And.intro (HR.out.1.below hb5 HR.out.1.lt) (And.intro (HR.out.2.1.below hb5 HR.out.2.1.lt) (below_thn HR.out.2.2 hb5 (Nat.le_refl _))))
      clear hb5 HR
      go_wp2_with ((with_reducible refine wpList_store_blk w5 rfl 23 (.tmp 4) (.tmp 19) rfl w.heap.size 23 (ofK .u8 (walkB x c a k)) (ofK .u8 (walkB x c a (k + 1))) H5.out.1 rfl rfl HLn.out HIn.out (one_ofK _ _) ?_); intro w6 hb hc hs; have H6 := Lib.hid (And.intro hb hc); clear hb hc hs)
      go_roundw
      case rel => exact ⟨k + 1, by omega, by go_num, Lib.hid ⟨H6.out.1, H5.out.2.1.keep H6.out.2 (fun (e : w1.heap.size = w.heap.size) => by have := HB2.out.2.2.2; omega), below_ch H5.out.2.2 H6.out.2 (Nat.le_refl _) (fun k hk => by have : k = w.heap.size := hk; omega)⟩⟩
      case measure => simp [intOf]; omega
    · have hkb : (b - a).toNat = k := by omega
      have HLw := Lib.hid (lenD HW.out isD_zer)
      have HRW := Lib.hid (rangeW_blk HR.out.1)
      go_wp2_with (first
        | (with_reducible refine wpList_load_any rfl 23 (.tmp 4) rfl w.heap.size 0 rfl (ofK .u8 (walkB x c a k)) _ HRW.out Try.underlying23 rfl HIW.out ?_)
        | ((with_reducible refine wpList_store_blk wr rfl 23 (.tmp 8) (.tmp 20) rfl w1.heap.size 23 (ofK .u8 zer32) (ofK .u8 (walkB x c a k)) HR.out.2.1 rfl rfl HLw.out HIW.out (one_ofK _ _) ?_); intro w6 hb hc hs; have H6 := Lib.hid (And.intro hb hc); clear hb hc hs))
      refine bodyPost_ret (results_blk Try.results56 _ _ w1.heap.size _ _ rfl H6.out.1 _ Try.underlying23 rfl HIW.out) rfl ⟨rfl, ?_⟩
      exact below_ch HR.out.2.2 H6.out.2 (Nat.le_refl _) (fun k hk => by have : k = w1.heap.size := hk; have := HB2.out.2.2.2; omega)

end Go.Proofs.Ytkbhehnpgnilmaa
