/-
  Law 06: ends, walked. Conditions: a row of at most a thousand digests.
-/
import Derived.Test.YtkbhehnpgnilmaaWtG
namespace Go.Proofs.Ytkbhehnpgnilmaa
open Go Go.RowKit
set_option linter.unusedSimpArgs false

set_option maxRecDepth 100000 in
set_option maxHeartbeats 4000000 in
theorem ends_any (vd : Value) (l : List (List Int)) (w : World) (hd : SlD w vd l) (hl : l.length ≤ 1000) (hD : ∀ x ∈ l, IsD x) :
    Calls Try.prog 107 #[vd] w (fun e w' => e = .returned (.agg (ofK .u8 (sumL (digB 75 [] l))).toArray) ∧ Below w.heap.size w w') := by
  obtain ⟨i0, hi, hz0, hz1, hz2⟩ := info_parts Try.info5
  have hda := digB_allB (c := 75) (nums := []) (by omega) hD
  have HS := Lib.hid (isD_sum hda)
  have HDA := Lib.hid hda
  obtain ⟨vo, vc, rfl, hdc, hdc6, hdcell⟩ := hd
  have HD := Lib.hid (And.intro hdcell hD)
  obtain ⟨L, hL⟩ : ∃ L, l.length = L := ⟨_, rfl⟩
  rw [hL] at hdc hl ⊢
  have HNL := Lib.hid hL
  clear hdcell hD hda hL
  go_enter Try.func107, Try.ntmps107
  go_wp2_with ((with_reducible refine wpList_alloc_blk w rfl 23 rfl (ofK .u8 zer32) Try.zeroId ?_); intro w1 hb hbel hsz; have H1 := Lib.hid (And.intro hb (And.intro hbel hsz)); clear hb hbel hsz)
  have HO0 := Lib.hid (show (w1.alloc (.cells #[.int .u8 75] 5)).ownsRow w1.heap.size 5 1 (.slice (some ⟨w1.heap.size, 0, none⟩) 1 1) 1 (ofK .u8 [75]) from Blk.owns (xs := ofK .u8 [75]) (Blk.new w1 (ofK .u8 [75]) 5) (Nat.le_refl _) (by simp [ofK, maxLen]))
  have HB0 := Lib.hid (show Below w1.heap.size w1 (w1.alloc (.cells #[.int .u8 75] 5)) from (Below.refl _ w1).alloc (Nat.le_refl _) _)
  generalize w1.alloc (.cells #[.int .u8 75] 5) = w2 at HO0 HB0 ⊢
  go_loopw [3, 9] (fun b i wr => ∃ j : Nat, j ≤ L ∧ i = .int .i64 j ∧ (∃ n ao cp, n ≤ 40000 ∧ b = .slice ao n cp ∧ Hid (n = 1 + 32 * j ∧ wr.ownsRow w1.heap.size 5 1 b n (ofK .u8 (75 :: (l.take j).flatten)) ∧ Below w1.heap.size w1 wr))) (fun _ i _ => L - (intOf i).toNat)
  case atStart => exact ⟨0, Nat.zero_le _, rfl, 1, _, _, by omega, rfl, Lib.hid ⟨by omega, by simpa using HO0.out, HB0.out⟩⟩
  case round =>
    obtain ⟨j, hj, rfl, n, ao, cp, hn4, rfl, HT⟩ := hrel
    clear HO0 HB0
    by_cases hlt : j < L
    · have hjl : j < l.length := by rw [HNL.out]; exact hlt
      obtain ⟨dg, dgo, rfl, hcl⟩ := HD.out.1 (by omega)
      have hb1 : Below w.heap.size w wr := below_thn H1.out.2.1 HT.out.2.2 (by have := H1.out.2.2; omega)
      have HC := Lib.hid (rangeW_below (hcl j hjl) hb1)
      have hx := HD.out.2 l[j] (List.getElem_mem hjl)
      have htk : (l.take (j + 1)).flatten = (l.take j).flatten ++ l[j] := by rw [List.take_add_one, List.getElem?_eq_getElem hjl, List.flatten_append]; simp
      generalize l[j] = x at HC hx htk
      have HX := Lib.hid (And.intro hx htk)
      have HI := Lib.hid (infoD hx)
      have HLx := Lib.hid (lenD hx isD_zer)
      clear hcl hx htk hb1
      have hj0 : (0 : Int) ≤ (j : Int) := by omega
      have hj1 : (j : Int) < (L : Int) := by omega
      have hwz : w1.heap.size ≤ wr.heap.size := HT.out.2.2.size
      go_wp2_with (first
        | (with_reducible refine wpList_load_any rfl 23 (.tmp 11) rfl dg (dgo + j * 32) rfl (ofK .u8 x) _ HC.out Try.underlying23 rfl HI.out ?_)
        | ((with_reducible refine wpList_alloc_blk wr rfl 23 rfl (ofK .u8 zer32) Try.zeroId ?_); intro w3 hb hbel hsz; have H3 := Lib.hid (And.intro hb (And.intro hbel hsz)); clear hb hbel hsz)
        | ((with_reducible refine wpList_store_blk w3 rfl 23 (.tmp 5) (.tmp 12) rfl wr.heap.size 23 (ofK .u8 zer32) (ofK .u8 x) H3.out.1 rfl rfl HLx.out HI.out (one_ofK _ _) ?_); intro w4 hb hc hs; have hw4 : Below wr.heap.size wr w4 := below_ch H3.out.2.1 hc (Nat.le_refl _) (fun k hk => by have : k = wr.heap.size := hk; omega); have H4 := Lib.hid (And.intro hb (And.intro (own_ch HT.out.2.1 (Ch.of_below (S := fun _ => False) hw4 (Nat.le_refl _)) (fun _ _ h => h)) (And.intro (below_thn HT.out.2.2 hw4 (Nat.le_refl _)) hw4.size))); clear hb hc hs hw4)
        | (at_builtin; refine wpList_append_sl w4 rfl (.tmp 13) (.tmp 14) 33 rfl w1.heap.size 5 i0 (.int .u8 0) 1 Try.underlying33 hi hz0 hz1 hz2 rfl _ n _ rfl H4.out.2.1 _ (ofK .u8 x) rfl (sl_id HX.out.1 H4.out.1) (one_ofK _ _) (n + 32) ?_ ?_ ?_ ?_ ?_))
      · rw [length_ofK, HX.out.1.1]
      · unfold maxLen; omega
      · omega
      · have := H4.out.2.2.2; omega
      · intro ao2 cp2 w5 hown5 hgr5 _
        have e2 : ofK .u8 (75 :: (l.take j).flatten) ++ ofK .u8 x = ofK .u8 (75 :: (l.take (j + 1)).flatten) := by rw [HX.out.2]; simp [ofK]
        rw [e2] at hown5
        have HR5 := Lib.hid (And.intro (show n + 32 = 1 + 32 * (j + 1) by have := HT.out.1; omega) (And.intro hown5 (show Below w1.heap.size w1 w5 from H4.out.2.2.1.grown hgr5 (by have := H4.out.2.2.2; omega) (fun i hi => (HT.out.2.1.lt i hi).1))))
        have hn5 : n + 32 ≤ 40000 := by have := HT.out.1; omega
        clear hown5 hgr5 e2 HT
        go_wp2_with fail
        go_roundw
        case rel => exact ⟨j + 1, by omega, by go_num, _, _, _, hn5, rfl, HR5⟩
        case measure => simp [intOf]; omega
    · obtain rfl : j = L := by omega
      have eL : (l.take j).flatten = l.flatten := by rw [List.take_of_length_le (by rw [HNL.out]; exact Nat.le_refl _)]
      have eD : digB 75 [] l = 75 :: l.flatten := by simp [digB]
      rw [eL, ← eD] at HT
      clear eL eD
      have hlen : (digB 75 [] l).length = n := by rw [HT.out.1]; unfold digB; rw [List.length_cons, List.length_append, List.length_map, flat32 HD.out.2, HNL.out]; simp; omega
      have HLn := Lib.hid hlen
      clear hlen
      have HI := Lib.hid (infoD HS.out)
      have HLx := Lib.hid (lenD HS.out isD_zer)
      have HIR := Lib.hid (show (Try.prog.info? 23).map (·.size) = some (ofK .u8 (sumL (digB 75 [] l))).length from infoD HS.out)
      go_wp2_with fail
      refine (sum_any _ (digB 75 [] l) _ (Sl.of_owns HT.out.2.1) (by rw [HLn.out]; omega) HDA.out).mono ?_
      rintro e w6 ⟨rfl, hb6⟩
      have H6 := Lib.hid (And.intro ((H1.out.1.below HT.out.2.2 (by have := H1.out.2.2; omega)).below hb6 (by have := HT.out.2.2.size; have := H1.out.2.2; omega)) (below_thn (below_thn H1.out.2.1 HT.out.2.2 (by have := H1.out.2.2; omega)) hb6 (Nat.le_refl _)))
      clear hb6
      go_wp2_with ((with_reducible refine wpList_store_blk w6 rfl 23 (.tmp 2) (.tmp 18) rfl w.heap.size 23 (ofK .u8 zer32) (ofK .u8 (sumL (digB 75 [] l))) H6.out.1 rfl rfl HLx.out HI.out (one_ofK _ _) ?_); intro w7 hb hc hs; have H7 := Lib.hid (And.intro hb hc); clear hb hc hs)
      refine bodyPost_ret (results_blk Try.results107 _ _ w.heap.size _ _ rfl H7.out.1 _ Try.underlying23 rfl HIR.out) rfl ⟨rfl, ?_⟩
      exact below_ch H6.out.2 H7.out.2 (Nat.le_refl _) (fun k hk => by have : k = w.heap.size := hk; omega)

end Go.Proofs.Ytkbhehnpgnilmaa
