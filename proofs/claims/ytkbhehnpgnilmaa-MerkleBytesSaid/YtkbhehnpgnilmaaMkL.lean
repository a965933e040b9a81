/-
  Law 08: climbed, walked. Conditions: bytes.
-/
import Derived.Test.YtkbhehnpgnilmaaMkY
namespace Go.Proofs.Ytkbhehnpgnilmaa
open Go Go.RowKit
set_option linter.unusedSimpArgs false

set_option maxRecDepth 100000 in
set_option maxHeartbeats 2000000 in
theorem climbed_any (x : List Int) (n : Nat) (v : Value) (p : List (List Int)) (w : World) (hx : IsD x) (hn : n < 8) (hv : SlD w v p) (hl : p.length = 3) (hp : ∀ y ∈ p, IsD y) :
    Calls Try.prog 69 #[.agg (ofK .u8 x).toArray, .int .i64 n, v] w (fun e w' => e = .returned (.agg (ofK .u8 (climbM x n p)).toArray) ∧ Below w.heap.size w w') := by
  obtain ⟨ao, c, rfl, hc1, hc2, hcell⟩ := hv
  rw [hl] at hc1 ⊢
  have HV := Lib.hid (And.intro hcell (And.intro hl hp))
  have HN8 := Lib.hid hn
  have HXD := Lib.hid hx
  have HXI := Lib.hid (infoD HXD.out)
  have HXL := Lib.hid (lenD HXD.out isD_zer)
  clear hcell hl hp hn hx
  go_enter Try.func69, Try.ntmps69
  go_wp2_with (first
    | (with_reducible refine wpList_box_blk w rfl 23 (.tmp 0) rfl (ofK .u8 x) rfl ?_; intro w1 hb hbel hsz; have HB1 := Lib.hid (And.intro hb (And.intro hbel hsz)); clear hb hbel hsz)
    | ((with_reducible refine wpList_alloc_blk w1 rfl 23 rfl (ofK .u8 zer32) Try.zeroId ?_); intro w2 hb hbel hsz; have HB2 := Lib.hid (PreI.mk (w := w) (HB1.out.1.below hbel HB1.out.1.lt) hb (below_thn HB1.out.2.1 hbel (Nat.le_refl _)) (by have := HB1.out.2.2; omega)); have HZ2 := Lib.hid (show w.heap.size < w1.heap.size from by have := HB1.out.2.2; omega); clear hb hbel hsz))
  go_loopw [11] (fun i wr => ∃ k q : Nat, k ≤ 3 ∧ i = .int .i64 k ∧ Hid (∃ cur, IsD cur ∧ Blk wr w.heap.size 23 (ofK .u8 cur) ∧ Blk wr w1.heap.size 23 (ofK .u8 zer32) ∧ Below w.heap.size w wr ∧ climbM cur q (p.drop k) = climbM x n p ∧ n / 2 ^ k = q)) (fun i _ => 3 - (intOf i).toNat)
  case atStart => exact ⟨0, n, by omega, rfl, Lib.hid ⟨x, HXD.out, HB2.out.box, HB2.out.res, HB2.out.bel, by simp, by simp⟩⟩
  case round =>
    obtain ⟨k, q, hk, rfl, HR0⟩ := hrel
    obtain ⟨cur, HR⟩ := HR0.out
    have hcD := HR.1
    have HCD := Lib.hid hcD
    have HCI := Lib.hid (infoD hcD)
    replace HR := Lib.hid HR
    clear HR0
    have HQ := Lib.hid HR.out.2.2.2.2.2
    have hq8 : q < 8 := by rw [← HQ.out]; exact Nat.lt_of_le_of_lt (Nat.div_le_self _ _) HN8.out
    by_cases hlt : k < 3
    · have hk32 : (k : Int) < 3 := by omega
      have hk0 : (0 : Int) ≤ (k : Int) := by omega
      have hka : k < p.length := by rw [HV.out.2.1]; exact hlt
      obtain ⟨ag, ago, rfl, hca⟩ := HV.out.1 (by omega)
      have HC := Lib.hid (rangeW_below (hca k hka) HR.out.2.2.2.1)
      have hyD := HV.out.2.2 _ (List.getElem_mem hka)
      have hdr : p.drop k = p[k] :: p.drop (k + 1) := List.drop_eq_getElem_cons hka
      generalize p[k] = y at HC hyD hdr
      have HYD := Lib.hid hyD
      have HYI := Lib.hid (infoD hyD)
      have HYL := Lib.hid (lenD hyD isD_zer)
      have han := and1 q hq8
      have hsh : ((n : Int) / 2 ^ k) = (q : Int) := by rw [← HQ.out]; push_cast; rfl
      have hcl : climbM (if q % 2 = 0 then joinB cur y else joinB y cur) (q / 2) (p.drop (k + 1)) = climbM x n p := by
        have h := HR.out.2.2.2.2.1
        rw [hdr] at h
        exact h
      have HST := Lib.hid hcl
      clear hca hka hdr hyD hcl hcD
      by_cases hev : q % 2 = 0
      · rw [hev] at han
        obtain ⟨z, hz⟩ : ∃ z, joinB cur y = z := ⟨_, rfl⟩
        have hzD : IsD z := by rw [← hz]; exact isD_join HCD.out HYD.out
        have HZE := Lib.hid hz
        have HZD := Lib.hid hzD
        have HZI := Lib.hid (infoD hzD)
        have HZC := Lib.hid (lenD hzD HCD.out)
        have HEND := Lib.hid (show climbM z (q / 2) (p.drop (k + 1)) = climbM x n p from by rw [← HST.out, if_pos hev, hz])
        clear hz hzD
        go_wp2_with (first
          | (with_reducible refine wpList_load_any rfl 23 (.tmp 14) rfl ag (ago + k * 32) rfl (ofK .u8 y) _ HC.out Try.underlying23 rfl HYI.out ?_)
          | ((with_reducible refine wpList_alloc_blk wr rfl 23 rfl (ofK .u8 zer32) Try.zeroId ?_); intro w4 hb hbel hsz; have HA := Lib.hid (And.intro hb hbel); clear hb hbel hsz)
          | ((with_reducible refine wpList_store_blk w4 rfl 23 (.tmp 8) (.tmp 15) rfl wr.heap.size 23 (ofK .u8 zer32) (ofK .u8 y) HA.out.1 rfl rfl HYL.out HYI.out (one_ofK _ _) ?_); intro w5 hb hc hs; have hbw : Below wr.heap.size wr w5 := below_ch HA.out.2 hc (Nat.le_refl _) (fun j hj => by have : j = wr.heap.size := hj; omega); have H5 := Lib.hid (show Blk w5 w.heap.size 23 (ofK .u8 cur) ∧ Blk w5 wr.heap.size 23 (ofK .u8 y) ∧ Blk w5 w1.heap.size 23 (ofK .u8 zer32) ∧ Below w.heap.size w w5 from ⟨HR.out.2.1.below hbw HR.out.2.1.lt, hb, HR.out.2.2.1.below hbw HR.out.2.2.1.lt, below_thn HR.out.2.2.2.1 hbw (Nat.le_refl _)⟩); clear hb hc hs hbw)
          | (with_reducible refine wpList_load_any rfl 23 (.tmp 3) rfl w.heap.size 0 rfl (ofK .u8 cur) _ (rangeW_blk H5.out.1) Try.underlying23 rfl HCI.out ?_)
          | (with_reducible refine wpList_load_any rfl 23 (.tmp 8) rfl wr.heap.size 0 rfl (ofK .u8 y) _ (rangeW_blk H5.out.2.1) Try.underlying23 rfl HYI.out ?_))
        refine (ljoin_any cur y w5 HCD.out HYD.out).mono ?_
        rw [HZE.out]
        rintro e w6 ⟨rfl, hb6⟩
        have H6 := Lib.hid (show Blk w6 w.heap.size 23 (ofK .u8 cur) ∧ Blk w6 w1.heap.size 23 (ofK .u8 zer32) ∧ Below w.heap.size w w6 from ⟨H5.out.1.below hb6 H5.out.1.lt, H5.out.2.2.1.below hb6 H5.out.2.2.1.lt, below_thn H5.out.2.2.2 hb6 (Nat.le_refl _)⟩)
        clear hb6
        go_wp2_with ((with_reducible refine wpList_store_blk w6 rfl 23 (.tmp 3) (.tmp 23) rfl w.heap.size 23 (ofK .u8 cur) (ofK .u8 z) H6.out.1 rfl rfl HZC.out HZI.out (one_ofK _ _) ?_); intro w7 hb hc hs; have H7 := Lib.hid (show Blk w7 w.heap.size 23 (ofK .u8 z) ∧ Blk w7 w1.heap.size 23 (ofK .u8 zer32) ∧ Below w.heap.size w w7 from ⟨hb, H6.out.2.1.keep hc (fun e => by have e : w1.heap.size = w.heap.size := e; have := HZ2.out; omega), below_ch H6.out.2.2 hc (Nat.le_refl _) (fun k hk => by have : k = w.heap.size := hk; omega)⟩); clear hb hc hs)
        go_roundw
        case rel => exact ⟨k + 1, q / 2, by omega, by go_num, Lib.hid ⟨z, HZD.out, H7.out.1, H7.out.2.1, H7.out.2.2, HEND.out, by rw [← HQ.out, Nat.pow_succ, ← Nat.div_div_eq_div_mul]⟩⟩
        case measure => simp [intOf]; omega
      · have hod : q % 2 = 1 := by omega
        rw [hod] at han
        obtain ⟨z, hz⟩ : ∃ z, joinB y cur = z := ⟨_, rfl⟩
        have hzD : IsD z := by rw [← hz]; exact isD_join HYD.out HCD.out
        have HZE := Lib.hid hz
        have HZD := Lib.hid hzD
        have HZI := Lib.hid (infoD hzD)
        have HZC := Lib.hid (lenD hzD HCD.out)
        have HEND := Lib.hid (show climbM z (q / 2) (p.drop (k + 1)) = climbM x n p from by rw [← HST.out, if_neg hev, hz])
        clear hz hzD
        go_wp2_with (first
          | (with_reducible refine wpList_load_any rfl 23 (.tmp 14) rfl ag (ago + k * 32) rfl (ofK .u8 y) _ HC.out Try.underlying23 rfl HYI.out ?_)
          | ((with_reducible refine wpList_alloc_blk wr rfl 23 rfl (ofK .u8 zer32) Try.zeroId ?_); intro w4 hb hbel hsz; have HA := Lib.hid (And.intro hb hbel); clear hb hbel hsz)
          | ((with_reducible refine wpList_store_blk w4 rfl 23 (.tmp 8) (.tmp 15) rfl wr.heap.size 23 (ofK .u8 zer32) (ofK .u8 y) HA.out.1 rfl rfl HYL.out HYI.out (one_ofK _ _) ?_); intro w5 hb hc hs; have hbw : Below wr.heap.size wr w5 := below_ch HA.out.2 hc (Nat.le_refl _) (fun j hj => by have : j = wr.heap.size := hj; omega); have H5 := Lib.hid (show Blk w5 w.heap.size 23 (ofK .u8 cur) ∧ Blk w5 wr.heap.size 23 (ofK .u8 y) ∧ Blk w5 w1.heap.size 23 (ofK .u8 zer32) ∧ Below w.heap.size w w5 from ⟨HR.out.2.1.below hbw HR.out.2.1.lt, hb, HR.out.2.2.1.below hbw HR.out.2.2.1.lt, below_thn HR.out.2.2.2.1 hbw (Nat.le_refl _)⟩); clear hb hc hs hbw)
          | (with_reducible refine wpList_load_any rfl 23 (.tmp 3) rfl w.heap.size 0 rfl (ofK .u8 cur) _ (rangeW_blk H5.out.1) Try.underlying23 rfl HCI.out ?_)
          | (with_reducible refine wpList_load_any rfl 23 (.tmp 8) rfl wr.heap.size 0 rfl (ofK .u8 y) _ (rangeW_blk H5.out.2.1) Try.underlying23 rfl HYI.out ?_))
        refine (ljoin_any y cur w5 HYD.out HCD.out).mono ?_
        rw [HZE.out]
        rintro e w6 ⟨rfl, hb6⟩
        have H6 := Lib.hid (show Blk w6 w.heap.size 23 (ofK .u8 cur) ∧ Blk w6 w1.heap.size 23 (ofK .u8 zer32) ∧ Below w.heap.size w w6 from ⟨H5.out.1.below hb6 H5.out.1.lt, H5.out.2.2.1.below hb6 H5.out.2.2.1.lt, below_thn H5.out.2.2.2 hb6 (Nat.le_refl _)⟩)
        clear hb6
        go_wp2_with ((with_reducible refine wpList_store_blk w6 rfl 23 (.tmp 3) (.tmp 26) rfl w.heap.size 23 (ofK .u8 cur) (ofK .u8 z) H6.out.1 rfl rfl HZC.out HZI.out (one_ofK _ _) ?_); intro w7 hb hc hs; have H7 := Lib.hid (show Blk w7 w.heap.size 23 (ofK .u8 z) ∧ Blk w7 w1.heap.size 23 (ofK .u8 zer32) ∧ Below w.heap.size w w7 from ⟨hb, H6.out.2.1.keep hc (fun e => by have e : w1.heap.size = w.heap.size := e; have := HZ2.out; omega), below_ch H6.out.2.2 hc (Nat.le_refl _) (fun k hk => by have : k = w.heap.size := hk; omega)⟩); clear hb hc hs)
        go_roundw
        case rel => exact ⟨k + 1, q / 2, by omega, by go_num, Lib.hid ⟨z, HZD.out, H7.out.1, H7.out.2.1, H7.out.2.2, HEND.out, by rw [← HQ.out, Nat.pow_succ, ← Nat.div_div_eq_div_mul]⟩⟩
        case measure => simp [intOf]; omega
    · obtain rfl : k = 3 := by omega
      have hend : cur = climbM x n p := by
        have h := HR.out.2.2.2.2.1
        rw [List.drop_of_length_le (by rw [HV.out.2.1]; exact Nat.le_refl _)] at h
        exact h
      have HEND := Lib.hid hend
      have HCL := Lib.hid (lenD hcD isD_zer)
      clear hend hcD
      go_wp2_with (first
    | (with_reducible refine wpList_load_any rfl 23 (.tmp 3) rfl w.heap.size 0 rfl (ofK .u8 cur) _ (rangeW_blk HR.out.2.1) Try.underlying23 rfl HCI.out ?_)
    | ((with_reducible refine wpList_store_blk wr rfl 23 (.tmp 6) (.tmp 28) rfl w1.heap.size 23 (ofK .u8 zer32) (ofK .u8 cur) HR.out.2.2.1 rfl rfl HCL.out HCI.out (one_ofK _ _) ?_); intro w9 hb hc hs; have H9 := Lib.hid (And.intro hb hc); clear hb hc hs))
      refine bodyPost_ret (results_blk Try.results69 _ _ w1.heap.size _ _ rfl H9.out.1 _ Try.underlying23 rfl HCI.out) rfl ⟨by rw [← HEND.out], ?_⟩
      exact below_ch HR.out.2.2.2.1 H9.out.2 (Nat.le_refl _) (fun k hk => by have : k = w1.heap.size := hk; have := HZ2.out; omega)

end Go.Proofs.Ytkbhehnpgnilmaa
