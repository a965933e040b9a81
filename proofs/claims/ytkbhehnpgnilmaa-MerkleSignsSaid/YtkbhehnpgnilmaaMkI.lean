/-
  Law 08: climbed, walked. Conditions: bytes.
  Law 08: same, walked. Conditions: bytes.
  Law 08: pairs, walked. Conditions: at most a thousand digests.
  Law 08: right, walked. Conditions: none.
  Law 08: verified, walked. Conditions: bytes.
  The bytes of a signature: bytesOf of law 08, and package merkle's Encode, walked. Conditions: bytes; at most a thousand digests.
  Package merkle: Decode, walked. Conditions: bytes; at most a hundred thousand.
  Law 08: signed, walked. Conditions: bytes.
  Signatures that come in; their bytes lead back. Conditions: bytes.
-/
import Derived.Test.YtkbhehnpgnilmaaMkY
import Derived.Lib.MinMax
import Derived.Test.YtkbhehnpgnilmaaFrameW
namespace Go.Proofs.Ytkbhehnpgnilmaa
open Go Go.RowKit
set_option linter.unusedSimpArgs false

set_option maxRecDepth 100000 in
set_option maxHeartbeats 2000000 in
theorem climbed_any (x : List Int) (n : Nat) (v : Value) (p : List (List Int)) (w : World) (hx : IsD x) (hn : n < 8) (hv : SlD w v p) (hl : p.length = 3) (hp : ∀ y ∈ p, IsD y) :
    Calls Try.prog 69 #[.agg (ofK .u8 x).toArray, .int .i64 n, v] w (fun e w' => e = .returned (.agg (ofK .u8 (climbM x n p)).toArray) ∧ Below w.heap.size w w') := by
  obtain ⟨ao, c, rfl, hc1, hc2, hcell⟩ := hv
  rw [hl] at hc1 ⊢
  have HV := Lib.hid (And.intro hcell (And.intro hl hp))
  have HN8 := Lib.hid hn
  have HXD := Lib.hid hx
  have HXI := Lib.hid (infoD HXD.out)
  have HXL := Lib.hid (lenD HXD.out isD_zer)
  clear hcell hl hp hn hx
  go_enter Try.func69, Try.ntmps69
  go_wp2_with (first
    | (with_reducible refine wpList_box_blk w rfl 23 (.tmp 0) rfl (ofK .u8 x) rfl ?_; intro w1 hb hbel hsz; have HB1 := Lib.hid (And.intro hb (And.intro hbel hsz)); clear hb hbel hsz)
    | ((with_reducible refine wpList_alloc_blk w1 rfl 23 rfl (ofK .u8 zer32) Try.zeroId ?_); intro w2 hb hbel hsz; have HB2 := Lib.hid (PreI.mk (w := w) (HB1.out.1.below hbel HB1.out.1.lt) hb (below_thn HB1.out.2.1 hbel (Nat.le_refl _)) (by have := HB1.out.2.2; omega)); have HZ2 := Lib.hid (show w.heap.size < w1.heap.size from by have := HB1.out.2.2; omega); clear hb hbel hsz))
  go_loopw [11] (fun i wr => ∃ k q : Nat, k ≤ 3 ∧ i = .int .i64 k ∧ Hid (∃ cur, IsD cur ∧ Blk wr w.heap.size 23 (ofK .u8 cur) ∧ Blk wr w1.heap.size 23 (ofK .u8 zer32) ∧ Below w.heap.size w wr ∧ climbM cur q (p.drop k) = climbM x n p ∧ n / 2 ^ k = q)) (fun i _ => 3 - (intOf i).toNat)
  case atStart => exact ⟨0, n, by omega, rfl, Lib.hid ⟨x, HXD.out, HB2.out.box, HB2.out.res, HB2.out.bel, by simp, by simp⟩⟩
  case round =>
    obtain ⟨k, q, hk, rfl, HR0⟩ := hrel
    obtain ⟨cur, HR⟩ := HR0.out
    have hcD := HR.1
    have HCD := Lib.hid hcD
    have HCI := Lib.hid (infoD hcD)
    replace HR := Lib.hid HR
    clear HR0
    have HQ := Lib.hid HR.out.2.2.2.2.2
    have hq8 : q < 8 := by rw [← HQ.out]; exact Nat.lt_of_le_of_lt (Nat.div_le_self _ _) HN8.out
    by_cases hlt : k < 3
    · have hk32 : (k : Int) < 3 := by omega
      have hk0 : (0 : Int) ≤ (k : Int) := by omega
      have hka : k < p.length := by rw [HV.out.2.1]; exact hlt
      obtain ⟨ag, ago, rfl, hca⟩ := HV.out.1 (by omega)
      have HC := Lib.hid (rangeW_below (hca k hka) HR.out.2.2.2.1)
      have hyD := HV.out.2.2 _ (List.getElem_mem hka)
      have hdr : p.drop k = p[k] :: p.drop (k + 1) := List.drop_eq_getElem_cons hka
      generalize p[k] = y at HC hyD hdr
      have HYD := Lib.hid hyD
      have HYI := Lib.hid (infoD hyD)
      have HYL := Lib.hid (lenD hyD isD_zer)
      have han := and1 q hq8
      have hsh : ((n : Int) / 2 ^ k) = (q : Int) := by rw [← HQ.out]; push_cast; rfl
      have hcl : climbM (if q % 2 = 0 then joinB cur y else joinB y cur) (q / 2) (p.drop (k + 1)) = climbM x n p := by
        have h := HR.out.2.2.2.2.1
        rw [hdr] at h
        exact h
      have HST := Lib.hid hcl
      clear hca hka hdr hyD hcl hcD
      by_cases hev : q % 2 = 0
      · rw [hev] at han
        obtain ⟨z, hz⟩ : ∃ z, joinB cur y = z := ⟨_, rfl⟩
        have hzD : IsD z := by rw [← hz]; exact isD_join HCD.out HYD.out
        have HZE := Lib.hid hz
        have HZD := Lib.hid hzD
        have HZI := Lib.hid (infoD hzD)
        have HZC := Lib.hid (lenD hzD HCD.out)
        have HEND := Lib.hid (show climbM z (q / 2) (p.drop (k + 1)) = climbM x n p from by rw [← HST.out, if_pos hev, hz])
        clear hz hzD
        go_wp2_with (first
          | (with_reducible refine wpList_load_any rfl 23 (.tmp 14) rfl ag (ago + k * 32) rfl (ofK .u8 y) _ HC.out Try.underlying23 rfl HYI.out ?_)
          | ((with_reducible refine wpList_alloc_blk wr rfl 23 rfl (ofK .u8 zer32) Try.zeroId ?_); intro w4 hb hbel hsz; have HA := Lib.hid (And.intro hb hbel); clear hb hbel hsz)
          | ((with_reducible refine wpList_store_blk w4 rfl 23 (.tmp 8) (.tmp 15) rfl wr.heap.size 23 (ofK .u8 zer32) (ofK .u8 y) HA.out.1 rfl rfl HYL.out HYI.out (one_ofK _ _) ?_); intro w5 hb hc hs; have hbw : Below wr.heap.size wr w5 := below_ch HA.out.2 hc (Nat.le_refl _) (fun j hj => by have : j = wr.heap.size := hj; omega); have H5 := Lib.hid (show Blk w5 w.heap.size 23 (ofK .u8 cur) ∧ Blk w5 wr.heap.size 23 (ofK .u8 y) ∧ Blk w5 w1.heap.size 23 (ofK .u8 zer32) ∧ Below w.heap.size w w5 from ⟨HR.out.2.1.below hbw HR.out.2.1.lt, hb, HR.out.2.2.1.below hbw HR.out.2.2.1.lt, below_thn HR.out.2.2.2.1 hbw (Nat.le_refl _)⟩); clear hb hc hs hbw)
          | (with_reducible refine wpList_load_any rfl 23 (.tmp 3) rfl w.heap.size 0 rfl (ofK .u8 cur) _ (rangeW_blk H5.out.1) Try.underlying23 rfl HCI.out ?_)
          | (with_reducible refine wpList_load_any rfl 23 (.tmp 8) rfl wr.heap.size 0 rfl (ofK .u8 y) _ (rangeW_blk H5.out.2.1) Try.underlying23 rfl HYI.out ?_))
        refine (ljoin_any cur y w5 HCD.out HYD.out).mono ?_
        rw [HZE.out]
        rintro e w6 ⟨rfl, hb6⟩
        have H6 := Lib.hid (show Blk w6 w.heap.size 23 (ofK .u8 cur) ∧ Blk w6 w1.heap.size 23 (ofK .u8 zer32) ∧ Below w.heap.size w w6 from ⟨H5.out.1.below hb6 H5.out.1.lt, H5.out.2.2.1.below hb6 H5.out.2.2.1.lt, below_thn H5.out.2.2.2 hb6 (Nat.le_refl _)⟩)
        clear hb6
        go_wp2_with ((with_reducible refine wpList_store_blk w6 rfl 23 (.tmp 3) (.tmp 23) rfl w.heap.size 23 (ofK .u8 cur) (ofK .u8 z) H6.out.1 rfl rfl HZC.out HZI.out (one_ofK _ _) ?_); intro w7 hb hc hs; have H7 := Lib.hid (show Blk w7 w.heap.size 23 (ofK .u8 z) ∧ Blk w7 w1.heap.size 23 (ofK .u8 zer32) ∧ Below w.heap.size w w7 from ⟨hb, H6.out.2.1.keep hc (fun e => by have e : w1.heap.size = w.heap.size := e; have := HZ2.out; omega), below_ch H6.out.2.2 hc (Nat.le_refl _) (fun k hk => by have : k = w.heap.size := hk; omega)⟩); clear hb hc hs)
        go_roundw
        case rel => exact ⟨k + 1, q / 2, by omega, by go_num, Lib.hid ⟨z, HZD.out, H7.out.1, H7.out.2.1, H7.out.2.2, HEND.out, by rw [← HQ.out, Nat.pow_succ, ← Nat.div_div_eq_div_mul]⟩⟩
        case measure => simp [intOf]; omega
      · have hod : q % 2 = 1 := by omega
        rw [hod] at han
        obtain ⟨z, hz⟩ : ∃ z, joinB y cur = z := ⟨_, rfl⟩
        have hzD : IsD z := by rw [← hz]; exact isD_join HYD.out HCD.out
        have HZE := Lib.hid hz
        have HZD := Lib.hid hzD
        have HZI := Lib.hid (infoD hzD)
        have HZC := Lib.hid (lenD hzD HCD.out)
        have HEND := Lib.hid (show climbM z (q / 2) (p.drop (k + 1)) = climbM x n p from by rw [← HST.out, if_neg hev, hz])
        clear hz hzD
        go_wp2_with (first
          | (with_reducible refine wpList_load_any rfl 23 (.tmp 14) rfl ag (ago + k * 32) rfl (ofK .u8 y) _ HC.out Try.underlying23 rfl HYI.out ?_)
          | ((with_reducible refine wpList_alloc_blk wr rfl 23 rfl (ofK .u8 zer32) Try.zeroId ?_); intro w4 hb hbel hsz; have HA := Lib.hid (And.intro hb hbel); clear hb hbel hsz)
          | ((with_reducible refine wpList_store_blk w4 rfl 23 (.tmp 8) (.tmp 15) rfl wr.heap.size 23 (ofK .u8 zer32) (ofK .u8 y) HA.out.1 rfl rfl HYL.out HYI.out (one_ofK _ _) ?_); intro w5 hb hc hs; have hbw : Below wr.heap.size wr w5 := below_ch HA.out.2 hc (Nat.le_refl _) (fun j hj => by have : j = wr.heap.size := hj; omega); have H5 := Lib.hid (show Blk w5 w.heap.size 23 (ofK .u8 cur) ∧ Blk w5 wr.heap.size 23 (ofK .u8 y) ∧ Blk w5 w1.heap.size 23 (ofK .u8 zer32) ∧ Below w.heap.size w w5 from ⟨HR.out.2.1.below hbw HR.out.2.1.lt, hb, HR.out.2.2.1.below hbw HR.out.2.2.1.lt, below_thn HR.out.2.2.2.1 hbw (Nat.le_refl _)⟩); clear hb hc hs hbw)
          | (with_reducible refine wpList_load_any rfl 23 (.tmp 3) rfl w.heap.size 0 rfl (ofK .u8 cur) _ (rangeW_blk H5.out.1) Try.underlying23 rfl HCI.out ?_)
          | (with_reducible refine wpList_load_any rfl 23 (.tmp 8) rfl wr.heap.size 0 rfl (ofK .u8 y) _ (rangeW_blk H5.out.2.1) Try.underlying23 rfl HYI.out ?_))
        refine (ljoin_any y cur w5 HYD.out HCD.out).mono ?_
        rw [HZE.out]
        rintro e w6 ⟨rfl, hb6⟩
        have H6 := Lib.hid (show Blk w6 w.heap.size 23 (ofK .u8 cur) ∧ Blk w6 w1.heap.size 23 (ofK .u8 zer32) ∧ Below w.heap.size w w6 from ⟨H5.out.1.below hb6 H5.out.1.lt, H5.out.2.2.1.below hb6 H5.out.2.2.1.lt, below_thn H5.out.2.2.2 hb6 (Nat.le_refl _)⟩)
        clear hb6
        go_wp2_with ((with_reducible refine wpList_store_blk w6 rfl 23 (.tmp 3) (.tmp 26) rfl w.heap.size 23 (ofK .u8 cur) (ofK .u8 z) H6.out.1 rfl rfl HZC.out HZI.out (one_ofK _ _) ?_); intro w7 hb hc hs; have H7 := Lib.hid (show Blk w7 w.heap.size 23 (ofK .u8 z) ∧ Blk w7 w1.heap.size 23 (ofK .u8 zer32) ∧ Below w.heap.size w w7 from ⟨hb, H6.out.2.1.keep hc (fun e => by have e : w1.heap.size = w.heap.size := e; have := HZ2.out; omega), below_ch H6.out.2.2 hc (Nat.le_refl _) (fun k hk => by have : k = w.heap.size := hk; omega)⟩); clear hb hc hs)
        go_roundw
        case rel => exact ⟨k + 1, q / 2, by omega, by go_num, Lib.hid ⟨z, HZD.out, H7.out.1, H7.out.2.1, H7.out.2.2, HEND.out, by rw [← HQ.out, Nat.pow_succ, ← Nat.div_div_eq_div_mul]⟩⟩
        case measure => simp [intOf]; omega
    · obtain rfl : k = 3 := by omega
      have hend : cur = climbM x n p := by
        have h := HR.out.2.2.2.2.1
        rw [List.drop_of_length_le (by rw [HV.out.2.1]; exact Nat.le_refl _)] at h
        exact h
      have HEND := Lib.hid hend
      have HCL := Lib.hid (lenD hcD isD_zer)
      clear hend hcD
      go_wp2_with (first
    | (with_reducible refine wpList_load_any rfl 23 (.tmp 3) rfl w.heap.size 0 rfl (ofK .u8 cur) _ (rangeW_blk HR.out.2.1) Try.underlying23 rfl HCI.out ?_)
    | ((with_reducible refine wpList_store_blk wr rfl 23 (.tmp 6) (.tmp 28) rfl w1.heap.size 23 (ofK .u8 zer32) (ofK .u8 cur) HR.out.2.2.1 rfl rfl HCL.out HCI.out (one_ofK _ _) ?_); intro w9 hb hc hs; have H9 := Lib.hid (And.intro hb hc); clear hb hc hs))
      refine bodyPost_ret (results_blk Try.results69 _ _ w1.heap.size _ _ rfl H9.out.1 _ Try.underlying23 rfl HCI.out) rfl ⟨by rw [← HEND.out], ?_⟩
      exact below_ch HR.out.2.2.2.1 H9.out.2 (Nat.le_refl _) (fun k hk => by have : k = w1.heap.size := hk; have := HZ2.out; omega)

end Go.Proofs.Ytkbhehnpgnilmaa

namespace Go.Proofs.Ytkbhehnpgnilmaa
open Go Go.RowKit
set_option linter.unusedSimpArgs false

set_option maxRecDepth 100000 in
set_option maxHeartbeats 2000000 in
theorem same8_any (n1 n2 : Int) (co po xo yo : Option Addr) (cl cc pl pc xl xc yl yc : Nat) (c1 p1 c2 p2 : List (List Int)) (w : World) (h1 : SlD w (.slice co cl cc) c1) (h2 : SlD w (.slice po pl pc) p1) (h3 : SlD w (.slice xo xl xc) c2) (h4 : SlD w (.slice yo yl yc) p2)
    (d1 : ∀ x ∈ c1, IsD x) (d2 : ∀ x ∈ p1, IsD x) (d3 : ∀ x ∈ c2, IsD x) (d4 : ∀ x ∈ p2, IsD x) :
    Calls Try.prog 71 #[.agg (sgC n1 (.slice co cl cc) (.slice po pl pc)).toArray, .agg (sgC n2 (.slice xo xl xc) (.slice yo yl yc)).toArray] w (fun e w' => e = .returned (.bool (decide (n1 = n2) && decide (c1 = c2) && decide (p1 = p2))) ∧ Below w.heap.size w w') := by
  have HS := Lib.hid (And.intro h1 (And.intro h2 (And.intro h3 h4)))
  have HD := Lib.hid (And.intro d1 (And.intro d2 (And.intro d3 d4)))
  obtain ⟨b1, hb1⟩ : ∃ b, decide (c1 = c2) = b := ⟨_, rfl⟩
  obtain ⟨b2, hb2⟩ : ∃ b, decide (p1 = p2) = b := ⟨_, rfl⟩
  have HBB := Lib.hid (And.intro hb1 hb2)
  rw [hb1, hb2]
  clear h1 h2 h3 h4 d1 d2 d3 d4 hb1 hb2
  by_cases hn : n1 = n2
  · subst hn
    rw [decide_eq_true rfl, Bool.true_and]
    go_enter Try.func71, Try.ntmps71
    go_wp2_with (first
    | ((with_reducible refine wpList_box_blk w rfl 90 (.tmp 0) rfl (sgC n1 (.slice co cl cc) (.slice po pl pc)) rfl ?_); intro w1 hb hbel hsz; have HB1 := Lib.hid (And.intro hb hbel); clear hb hbel hsz)
    | ((with_reducible refine wpList_box_blk w1 rfl 90 (.tmp 1) rfl (sgC n1 (.slice xo xl xc) (.slice yo yl yc)) rfl ?_); intro w2 hb hbel hsz; have hbw := below_thn HB1.out.2 hbel (Nat.le_refl _); have hb0 := HB1.out.1.below hbel HB1.out.1.lt; have H2 := Lib.hid (show w2.cell? ⟨w.heap.size, 0, none⟩ = some (.int .i64 n1) ∧ w2.cell? ⟨w.heap.size, 1, none⟩ = some (.slice co cl cc) ∧ w2.cell? ⟨w.heap.size, 2, none⟩ = some (.slice po pl pc) ∧ w2.cell? ⟨w1.heap.size, 0, none⟩ = some (.int .i64 n1) ∧ w2.cell? ⟨w1.heap.size, 1, none⟩ = some (.slice xo xl xc) ∧ w2.cell? ⟨w1.heap.size, 2, none⟩ = some (.slice yo yl yc) ∧ SlD w2 (.slice co cl cc) c1 ∧ SlD w2 (.slice po pl pc) p1 ∧ SlD w2 (.slice xo xl xc) c2 ∧ SlD w2 (.slice yo yl yc) p2 ∧ Below w.heap.size w w2 from ⟨hb0.cell 0, hb0.cell 1, hb0.cell 2, hb.cell 0, hb.cell 1, hb.cell 2, HS.out.1.below hbw, HS.out.2.1.below hbw, HS.out.2.2.1.below hbw, HS.out.2.2.2.below hbw, hbw⟩); have a0 := H2.out.1; have a1 := H2.out.2.1; have a2 := H2.out.2.2.1; have a3 := H2.out.2.2.2.1; have a4 := H2.out.2.2.2.2.1; have a5 := H2.out.2.2.2.2.2.1; clear hb hbel hsz hbw hb0))
    refine (same_any _ _ c1 c2 w2 H2.out.2.2.2.2.2.2.1 H2.out.2.2.2.2.2.2.2.2.1 HD.out.1 HD.out.2.2.1).mono ?_
    rw [HBB.out.1]
    rintro e w3 ⟨rfl, hb3⟩
    have H3 := Lib.hid (show w3.cell? ⟨w.heap.size, 0, none⟩ = some (.int .i64 n1) ∧ w3.cell? ⟨w.heap.size, 1, none⟩ = some (.slice co cl cc) ∧ w3.cell? ⟨w.heap.size, 2, none⟩ = some (.slice po pl pc) ∧ w3.cell? ⟨w1.heap.size, 0, none⟩ = some (.int .i64 n1) ∧ w3.cell? ⟨w1.heap.size, 1, none⟩ = some (.slice xo xl xc) ∧ w3.cell? ⟨w1.heap.size, 2, none⟩ = some (.slice yo yl yc) ∧ SlD w3 (.slice co cl cc) c1 ∧ SlD w3 (.slice po pl pc) p1 ∧ SlD w3 (.slice xo xl xc) c2 ∧ SlD w3 (.slice yo yl yc) p2 ∧ Below w.heap.size w w3 from ⟨(hb3.cell (p := ⟨w.heap.size, 0, none⟩) (block_of_cell H2.out.1)).trans H2.out.1, (hb3.cell (p := ⟨w.heap.size, 1, none⟩) (block_of_cell H2.out.2.1)).trans H2.out.2.1, (hb3.cell (p := ⟨w.heap.size, 2, none⟩) (block_of_cell H2.out.2.2.1)).trans H2.out.2.2.1, (hb3.cell (p := ⟨w1.heap.size, 0, none⟩) (block_of_cell H2.out.2.2.2.1)).trans H2.out.2.2.2.1, (hb3.cell (p := ⟨w1.heap.size, 1, none⟩) (block_of_cell H2.out.2.2.2.2.1)).trans H2.out.2.2.2.2.1, (hb3.cell (p := ⟨w1.heap.size, 2, none⟩) (block_of_cell H2.out.2.2.2.2.2.1)).trans H2.out.2.2.2.2.2.1, H2.out.2.2.2.2.2.2.1.below hb3, H2.out.2.2.2.2.2.2.2.1.below hb3, H2.out.2.2.2.2.2.2.2.2.1.below hb3, H2.out.2.2.2.2.2.2.2.2.2.1.below hb3, below_thn H2.out.2.2.2.2.2.2.2.2.2.2 hb3 (Nat.le_refl _)⟩)
    clear a0 a1 a2 a3 a4 a5
    clear hb3
    have zz0 := H3.out.1; have zz1 := H3.out.2.1; have zz2 := H3.out.2.2.1; have zz3 := H3.out.2.2.2.1; have zz4 := H3.out.2.2.2.2.1; have zz5 := H3.out.2.2.2.2.2.1
    cases b1
    · go_wp2_with fail
      go_ret
      exact ⟨rfl, H3.out.2.2.2.2.2.2.2.2.2.2⟩
    · go_wp2_with fail
      refine (same_any _ _ p1 p2 w3 H3.out.2.2.2.2.2.2.2.1 H3.out.2.2.2.2.2.2.2.2.2.1 HD.out.2.1 HD.out.2.2.2).mono ?_
      rw [HBB.out.2]
      rintro e w4 ⟨rfl, hb4⟩
      have H4 := Lib.hid (below_thn H3.out.2.2.2.2.2.2.2.2.2.2 hb4 (Nat.le_refl _))
      clear hb4
      go_wp2_with fail
      go_ret
      exact ⟨by simp, H4.out⟩
  · have hne : (n1 == n2) = false := by simpa using hn
    have HF := Lib.hid (decide_eq_false hn)
    clear hn
    go_enter Try.func71, Try.ntmps71
    go_wp2_with (first
    | ((with_reducible refine wpList_box_blk w rfl 90 (.tmp 0) rfl (sgC n1 (.slice co cl cc) (.slice po pl pc)) rfl ?_); intro w1 hb hbel hsz; have HB1 := Lib.hid (And.intro hb hbel); clear hb hbel hsz)
    | ((with_reducible refine wpList_box_blk w1 rfl 90 (.tmp 1) rfl (sgC n2 (.slice xo xl xc) (.slice yo yl yc)) rfl ?_); intro w2 hb hbel hsz; have hbw := below_thn HB1.out.2 hbel (Nat.le_refl _); have hb0 := HB1.out.1.below hbel HB1.out.1.lt; have H2 := Lib.hid (show w2.cell? ⟨w.heap.size, 0, none⟩ = some (.int .i64 n1) ∧ w2.cell? ⟨w.heap.size, 1, none⟩ = some (.slice co cl cc) ∧ w2.cell? ⟨w.heap.size, 2, none⟩ = some (.slice po pl pc) ∧ w2.cell? ⟨w1.heap.size, 0, none⟩ = some (.int .i64 n2) ∧ w2.cell? ⟨w1.heap.size, 1, none⟩ = some (.slice xo xl xc) ∧ w2.cell? ⟨w1.heap.size, 2, none⟩ = some (.slice yo yl yc) ∧ SlD w2 (.slice co cl cc) c1 ∧ SlD w2 (.slice po pl pc) p1 ∧ SlD w2 (.slice xo xl xc) c2 ∧ SlD w2 (.slice yo yl yc) p2 ∧ Below w.heap.size w w2 from ⟨hb0.cell 0, hb0.cell 1, hb0.cell 2, hb.cell 0, hb.cell 1, hb.cell 2, HS.out.1.below hbw, HS.out.2.1.below hbw, HS.out.2.2.1.below hbw, HS.out.2.2.2.below hbw, hbw⟩); have a0 := H2.out.1; have a1 := H2.out.2.1; have a2 := H2.out.2.2.1; have a3 := H2.out.2.2.2.1; have a4 := H2.out.2.2.2.2.1; have a5 := H2.out.2.2.2.2.2.1; clear hb hbel hsz hbw hb0))
    go_ret
    exact ⟨by rw [HF.out]; rfl, H2.out.2.2.2.2.2.2.2.2.2.2⟩

end Go.Proofs.Ytkbhehnpgnilmaa

namespace Go.Proofs.Ytkbhehnpgnilmaa
open Go Go.RowKit
set_option linter.unusedSimpArgs false

theorem pairs_drop : ∀ (l : List (List Int)) (e : Nat) (h : e + 1 < l.length), pairsM (l.drop e) = joinB (l[e]'(by omega)) (l[e + 1]) :: pairsM (l.drop (e + 2)) := fun l e h => by
  rw [List.drop_eq_getElem_cons (by omega : e < l.length), List.drop_eq_getElem_cons h]
  rfl

set_option maxRecDepth 100000 in
set_option maxHeartbeats 2000000 in
theorem lpairs_any (v : Value) (l : List (List Int)) (w : World) (hv : SlD w v l) (hD : ∀ x ∈ l, IsD x) (hl : l.length ≤ 1000) :
    Calls Try.prog 109 #[v] w (fun e w' => ∃ ao c, e = .returned (.slice ao (pairsM l).length c) ∧ w'.ownsRow w.heap.size 23 32 (.slice ao (pairsM l).length c) (pairsM l).length (ofK .u8 (pairsM l).flatten) ∧ Below w.heap.size w w') := by
  obtain ⟨ao, cp, rfl, hcp, hcp2, hcell⟩ := hv
  have HV := Lib.hid (And.intro hcell hD)
  obtain ⟨n, hn⟩ : ∃ n, l.length = n := ⟨_, rfl⟩
  rw [hn] at hcp hl ⊢
  have HN := Lib.hid hn
  clear hcell hD hn
  go_enter Try.func109, Try.ntmps109
  go_wp2_with fail
  go_loopw [3, 4] (fun nx iv wr => ∃ (d e : Nat) (done : List (List Int)) (no : Option Addr) (nc : Nat), nx = .slice no d nc ∧ iv = .int .i64 e ∧ Hid (d = done.length ∧ e ≤ n + 1 ∧ d ≤ e) ∧ Hid (done ++ pairsM (l.drop e) = pairsM l ∧ RowI w (.slice no d nc) done wr)) (fun _ iv _ => n + 2 - (intOf iv).toNat)
  case atStart => exact ⟨0, 0, [], none, 0, rfl, rfl, Lib.hid ⟨rfl, by omega, by omega⟩, Lib.hid ⟨by simp, RowI.nil w⟩⟩
  case round =>
    obtain ⟨d, e, done, no, nc, rfl, rfl, HDE, HL⟩ := hrel
    have hen := HDE.out.2.1
    have hw1 : IntKind.i64.wrap ((e : Int) + 1) = (e : Int) + 1 := by rw [IntKind.wrap_i64]; omega
    by_cases hlt : e + 1 < n
    · have hltz : (e : Int) + 1 < (n : Int) := by omega
      have he0 : (0 : Int) ≤ (e : Int) := by omega
      have he1 : (0 : Int) ≤ (e : Int) + 1 := by omega
      have henz : (e : Int) < (n : Int) := by omega
      have hw2 : IntKind.i64.wrap ((e : Int) + 2) = ((e + 2 : Nat) : Int) := by rw [IntKind.wrap_i64]; push_cast; omega
      have hea : e < l.length := by rw [HN.out]; omega
      have heb : e + 1 < l.length := by rw [HN.out]; exact hlt
      obtain ⟨ag, ago, rfl, hca⟩ := HV.out.1 (by omega)
      have hpd := pairs_drop l e heb
      have hx := hca e hea
      have hy := hca (e + 1) heb
      have hxD := HV.out.2 _ (List.getElem_mem hea)
      have hyD := HV.out.2 _ (List.getElem_mem heb)
      generalize l[e] = x at hx hxD hpd
      generalize l[e + 1] = y at hy hyD hpd
      have HXI := Lib.hid (infoD hxD)
      have HYI := Lib.hid (infoD hyD)
      obtain ⟨z, hz⟩ : ∃ z, joinB x y = z := ⟨_, rfl⟩
      have hzD : IsD z := by rw [← hz]; exact isD_join hxD hyD
      rw [hz] at hpd
      have HZE := Lib.hid (And.intro hz (And.intro hxD (And.intro hyD hpd)))
      have HZD := Lib.hid hzD
      have HZ32 := Lib.hid (show (ofK .u8 z).length = 32 by rw [length_ofK, hzD.1])
      have HS := Lib.hid (show ∀ w', Below w.heap.size w w' → w'.rangeAt ag (ago + e * 32) (ofK .u8 x) ∧ w'.rangeAt ag (ago + (e + 1) * 32) (ofK .u8 y) from fun w' hb => ⟨rangeW_below hx hb, rangeW_below hy hb⟩)
      have H9 := Lib.hid (HL.out.2.below (Below.refl _ wr).drew)
      clear hca hpd hx hy hxD hyD hz hzD hea heb
      go_wp2_with fail
      refine wp_region_takes (fun w' => w'.rangeAt ag (ago + e * 32) (ofK .u8 x) ∧ w'.rangeAt ag (ago + (e + 1) * 32) (ofK .u8 y)) [0, 1, 2, 3, 4, 5, 6, 7, 8, 9] 4 (by kernel_rfl) rfl (by kernel_rfl) (by kernel_rfl) (HS.out _ H9.out.bel) ?_
      generalize wr.drew = v0 at H9 ⊢
      iterate 4 (refine' HeldL.run ?_ ?_ ?_ ?_; rotate_left 2; (simp only [List.getElem?_toArray, List.getElem?_cons_zero, List.getElem?_cons_succ]; rfl); rfl; (rintro w' ⟨k0, k1⟩; go_simp; with_reducible rfl); simp only [Act.put, List.setIfInBounds_toArray, List.set_cons_zero, List.set_cons_succ])
      refine' HeldL.run ?_ ?_ ?_ ?_; rotate_left 2; (simp only [List.getElem?_toArray, List.getElem?_cons_zero, List.getElem?_cons_succ]; rfl); rfl; (rintro w' ⟨k0, k1⟩; exact exec_load_mid rfl rfl k0 Try.underlying23 rfl HXI.out); simp only [Act.put, List.setIfInBounds_toArray, List.set_cons_zero, List.set_cons_succ]
      iterate 4 (refine' HeldL.run ?_ ?_ ?_ ?_; rotate_left 2; (simp only [List.getElem?_toArray, List.getElem?_cons_zero, List.getElem?_cons_succ]; rfl); rfl; (rintro w' ⟨k0, k1⟩; go_simp; with_reducible rfl); simp only [Act.put, List.setIfInBounds_toArray, List.set_cons_zero, List.set_cons_succ])
      refine' HeldL.run ?_ ?_ ?_ ?_; rotate_left 2; (simp only [List.getElem?_toArray, List.getElem?_cons_zero, List.getElem?_cons_succ]; rfl); rfl; (rintro w' ⟨k0, k1⟩; exact exec_load_mid rfl rfl k1 Try.underlying23 rfl HYI.out); simp only [Act.put, List.setIfInBounds_toArray, List.set_cons_zero, List.set_cons_succ]
      refine' wpAnyH_one 10 (by kernel_rfl) ?_ ?_; rotate_left; (simp only [List.getElem?_toArray, List.getElem?_cons_zero, List.getElem?_cons_succ]; rfl)
      try simp only [Act.put]
      go_wp2_with fail
      refine (ljoin_any x y v0 HZE.out.2.1 HZE.out.2.2.1).mono ?_
      rw [HZE.out.1]
      rintro e' v1 ⟨rfl, hb⟩
      have H10 := Lib.hid (H9.out.below hb)
      clear hb
      try go_wp2_with fail
      refine QK.normal ⟨HS.out _ H10.out.bel, ?_⟩
      refine' wpAnyH_one 11 (by kernel_rfl) ?_ ?_; rotate_left; (simp only [List.getElem?_toArray, List.getElem?_cons_zero, List.getElem?_cons_succ]; rfl)
      refine wpList_slice_one v1 rfl 54 (.tmp 22) rfl Try.underlying54 Try.sizeId Try.zeroId Try.id1 Try.id2 (ofK .u8 z) HZ32.out rfl ?_
      intro v2 hb hbel hsz
      have H11 := Lib.hid (And.intro hb (H10.out.below hbel))
      clear hb hbel hsz
      simp only [Act.put, List.setIfInBounds_toArray, List.set_cons_zero, List.set_cons_succ]
      refine QK.normal ⟨HS.out _ H11.out.2.bel, ?_⟩
      refine' wpAnyH_one 12 (by kernel_rfl) ?_ ?_; rotate_left; (simp only [List.getElem?_toArray, List.getElem?_cons_zero, List.getElem?_cons_succ]; rfl)
      refine wpList_append_id v2 rfl (.tmp 12) (.tmp 23) rfl w.heap.size (.slice no d nc) d done rfl (by have := H11.out.2.row; rwa [← HDE.out.1] at this) v1.heap.size z rfl H11.out.1 HZD.out (by have := HDE.out.2.2; omega) H11.out.2.bel.size ?_
      intro no2 nc2 v3 hown hgr _
      have H12 := Lib.hid (show RowI w (.slice no2 (d + 1) nc2) (done ++ [z]) v3 from H11.out.2.appended (by rw [← HDE.out.1]; simpa using hown) hgr)
      clear hown hgr
      simp only [Act.put, List.setIfInBounds_toArray, List.set_cons_zero, List.set_cons_succ]
      refine QK.normal ⟨HS.out _ H12.out.bel, ?_⟩
      refine' wpAnyH_one 13 (by kernel_rfl) ?_ ?_; rotate_left; (simp only [List.getElem?_toArray, List.getElem?_cons_zero, List.getElem?_cons_succ]; rfl)
      try simp only [Act.put]
      go_wp2_with fail
      refine QK.normal ⟨HS.out _ H12.out.bel, ?_⟩
      refine wpAnyH_done (by kernel_rfl) ?_ _
      refine NoPanic.normal ?_
      go_wp2_with fail
      go_roundw
      case rel => exact ⟨d + 1, e + 2, done ++ [z], no2, nc2, rfl, by go_num, Lib.hid ⟨by rw [List.length_append, ← HDE.out.1]; rfl, by omega, by have := HDE.out.2.2; omega⟩, Lib.hid ⟨by rw [← HL.out.1, HZE.out.2.2.2, List.append_assoc]; rfl, H12.out⟩⟩
      case measure => simp [intOf]; omega
    · have hge : ¬ (e : Int) + 1 < (n : Int) := by omega
      have hd : done = pairsM l := by
        have h := HL.out.1
        rw [pairs_short (by rw [List.length_drop, HN.out]; omega), List.append_nil] at h
        exact h
      have HD := Lib.hid (show d = (pairsM l).length by rw [← hd]; exact HDE.out.1)
      have hrow := HL.out.2.row
      rw [hd] at hrow
      have HR := Lib.hid (And.intro hrow HL.out.2.bel)
      clear hrow hd
      go_wp2_with fail
      go_ret
      exact ⟨no, nc, by rw [HD.out]; rfl, by have := HR.out.1; rwa [HD.out] at this, HR.out.2⟩

end Go.Proofs.Ytkbhehnpgnilmaa

namespace Go.Proofs.Ytkbhehnpgnilmaa
open Go Go.RowKit
set_option linter.unusedSimpArgs false

set_option maxRecDepth 100000 in
set_option maxHeartbeats 2000000 in
theorem right8_any (n : Int) (co po : Option Addr) (cl cc pl pc : Nat) (w : World) :
    Calls Try.prog 84 #[.agg (sgC n (.slice co cl cc) (.slice po pl pc)).toArray] w (fun e w' => e = .returned (.bool (decide ((0 ≤ n ∧ n < 8) ∧ cl = 67 ∧ pl = 3))) ∧ Below w.heap.size w w') := by
  by_cases h0 : 0 ≤ n
  · by_cases h8 : n < 8
    · by_cases hc : cl = 67
      · by_cases hp : pl = 3
        · subst hc hp
          have HR := Lib.hid (show decide ((0 ≤ n ∧ n < 8) ∧ 67 = 67 ∧ 3 = 3) = true from decide_eq_true (by omega))
          rw [HR.out]
          go_enter Try.func84, Try.ntmps84
          go_wp2_with ((with_reducible refine wpList_box_blk w rfl 90 (.tmp 0) rfl (sgC n (.slice co 67 cc) (.slice po 3 pc)) rfl ?_); intro w1 hb hbel hsz; have c0 := hb.cell 0; have c1 := hb.cell 1; have c2 := hb.cell 2; simp only [sgC, List.getElem?_cons_zero, List.getElem?_cons_succ] at c0 c1 c2; have H1 := Lib.hid hbel; clear hb hbel hsz)
          go_ret
          exact ⟨rfl, H1.out⟩
        · have hpz : ((pl : Int) == 3) = false := by simp; omega
          subst hc
          have HR := Lib.hid (show decide ((0 ≤ n ∧ n < 8) ∧ 67 = 67 ∧ pl = 3) = false from decide_eq_false (by omega))
          rw [HR.out]
          go_enter Try.func84, Try.ntmps84
          go_wp2_with ((with_reducible refine wpList_box_blk w rfl 90 (.tmp 0) rfl (sgC n (.slice co 67 cc) (.slice po pl pc)) rfl ?_); intro w1 hb hbel hsz; have c0 := hb.cell 0; have c1 := hb.cell 1; have c2 := hb.cell 2; simp only [sgC, List.getElem?_cons_zero, List.getElem?_cons_succ] at c0 c1 c2; have H1 := Lib.hid hbel; clear hb hbel hsz)
          go_ret
          exact ⟨rfl, H1.out⟩
      · have hcz : ((cl : Int) == 67) = false := by simp; omega
        have HR := Lib.hid (show decide ((0 ≤ n ∧ n < 8) ∧ cl = 67 ∧ pl = 3) = false from decide_eq_false (by omega))
        rw [HR.out]
        go_enter Try.func84, Try.ntmps84
        go_wp2_with ((with_reducible refine wpList_box_blk w rfl 90 (.tmp 0) rfl (sgC n (.slice co cl cc) (.slice po pl pc)) rfl ?_); intro w1 hb hbel hsz; have c0 := hb.cell 0; have c1 := hb.cell 1; have c2 := hb.cell 2; simp only [sgC, List.getElem?_cons_zero, List.getElem?_cons_succ] at c0 c1 c2; have H1 := Lib.hid hbel; clear hb hbel hsz)
        go_ret
        exact ⟨rfl, H1.out⟩
    · skip
      have HR := Lib.hid (show decide ((0 ≤ n ∧ n < 8) ∧ cl = 67 ∧ pl = 3) = false from decide_eq_false (by omega))
      rw [HR.out]
      go_enter Try.func84, Try.ntmps84
      go_wp2_with ((with_reducible refine wpList_box_blk w rfl 90 (.tmp 0) rfl (sgC n (.slice co cl cc) (.slice po pl pc)) rfl ?_); intro w1 hb hbel hsz; have c0 := hb.cell 0; have c1 := hb.cell 1; have c2 := hb.cell 2; simp only [sgC, List.getElem?_cons_zero, List.getElem?_cons_succ] at c0 c1 c2; have H1 := Lib.hid hbel; clear hb hbel hsz)
      go_ret
      exact ⟨rfl, H1.out⟩
  · skip
    have HR := Lib.hid (show decide ((0 ≤ n ∧ n < 8) ∧ cl = 67 ∧ pl = 3) = false from decide_eq_false (by omega))
    rw [HR.out]
    go_enter Try.func84, Try.ntmps84
    go_wp2_with ((with_reducible refine wpList_box_blk w rfl 90 (.tmp 0) rfl (sgC n (.slice co cl cc) (.slice po pl pc)) rfl ?_); intro w1 hb hbel hsz; have c0 := hb.cell 0; have c1 := hb.cell 1; have c2 := hb.cell 2; simp only [sgC, List.getElem?_cons_zero, List.getElem?_cons_succ] at c0 c1 c2; have H1 := Lib.hid hbel; clear hb hbel hsz)
    go_ret
    exact ⟨rfl, H1.out⟩

end Go.Proofs.Ytkbhehnpgnilmaa

namespace Go.Proofs.Ytkbhehnpgnilmaa
open Go Go.RowKit
set_option linter.unusedSimpArgs false

set_option maxRecDepth 100000 in
set_option maxHeartbeats 2000000 in
theorem verified8_any (r m : List Int) (n : Int) (co po : Option Addr) (cc pc : Nat) (ch pt : List (List Int)) (w : World) (hr : IsD r) (hm : IsD m) (hc : SlD w (.slice co ch.length cc) ch) (hp : SlD w (.slice po pt.length pc) pt) (hcD : ∀ x ∈ ch, IsD x) (hpD : ∀ x ∈ pt, IsD x) :
    Calls Try.prog 78 #[.agg (ofK .u8 r).toArray, .agg (ofK .u8 m).toArray, .agg (sgC n (.slice co ch.length cc) (.slice po pt.length pc)).toArray] w (fun e w' => e = .returned (.bool (verM r m n ch pt)) ∧ Below w.heap.size w w') := by
  have HRD := Lib.hid hr
  have HRI := Lib.hid (infoD HRD.out)
  have HRL := Lib.hid (lenD HRD.out isD_zer)
  have HMD := Lib.hid hm
  have HMI := Lib.hid (infoD HMD.out)
  have HML := Lib.hid (lenD HMD.out isD_zer)
  have HS := Lib.hid (And.intro hc hp)
  have HCD := Lib.hid hcD
  have HPD := Lib.hid hpD
  obtain ⟨cl, hcl⟩ : ∃ k, ch.length = k := ⟨_, rfl⟩
  obtain ⟨pl, hpl⟩ : ∃ k, pt.length = k := ⟨_, rfl⟩
  have HCL := Lib.hid hcl
  have HPL := Lib.hid hpl
  rw [hcl, hpl] at HS ⊢
  clear hr hm hc hp hcD hpD hcl hpl
  by_cases hok : (0 ≤ n ∧ n < 8) ∧ cl = 67 ∧ pl = 3
  · obtain ⟨hn, rfl, rfl⟩ := hok
    obtain ⟨k, rfl⟩ : ∃ k : Nat, n = k := ⟨n.toNat, by omega⟩
    obtain ⟨y, hy⟩ : ∃ y, recB m ch = y := ⟨_, rfl⟩
    have hyD : IsD y := by rw [← hy]; exact isD_rec HCD.out HCL.out
    have HYD := Lib.hid hyD
    have HYI := Lib.hid (infoD HYD.out)
    have HYL := Lib.hid (lenD HYD.out isD_zer)
    obtain ⟨z, hz⟩ : ∃ z, climbM y k pt = z := ⟨_, rfl⟩
    have hzD : IsD z := by rw [← hz]; exact isD_climb hyD HPD.out
    obtain ⟨b, hb⟩ : ∃ b, decide (z = r) = b := ⟨_, rfl⟩
    have he := fun w => eq_ids w z r b hzD HRD.out hb
    have HVE := Lib.hid (show verM r m k ch pt = b from by rw [verM_ok ⟨hn, HCL.out, HPL.out⟩, hy, Int.toNat_natCast, hz, hb])
    have HE := Lib.hid (And.intro hy (And.intro hz (show k < 8 by omega)))
    clear hy hyD hz hzD hb hn
    go_enter Try.func78, Try.ntmps78
    go_wp2_with (first
    | (with_reducible refine wpList_box_blk w rfl 23 (.tmp 0) rfl (ofK .u8 r) rfl ?_; intro w1 hb hbel hsz; have HB1 := Lib.hid (And.intro hb hbel); clear hb hbel hsz)
    | (with_reducible refine wpList_box_blk w1 rfl 23 (.tmp 1) rfl (ofK .u8 m) rfl ?_; intro w2 hb hbel hsz; have HB2 := Lib.hid (show Blk w2 w.heap.size 23 (ofK .u8 r) ∧ Blk w2 w1.heap.size 23 (ofK .u8 m) ∧ Below w.heap.size w w2 from ⟨HB1.out.1.below hbel HB1.out.1.lt, hb, below_thn HB1.out.2 hbel (Nat.le_refl _)⟩); clear hb hbel hsz)
    | ((with_reducible refine wpList_box_blk w2 rfl 90 (.tmp 2) rfl (sgC k (.slice co 67 cc) (.slice po 3 pc)) rfl ?_); intro w3 hb hbel hsz; have H3 := Lib.hid (show w3.rangeAt w.heap.size 0 (ofK .u8 r) ∧ w3.rangeAt w1.heap.size 0 (ofK .u8 m) ∧ w3.cell? ⟨w2.heap.size, 0, none⟩ = some (.int .i64 k) ∧ w3.cell? ⟨w2.heap.size, 1, none⟩ = some (.slice co 67 cc) ∧ w3.cell? ⟨w2.heap.size, 2, none⟩ = some (.slice po 3 pc) ∧ SlD w3 (.slice co 67 cc) ch ∧ SlD w3 (.slice po 3 pc) pt ∧ w3.rangeAt w2.heap.size 0 (sgC k (.slice co 67 cc) (.slice po 3 pc)) ∧ Below w.heap.size w w3 from ⟨rangeW_below (rangeW_blk HB2.out.1) hbel, rangeW_below (rangeW_blk HB2.out.2.1) hbel, hb.cell 0, hb.cell 1, hb.cell 2, HS.out.1.below (below_thn HB2.out.2.2 hbel (Nat.le_refl _)), HS.out.2.below (below_thn HB2.out.2.2 hbel (Nat.le_refl _)), rangeW_blk hb, below_thn HB2.out.2.2 hbel (Nat.le_refl _)⟩); clear hb hbel hsz)
    | (with_reducible refine wpList_load_any rfl 90 (.tmp 5) rfl w2.heap.size 0 rfl (sgC k (.slice co 67 cc) (.slice po 3 pc)) _ H3.out.2.2.2.2.2.2.2.1 Try.underlying90 rfl (sgC_info _ _ _) ?_))
    have hR := right8_any k co po 67 cc 3 pc w3
    rw [decide_eq_true (show (0 ≤ (k : Int) ∧ (k : Int) < 8) ∧ (67 : Nat) = 67 ∧ (3 : Nat) = 3 from ⟨⟨by omega, by have := HE.out.2.2; omega⟩, rfl, rfl⟩)] at hR
    refine hR.mono ?_
    clear hR
    rintro e w4 ⟨rfl, hb4⟩
    have H4 := Lib.hid (show w4.rangeAt w.heap.size 0 (ofK .u8 r) ∧ w4.rangeAt w1.heap.size 0 (ofK .u8 m) ∧ w4.cell? ⟨w2.heap.size, 0, none⟩ = some (.int .i64 k) ∧ w4.cell? ⟨w2.heap.size, 1, none⟩ = some (.slice co 67 cc) ∧ w4.cell? ⟨w2.heap.size, 2, none⟩ = some (.slice po 3 pc) ∧ SlD w4 (.slice co 67 cc) ch ∧ SlD w4 (.slice po 3 pc) pt ∧ w4.rangeAt w2.heap.size 0 (sgC k (.slice co 67 cc) (.slice po 3 pc)) ∧ Below w.heap.size w w4 from ⟨rangeW_below H3.out.1 hb4, rangeW_below H3.out.2.1 hb4, (hb4.cell (p := ⟨w2.heap.size, 0, none⟩) (block_of_cell H3.out.2.2.1)).trans H3.out.2.2.1, (hb4.cell (p := ⟨w2.heap.size, 1, none⟩) (block_of_cell H3.out.2.2.2.1)).trans H3.out.2.2.2.1, (hb4.cell (p := ⟨w2.heap.size, 2, none⟩) (block_of_cell H3.out.2.2.2.2.1)).trans H3.out.2.2.2.2.1, H3.out.2.2.2.2.2.1.below hb4, H3.out.2.2.2.2.2.2.1.below hb4, rangeW_below H3.out.2.2.2.2.2.2.2.1 hb4, below_thn H3.out.2.2.2.2.2.2.2.2 hb4 (Nat.le_refl _)⟩)
    clear hb4
    have c1 := H4.out.2.2.2.1
    go_wp2_with (with_reducible refine wpList_load_any rfl 23 (.tmp 4) rfl w1.heap.size 0 rfl (ofK .u8 m) _ H4.out.2.1 Try.underlying23 rfl HMI.out ?_)
    refine (recover_ok m _ ch w4 HMD.out H4.out.2.2.2.2.2.1 HCL.out HCD.out).mono ?_
    rw [HE.out.1]
    rintro e w5 ⟨rfl, hb5⟩
    have H5 := Lib.hid (show w5.rangeAt w.heap.size 0 (ofK .u8 r) ∧ w5.rangeAt w1.heap.size 0 (ofK .u8 m) ∧ w5.cell? ⟨w2.heap.size, 0, none⟩ = some (.int .i64 k) ∧ w5.cell? ⟨w2.heap.size, 1, none⟩ = some (.slice co 67 cc) ∧ w5.cell? ⟨w2.heap.size, 2, none⟩ = some (.slice po 3 pc) ∧ SlD w5 (.slice co 67 cc) ch ∧ SlD w5 (.slice po 3 pc) pt ∧ w5.rangeAt w2.heap.size 0 (sgC k (.slice co 67 cc) (.slice po 3 pc)) ∧ Below w.heap.size w w5 from ⟨rangeW_below H4.out.1 hb5, rangeW_below H4.out.2.1 hb5, (hb5.cell (p := ⟨w2.heap.size, 0, none⟩) (block_of_cell H4.out.2.2.1)).trans H4.out.2.2.1, (hb5.cell (p := ⟨w2.heap.size, 1, none⟩) (block_of_cell H4.out.2.2.2.1)).trans H4.out.2.2.2.1, (hb5.cell (p := ⟨w2.heap.size, 2, none⟩) (block_of_cell H4.out.2.2.2.2.1)).trans H4.out.2.2.2.2.1, H4.out.2.2.2.2.2.1.below hb5, H4.out.2.2.2.2.2.2.1.below hb5, rangeW_below H4.out.2.2.2.2.2.2.2.1 hb5, below_thn H4.out.2.2.2.2.2.2.2.2 hb5 (Nat.le_refl _)⟩)
    clear hb5 c1
    go_wp2_with (first
    | ((with_reducible refine wpList_alloc_blk w5 rfl 23 rfl (ofK .u8 zer32) Try.zeroId ?_); intro w6 hb hbel hsz; have HAH7 := Lib.hid (And.intro hb hbel); clear hb hbel hsz)
    | ((with_reducible refine wpList_store_blk w6 rfl 23 (.tmp 7) (.tmp 17) rfl w5.heap.size 23 (ofK .u8 zer32) (ofK .u8 y) HAH7.out.1 rfl rfl HYL.out HYI.out (one_ofK _ _) ?_); intro w7 hb hc hs; have HBH7 := Lib.hid (show w7.rangeAt w5.heap.size 0 (ofK .u8 y) ∧ Below w5.heap.size w5 w7 from ⟨rangeW_blk hb, below_ch HAH7.out.2 hc (Nat.le_refl _) (fun j hj => by have : j = w5.heap.size := hj; omega)⟩); have H7 := Lib.hid (show w7.rangeAt w.heap.size 0 (ofK .u8 r) ∧ w7.rangeAt w1.heap.size 0 (ofK .u8 m) ∧ w7.cell? ⟨w2.heap.size, 0, none⟩ = some (.int .i64 k) ∧ w7.cell? ⟨w2.heap.size, 1, none⟩ = some (.slice co 67 cc) ∧ w7.cell? ⟨w2.heap.size, 2, none⟩ = some (.slice po 3 pc) ∧ SlD w7 (.slice co 67 cc) ch ∧ SlD w7 (.slice po 3 pc) pt ∧ w7.rangeAt w2.heap.size 0 (sgC k (.slice co 67 cc) (.slice po 3 pc)) ∧ w7.rangeAt w5.heap.size 0 (ofK .u8 y) ∧ Below w.heap.size w w7 from ⟨rangeW_below H5.out.1 HBH7.out.2, rangeW_below H5.out.2.1 HBH7.out.2, (HBH7.out.2.cell (p := ⟨w2.heap.size, 0, none⟩) (block_of_cell H5.out.2.2.1)).trans H5.out.2.2.1, (HBH7.out.2.cell (p := ⟨w2.heap.size, 1, none⟩) (block_of_cell H5.out.2.2.2.1)).trans H5.out.2.2.2.1, (HBH7.out.2.cell (p := ⟨w2.heap.size, 2, none⟩) (block_of_cell H5.out.2.2.2.2.1)).trans H5.out.2.2.2.2.1, H5.out.2.2.2.2.2.1.below HBH7.out.2, H5.out.2.2.2.2.2.2.1.below HBH7.out.2, rangeW_below H5.out.2.2.2.2.2.2.2.1 HBH7.out.2, HBH7.out.1, below_thn H5.out.2.2.2.2.2.2.2.2 HBH7.out.2 (Nat.le_refl _)⟩); clear hb hc hs))
    try simp only [Act.put, List.setIfInBounds_toArray, List.set_cons_zero, List.set_cons_succ]
    have C1 := Lib.hid (fun q => climbed_any y k (.slice po 3 pc) pt (grew w7 q) HYD.out HE.out.2.2 (H7.out.2.2.2.2.2.2.1.below (below_grew w7 q)) HPL.out HPD.out)
    rw [HE.out.2.1] at C1
    have g0 := fun q => cell_grew H7.out.2.2.1 q
    have g2 := fun q => cell_grew H7.out.2.2.2.2.1 q
    refine wp_region_grew (by kernel_rfl) (by kernel_rfl) ?_
    repeat (first | go_big_quiet_skip | (go_big_quiet_want; (first | (refine quiet_load_mid 23 (.tmp 7) rfl w5.heap.size 0 rfl (ofK .u8 y) _ (fun w' hw' => rangeAt_grew H7.out.2.2.2.2.2.2.2.2.1 w' hw') Try.underlying23 rfl HYI.out ?_; go_simp; go_big_quiet_on) | (refine quiet_load_mid 23 (.tmp 3) rfl w.heap.size 0 rfl (ofK .u8 r) _ (fun w' hw' => rangeAt_grew H7.out.1 w' hw') Try.underlying23 rfl HRI.out ?_; go_simp; go_big_quiet_on) | (go_big_quiet_op; (first | go_big_quiet_on | (apply Exists.intro; refine ⟨fun _ => ?_, ?_⟩; (focus (first | (go_at_call 69; with_reducible exact calls_grew (C1.out _)))); go_big_quiet_on))))))
    refine wpQuiet_nil ?_
    intro w9 hw9
    obtain ⟨q, rfl⟩ := hw9
    go_wp2_with fail
    go_ret
    exact ⟨by rw [HVE.out]; rfl, below_thn H7.out.2.2.2.2.2.2.2.2.2 (below_grew w7 q) (Nat.le_refl _)⟩
  · have HVE := Lib.hid (show verM r m n ch pt = false from verM_bad (fun h => hok ⟨h.1, HCL.out.symm.trans h.2.1, HPL.out.symm.trans h.2.2⟩))
    have HOK := Lib.hid (show decide ((0 ≤ n ∧ n < 8) ∧ cl = 67 ∧ pl = 3) = false from decide_eq_false hok)
    clear hok
    go_enter Try.func78, Try.ntmps78
    go_wp2_with (first
    | (with_reducible refine wpList_box_blk w rfl 23 (.tmp 0) rfl (ofK .u8 r) rfl ?_; intro w1 hb hbel hsz; have HB1 := Lib.hid (And.intro hb hbel); clear hb hbel hsz)
    | (with_reducible refine wpList_box_blk w1 rfl 23 (.tmp 1) rfl (ofK .u8 m) rfl ?_; intro w2 hb hbel hsz; have HB2 := Lib.hid (show Blk w2 w.heap.size 23 (ofK .u8 r) ∧ Blk w2 w1.heap.size 23 (ofK .u8 m) ∧ Below w.heap.size w w2 from ⟨HB1.out.1.below hbel HB1.out.1.lt, hb, below_thn HB1.out.2 hbel (Nat.le_refl _)⟩); clear hb hbel hsz)
    | ((with_reducible refine wpList_box_blk w2 rfl 90 (.tmp 2) rfl (sgC n (.slice co cl cc) (.slice po pl pc)) rfl ?_); intro w3 hb hbel hsz; have H3 := Lib.hid (show w3.rangeAt w.heap.size 0 (ofK .u8 r) ∧ w3.rangeAt w1.heap.size 0 (ofK .u8 m) ∧ w3.cell? ⟨w2.heap.size, 0, none⟩ = some (.int .i64 n) ∧ w3.cell? ⟨w2.heap.size, 1, none⟩ = some (.slice co cl cc) ∧ w3.cell? ⟨w2.heap.size, 2, none⟩ = some (.slice po pl pc) ∧ SlD w3 (.slice co cl cc) ch ∧ SlD w3 (.slice po pl pc) pt ∧ w3.rangeAt w2.heap.size 0 (sgC n (.slice co cl cc) (.slice po pl pc)) ∧ Below w.heap.size w w3 from ⟨rangeW_below (rangeW_blk HB2.out.1) hbel, rangeW_below (rangeW_blk HB2.out.2.1) hbel, hb.cell 0, hb.cell 1, hb.cell 2, HS.out.1.below (below_thn HB2.out.2.2 hbel (Nat.le_refl _)), HS.out.2.below (below_thn HB2.out.2.2 hbel (Nat.le_refl _)), rangeW_blk hb, below_thn HB2.out.2.2 hbel (Nat.le_refl _)⟩); clear hb hbel hsz)
    | (with_reducible refine wpList_load_any rfl 90 (.tmp 5) rfl w2.heap.size 0 rfl (sgC n (.slice co cl cc) (.slice po pl pc)) _ H3.out.2.2.2.2.2.2.2.1 Try.underlying90 rfl (sgC_info _ _ _) ?_))
    refine (right8_any n co po cl cc pl pc w3).mono ?_
    rw [HOK.out]
    rintro e w4 ⟨rfl, hb4⟩
    have H4 := Lib.hid (below_thn H3.out.2.2.2.2.2.2.2.2 hb4 (Nat.le_refl _))
    clear hb4
    go_wp2_with fail
    go_ret
    exact ⟨by rw [HVE.out]; rfl, H4.out⟩

end Go.Proofs.Ytkbhehnpgnilmaa

namespace Go.Proofs.Ytkbhehnpgnilmaa
open Go Go.RowKit
set_option linter.unusedSimpArgs false

/-- an own row of bytes, since w0 -/
structure RowB (w0 : World) (rv : Value) (xs : List Int) (wz : World) : Prop where
  row : wz.ownsRow w0.heap.size 5 1 rv xs.length (ofK .u8 xs)
  bel : Below w0.heap.size w0 wz
theorem RowB.size {w0 wz : World} {rv : Value} {xs : List Int} (h : RowB w0 rv xs wz) : w0.heap.size ≤ wz.heap.size := h.bel.size
theorem RowB.lt {w0 wz : World} {rv : Value} {xs : List Int} (h : RowB w0 rv xs wz) {k : Nat} (hk : rv.ownBlock = some k) : k < wz.heap.size := (h.row.lt k hk).2
theorem RowB.below {w0 wz w' : World} {rv : Value} {xs : List Int} (h : RowB w0 rv xs wz) (hb : Below wz.heap.size wz w') : RowB w0 rv xs w' :=
  ⟨own_ch h.row (Ch.of_below (S := fun _ => False) hb (Nat.le_refl _)) (fun _ _ h => h), below_thn h.bel hb (Nat.le_refl _)⟩
theorem RowB.ch {w0 wz w' : World} {rv : Value} {xs : List Int} {g : Nat} (h : RowB w0 rv xs wz) (hc : Ch (· = g) wz w') (hg : w0.heap.size ≤ g) (hn : ∀ k, rv.ownBlock = some k → k < g) : RowB w0 rv xs w' :=
  ⟨own_ch h.row hc (fun k hk e => by have := hn k hk; have e2 : k = g := e; omega), below_ch h.bel hc (Nat.le_refl _) (fun k hk => by have e : k = g := hk; omega)⟩

theorem SlD.spots {w : World} {ao : Option Addr} {n c : Nat} {l : List (List Int)} (h : SlD w (.slice ao n c) l) {e : Nat} (he : e < l.length) : ∃ g o, ao = some ⟨g, o, none⟩ ∧ w.rangeAt g (o + e * 32) (ofK .u8 l[e]) := by
  obtain ⟨ao', c', h1, h2, h3, h4⟩ := h
  obtain ⟨rfl, -, -⟩ : ao = ao' ∧ n = l.length ∧ c = c' := by simpa using h1
  obtain ⟨g, o, h5, h6⟩ := h4 (by omega)
  exact ⟨g, o, h5, h6 e he⟩

/-- an own row of bytes, a digest behind it -/
theorem wpList_append_xs {w0 w : World} {ops : Array Oper} {rest : List Oper} {o : Oper} {a : Act} {Q : Exit → Act → World → Prop} (s x' : Operand) (hgd : o.guard = none)
    (ho : o.op = .call { callee := .builtin .append, args := #[s, x'], argTypes := #[33, 33] }) {v : Value} {xs : List Int} (hr : RowB w0 v xs w) (hs : a.eval s = v)
    {g : Nat} {x : List Int} (hx : a.eval x' = .slice (some ⟨g, 0, none⟩) 32 32) (hg : Blk w g 23 (ofK .u8 x)) (hD : IsD x) (hn : xs.length ≤ 1000000)
    (h : ∀ ao c w', RowB w0 (.slice ao (xs.length + 32) c) (xs ++ x) w' → wpList Try.prog ops Q rest (a.put o.dst (.slice ao (xs.length + 32) c)) w') :
    wpList Try.prog ops Q (o :: rest) a w := by
  obtain ⟨i0, hi, hz0, hz1, hz2⟩ := info_parts Try.info5
  refine wpList_append_sl w hgd s x' _ ho w0.heap.size 5 i0 (.int .u8 0) 1 Try.underlying33 hi hz0 hz1 hz2 rfl v xs.length (ofK .u8 xs) hs hr.row _ (ofK .u8 x) hx (sl_id hD hg) (one_ofK _ _) (xs.length + 32) (by rw [length_ofK, hD.1]) (by unfold maxLen; omega) (by omega) hr.size ?_
  intro ao c w' hown hgr _
  refine h ao c w' ⟨?_, hr.bel.grown hgr hr.size (fun k hk => (hr.row.lt k hk).1)⟩
  have e1 : ofK .u8 (xs ++ x) = ofK .u8 xs ++ ofK .u8 x := by simp [ofK]
  rw [e1, List.length_append, hD.1]
  exact hown

theorem Try.sizeU8 : ∀ w, (sizeOf 5).run Try.prog w = .ok 1 w := fun w => by kernel_rfl
theorem Try.zeroU8 : ∀ w, (zeroValue 5).run Try.prog w = .ok (.int .u8 0) w := fun w => by kernel_rfl
/-- a row of one byte, made -/
theorem wpList_slice_b1 (w : World) {ops : Array Oper} {rest : List Oper} {o : Oper} {a : Act} {Q : Exit → Act → World → Prop} (hgd : o.guard = none) (x : Operand) (ho : o.op = .buildSlice 33 1 #[(0, x)]) {c : Int} (hx : a.eval x = .int .u8 c)
    (h : ∀ w', RowB w (.slice (some ⟨w.heap.size, 0, none⟩) 1 1) [c] w' → w'.heap.size = w.heap.size + 1 → wpList Try.prog ops Q rest (a.put o.dst (.slice (some ⟨w.heap.size, 0, none⟩) 1 1)) w') :
    wpList Try.prog ops Q (o :: rest) a w := by
  refine wpList_plain hgd fun K hK => ?_
  have hb : (Instr.buildSlice 33 1 #[(0, .int .u8 c)]).run Try.prog w = .ok (.slice (some ⟨w.heap.size, 0, none⟩) 1 1) (w.alloc (.cells [Value.int .u8 c].toArray 5)) := by
    simp [Instr.buildSlice, run_underlying Try.underlying33, Try.sizeU8, Try.zeroU8, Value.cells, Result.andThen, Instr.fill, run_newRow', Array.range_succ]
    rw [Array.eq_empty_of_size_eq_zero (xs := Array.map _ (Array.range 0)) (by simp)]
    rfl
  have hrun : (execOp a.eval o).run Try.prog w = .ok (.value (.slice (some ⟨w.heap.size, 0, none⟩) 1 1)) (w.alloc (.cells [Value.int .u8 c].toArray 5)) := by
    unfold execOp
    simp only [ho]
    rw [show (#[((0 : Nat), x)].map fun (i, x) => (i, a.eval x)) = #[(0, .int .u8 c)] by simp [hx]]
    simp [hb, Result.andThen]
  unfold Oper.wp
  rw [hrun]
  refine hK _ _ (h _ ⟨?_, (Below.refl _ _).alloc (Nat.le_refl _) _⟩ (World.size_alloc _ _))
  exact (Blk.new w [Value.int .u8 c] 5).owns (Nat.le_refl _) (by simp [maxLen])

/-- the bytes of a signature -/
def bytesM (n : Int) (C P : List (List Int)) : List Int := [n % 256] ++ C.flatten ++ P.flatten
theorem bytesM_length {n : Int} {C P : List (List Int)} (hC : ∀ x ∈ C, IsD x) (hP : ∀ x ∈ P, IsD x) : (bytesM n C P).length = 1 + 32 * C.length + 32 * P.length := by
  unfold bytesM
  rw [List.length_append, List.length_append, flat32 hC, flat32 hP]; simp

set_option maxRecDepth 100000 in
set_option maxHeartbeats 4000000 in
theorem lbytes8_any (n : Int) (co po : Option Addr) (cl cc pl pc : Nat) (C P : List (List Int)) (w : World) (h1 : SlD w (.slice co cl cc) C) (h2 : SlD w (.slice po pl pc) P) (d1 : ∀ x ∈ C, IsD x) (d2 : ∀ x ∈ P, IsD x) (l1 : C.length ≤ 1000) (l2 : P.length ≤ 1000) :
    Calls Try.prog 85 #[.agg (sgC n (.slice co cl cc) (.slice po pl pc)).toArray] w (fun e w' => ∃ v, e = .returned v ∧ Sl w' v (ofK .u8 (bytesM n C P)) ∧ Below w.heap.size w w') := by
  have hcl : C.length = cl := by obtain ⟨_, _, e, _⟩ := h1; simp at e; exact e.2.1.symm
  have hpl : P.length = pl := by obtain ⟨_, _, e, _⟩ := h2; simp at e; exact e.2.1.symm
  have hbigC : ∀ e, ([n % 256] ++ (C.take e).flatten).length ≤ 1000000 := fun e => by
    rw [List.length_append, flat32 (fun y hy => d1 y (List.mem_of_mem_take hy)), List.length_take]; simp; omega
  have hbigP : ∀ e, ([n % 256] ++ C.flatten ++ (P.take e).flatten).length ≤ 1000000 := fun e => by
    rw [List.length_append, List.length_append, flat32 (fun y hy => d2 y (List.mem_of_mem_take hy)), flat32 d1, List.length_take]; simp; omega
  have HBC := Lib.hid hbigC
  have HBP := Lib.hid hbigP
  have HC := Lib.hid (And.intro hcl (And.intro (show cl ≤ 1000 by omega) d1))
  have HP := Lib.hid (And.intro hpl (And.intro (show pl ≤ 1000 by omega) d2))
  have HS := Lib.hid (And.intro h1 h2)
  have hwn : IntKind.u8.wrap n = n % 256 := by rw [IntKind.wrap_u8]
  clear h1 h2 d1 d2 l1 l2 hcl hpl hbigC hbigP
  go_enter Try.func85, Try.ntmps85
  go_wp2_with (first
    | ((with_reducible refine wpList_box_blk w rfl 90 (.tmp 0) rfl (sgC n (.slice co cl cc) (.slice po pl pc)) rfl ?_); intro w1 hb hbel hsz; have c0 := hb.cell 0; have c1 := hb.cell 1; have c2 := hb.cell 2; simp only [sgC, List.getElem?_cons_zero, List.getElem?_cons_succ] at c0 c1 c2; have HB1 := Lib.hid (And.intro hb (And.intro hbel hsz)); have HC1 := Lib.hid (And.intro c0 (And.intro c1 c2)); clear hb hbel hsz c1 c2)
    | ((with_reducible refine wpList_slice_b1 w1 rfl (.tmp 10) rfl rfl ?_); intro w2 hr hsz; have HR2 := Lib.hid hr; have c1 := (hr.bel.cell (p := ⟨w.heap.size, 1, none⟩) (block_of_cell HC1.out.2.1)).trans HC1.out.2.1; have c2 := (hr.bel.cell (p := ⟨w.heap.size, 2, none⟩) (block_of_cell HC1.out.2.2)).trans HC1.out.2.2; clear hr hsz c0))
  have HA := Lib.hid (show 1 = [n % 256].length ∧ RowB w1 (.slice (some ⟨w1.heap.size, 0, none⟩) 1 1) [n % 256] w2 from ⟨rfl, HR2.out⟩)
  have HSC := Lib.hid (HS.out.1.below HB1.out.2.1)
  have HSP := Lib.hid (HS.out.2.below HB1.out.2.1)
  have hcl := HC.out.2.1
  have hpl := HP.out.2.1
  have hz1 : w.heap.size < w1.heap.size := by have := HB1.out.2.2; omega
  clear c1 c2
  go_loopw [3, 15] (fun bv iv wr => ∃ (e : Nat) (bo : Option Addr) (bl bc : Nat), bv = .slice bo bl bc ∧ iv = .int .i64 e ∧ Hid (e ≤ cl) ∧ Hid (bl = ([n % 256] ++ (C.take e).flatten).length) ∧ Hid (RowB w1 (.slice bo bl bc) ([n % 256] ++ (C.take e).flatten) wr)) (fun _ iv _ => cl - (intOf iv).toNat)
  case atStart => exact ⟨0, _, _, _, rfl, rfl, Lib.hid (Nat.zero_le _), Lib.hid (by rw [List.take_zero, List.flatten_nil, List.append_nil]; exact HA.out.1), Lib.hid (by rw [List.take_zero, List.flatten_nil, List.append_nil]; exact HA.out.2)⟩
  case round =>
    obtain ⟨e, bo, bl, bc, rfl, rfl, HE, HBL, HRB⟩ := hrel
    have hen := HE.out
    by_cases hlt : e < cl
    · have hltz : (e : Int) < (cl : Int) := by omega
      have he0 : (0 : Int) ≤ (e : Int) := by omega
      have hw1 : IntKind.i64.wrap ((e : Int) + 1) = ((e + 1 : Nat) : Int) := by have := HC.out.2.1; rw [IntKind.wrap_i64]; push_cast; omega
      have hel : e < C.length := by rw [HC.out.1]; exact hlt
      obtain ⟨ag, ago, hav, hca⟩ := SlD.spots HSC.out hel
      have hca2 := rangeW_below hca HRB.out.bel
      subst hav
      have htk : (C.take (e + 1)).flatten = (C.take e).flatten ++ C[e] := by rw [List.take_add_one, List.getElem?_eq_getElem hel, List.flatten_append]; simp
      have hxD := HC.out.2.2 _ (List.getElem_mem hel)
      generalize C[e] = x at hca hca2 htk hxD
      have HXD := Lib.hid hxD
      have HXI := Lib.hid (infoD hxD)
      have HXL := Lib.hid (lenD hxD isD_zer)
      have HTK := Lib.hid htk
      have HCA := Lib.hid hca2
      clear hca hca2 hxD htk hel
      obtain ⟨Y, hY⟩ : ∃ Y, [n % 256] ++ (C.take e).flatten = Y := ⟨_, rfl⟩
      have HBG := Lib.hid (HBC.out e)
      rw [hY] at HBL HRB HBG
      have HY := Lib.hid hY
      clear hY
      go_wp2_with (first
    | (with_reducible refine wpList_load_any rfl 23 (.tmp 17) rfl ag (ago + e * 32) rfl (ofK .u8 x) _ HCA.out Try.underlying23 rfl HXI.out ?_)
    | ((with_reducible refine wpList_alloc_blk wr rfl 23 rfl (ofK .u8 zer32) Try.zeroId ?_); intro w4 hb hbel hsz; have HB4 := Lib.hid (And.intro hb (HRB.out.below hbel)); clear hb hbel hsz)
    | ((with_reducible refine wpList_store_blk w4 rfl 23 (.tmp 5) (.tmp 18) rfl wr.heap.size 23 (ofK .u8 zer32) (ofK .u8 x) HB4.out.1 rfl rfl HXL.out HXI.out (one_ofK _ _) ?_); intro w5 hb hc hs; have HB5 := Lib.hid (And.intro hb (HB4.out.2.ch hc (HRB.out.size)  (fun k hk => by have := HRB.out.lt hk; omega))); clear hb hc hs)
    | (at_builtin; refine wpList_append_xs (.tmp 19) (.tmp 20) rfl rfl HB5.out.2 rfl rfl HB5.out.1 HXD.out HBG.out ?_))
      intro ao2 c2 w6 hrow
      have H6 := Lib.hid hrow
      clear hrow
      go_wp2_with fail
      go_roundw
      case rel => exact ⟨e + 1, ao2, _, c2, rfl, by go_num, Lib.hid (by omega), Lib.hid (by rw [HTK.out, ← List.append_assoc, HY.out, List.length_append, HXD.out.1]), Lib.hid (by rw [HTK.out, ← List.append_assoc, HY.out]; exact H6.out)⟩
      case measure => simp [intOf]; omega
    · have hge : ¬ (e : Int) < (cl : Int) := by omega
      have hee : e = cl := by omega
      have HA2 := Lib.hid (show bl = ([n % 256] ++ C.flatten).length ∧ RowB w1 (.slice bo bl bc) ([n % 256] ++ C.flatten) wr from by have h1 := HBL.out; have h2 := HRB.out; rw [List.take_of_length_le (by rw [HC.out.1]; omega)] at h1 h2; exact ⟨h1, h2⟩)
      clear HBL HRB HE hen hee hlt
      have c2 := (HA2.out.2.bel.cell (p := ⟨w.heap.size, 2, none⟩) (block_of_cell HC1.out.2.2)).trans HC1.out.2.2
      go_wp2_with fail
      clear c2

      go_loopw [3, 26] (fun bv iv wr => ∃ (e : Nat) (bo : Option Addr) (bl bc : Nat), bv = .slice bo bl bc ∧ iv = .int .i64 e ∧ Hid (e ≤ pl) ∧ Hid (bl = ([n % 256] ++ C.flatten ++ (P.take e).flatten).length) ∧ Hid (RowB w1 (.slice bo bl bc) ([n % 256] ++ C.flatten ++ (P.take e).flatten) wr)) (fun _ iv _ => pl - (intOf iv).toNat)
      case atStart => exact ⟨0, _, _, _, rfl, rfl, Lib.hid (Nat.zero_le _), Lib.hid (by rw [List.take_zero, List.flatten_nil, List.append_nil]; exact HA2.out.1), Lib.hid (by rw [List.take_zero, List.flatten_nil, List.append_nil]; exact HA2.out.2)⟩
      case round =>
        obtain ⟨e, bo, bl, bc, rfl, rfl, HE, HBL, HRB⟩ := hrel
        have hen := HE.out
        by_cases hlt : e < pl
        · have hltz : (e : Int) < (pl : Int) := by omega
          have he0 : (0 : Int) ≤ (e : Int) := by omega
          have hw1 : IntKind.i64.wrap ((e : Int) + 1) = ((e + 1 : Nat) : Int) := by have := HP.out.2.1; rw [IntKind.wrap_i64]; push_cast; omega
          have hel : e < P.length := by rw [HP.out.1]; exact hlt
          obtain ⟨ag, ago, hav, hca⟩ := SlD.spots HSP.out hel
          have hca2 := rangeW_below hca HRB.out.bel
          subst hav
          have htk : (P.take (e + 1)).flatten = (P.take e).flatten ++ P[e] := by rw [List.take_add_one, List.getElem?_eq_getElem hel, List.flatten_append]; simp
          have hxD := HP.out.2.2 _ (List.getElem_mem hel)
          generalize P[e] = x at hca hca2 htk hxD
          have HXD := Lib.hid hxD
          have HXI := Lib.hid (infoD hxD)
          have HXL := Lib.hid (lenD hxD isD_zer)
          have HTK := Lib.hid htk
          have HCA := Lib.hid hca2
          clear hca hca2 hxD htk hel
          obtain ⟨Y, hY⟩ : ∃ Y, [n % 256] ++ C.flatten ++ (P.take e).flatten = Y := ⟨_, rfl⟩
          have HBG := Lib.hid (HBP.out e)
          rw [hY] at HBL HRB HBG
          have HY := Lib.hid hY
          clear hY
          go_wp2_with (first
    | (with_reducible refine wpList_load_any rfl 23 (.tmp 28) rfl ag (ago + e * 32) rfl (ofK .u8 x) _ HCA.out Try.underlying23 rfl HXI.out ?_)
    | ((with_reducible refine wpList_alloc_blk wr rfl 23 rfl (ofK .u8 zer32) Try.zeroId ?_); intro w4 hb hbel hsz; have HB4 := Lib.hid (And.intro hb (HRB.out.below hbel)); clear hb hbel hsz)
    | ((with_reducible refine wpList_store_blk w4 rfl 23 (.tmp 7) (.tmp 29) rfl wr.heap.size 23 (ofK .u8 zer32) (ofK .u8 x) HB4.out.1 rfl rfl HXL.out HXI.out (one_ofK _ _) ?_); intro w5 hb hc hs; have HB5 := Lib.hid (And.intro hb (HB4.out.2.ch hc (HRB.out.size)  (fun k hk => by have := HRB.out.lt hk; omega))); clear hb hc hs)
    | (at_builtin; refine wpList_append_xs (.tmp 30) (.tmp 31) rfl rfl HB5.out.2 rfl rfl HB5.out.1 HXD.out HBG.out ?_))
          intro ao2 c2 w6 hrow
          have H6 := Lib.hid hrow
          clear hrow
          go_wp2_with fail
          go_roundw
          case rel => exact ⟨e + 1, ao2, _, c2, rfl, by go_num, Lib.hid (by omega), Lib.hid (by rw [HTK.out, ← List.append_assoc, HY.out, List.length_append, HXD.out.1]), Lib.hid (by rw [HTK.out, ← List.append_assoc, HY.out]; exact H6.out)⟩
          case measure => simp [intOf]; omega
        · have hge : ¬ (e : Int) < (pl : Int) := by omega
          have hee : e = pl := by omega
          have HA3 := Lib.hid (show bl = ([n % 256] ++ C.flatten ++ P.flatten).length ∧ RowB w1 (.slice bo bl bc) ([n % 256] ++ C.flatten ++ P.flatten) wr from by have h1 := HBL.out; have h2 := HRB.out; rw [List.take_of_length_le (by rw [HP.out.1]; omega)] at h1 h2; exact ⟨h1, h2⟩)
          clear HBL HRB HE hen hee hlt
          go_wp2_with fail
          go_ret
          exact ⟨_, rfl, Sl.of_owns HA3.out.2.row, below_thn HB1.out.2.1 HA3.out.2.bel (Nat.le_refl _)⟩


theorem wpList_index {P : Program} (w : World) {ops : Array Oper} {rest : List Oper} {o : Oper} {a : Act} {Q : Exit → Act → World → Prop} (hgd : o.guard = none) (t : TypeId) (x y : Operand) (ho : o.op = .index t x y) (vx vy v : Value) (hx : a.eval x = vx) (hy : a.eval y = vy)
    (hr : (Instr.index t vx vy).run P w = .ok v w) (h : wpList P ops Q rest (a.put o.dst v) w) : wpList P ops Q (o :: rest) a w := by
  refine wpList_plain hgd fun K hK => ?_
  have hrun : (execOp a.eval o).run P w = .ok (.value v) w := by
    unfold execOp
    simp [ho, hx, hy, hr, Result.andThen]
  unfold Oper.wp
  rw [hrun]
  exact hK _ _ h
theorem Try.pick0 (ao bo : Option Addr) (k c l d : Nat) : ∀ w, (Instr.index 148 (.agg #[.slice ao k c, .slice bo l d]) (.int .i64 0)).run Try.prog w = .ok (.slice ao k c) w := fun w => by kernel_rfl
theorem Try.pick1 (ao bo : Option Addr) (k c l d : Nat) : ∀ w, (Instr.index 148 (.agg #[.slice ao k c, .slice bo l d]) (.int .i64 1)).run Try.prog w = .ok (.slice bo l d) w := fun w => by kernel_rfl

/-- how far they are laid -/
def partM (n : Int) (C P : List (List Int)) : Nat → List Int
  | 0 => [n % 256]
  | 1 => [n % 256] ++ C.flatten
  | _ => [n % 256] ++ C.flatten ++ P.flatten

set_option maxRecDepth 100000 in
set_option maxHeartbeats 4000000 in
theorem encode8_ok (n : Int) (co po : Option Addr) (cl cc pl pc : Nat) (C P : List (List Int)) (w : World) (h1 : SlD w (.slice co cl cc) C) (h2 : SlD w (.slice po pl pc) P) (d1 : ∀ x ∈ C, IsD x) (d2 : ∀ x ∈ P, IsD x) (h0 : 0 ≤ n) (h8 : n < 8) (l1 : cl = 67) (l2 : pl = 3) :
    Calls Try.prog 83 #[.agg (sgC n (.slice co cl cc) (.slice po pl pc)).toArray] w (fun e w' => ∃ v, e = .returned (.tuple #[v, .int .i64 0]) ∧ w'.ownsRow w.heap.size 5 1 v (bytesM n C P).length (ofK .u8 (bytesM n C P)) ∧ Below w.heap.size w w') := by
  subst l1 l2
  have hcl : C.length = 67 := by obtain ⟨_, _, e, _⟩ := h1; simp at e; exact e.2.1.symm
  have hpl : P.length = 3 := by obtain ⟨_, _, e, _⟩ := h2; simp at e; exact e.2.1.symm
  have hbigC : ∀ e, ([n % 256] ++ (C.take e).flatten).length ≤ 1000000 := fun e => by
    rw [List.length_append, flat32 (fun y hy => d1 y (List.mem_of_mem_take hy)), List.length_take]; simp; omega
  have hbigP : ∀ e, ([n % 256] ++ C.flatten ++ (P.take e).flatten).length ≤ 1000000 := fun e => by
    rw [List.length_append, List.length_append, flat32 (fun y hy => d2 y (List.mem_of_mem_take hy)), flat32 d1, List.length_take]; simp; omega
  have HBC := Lib.hid hbigC
  have HBP := Lib.hid hbigP
  have HC := Lib.hid (And.intro hcl (And.intro (show 67 ≤ 1000 by omega) d1))
  have HP := Lib.hid (And.intro hpl (And.intro (show 3 ≤ 1000 by omega) d2))
  have HS := Lib.hid (And.intro h1 h2)
  have HN := Lib.hid (And.intro h0 h8)
  have hwn : IntKind.u8.wrap n = n % 256 := by rw [IntKind.wrap_u8]
  clear h1 h2 d1 d2 hcl hpl hbigC hbigP h0 h8
  go_enter Try.func83, Try.ntmps83
  go_wp2_with (first
    | ((with_reducible refine wpList_box_blk w rfl 90 (.tmp 0) rfl (sgC n (.slice co 67 cc) (.slice po 3 pc)) rfl ?_); intro w1 hb hbel hsz; have c0 := hb.cell 0; have c1 := hb.cell 1; have c2 := hb.cell 2; simp only [sgC, List.getElem?_cons_zero, List.getElem?_cons_succ] at c0 c1 c2; have HB1 := Lib.hid (And.intro hb (And.intro hbel hsz)); have HC1 := Lib.hid (And.intro c0 (And.intro c1 c2)); clear hb hbel hsz))
  refine (leafed_ok n w1 HN.out.1 HN.out.2).mono ?_
  rintro e wz ⟨rfl, rfl⟩
  go_wp2_with ((with_reducible refine wpList_slice_b1 w1 rfl (.tmp 27) rfl rfl ?_); intro w2 hr hsz; have HR2 := Lib.hid hr; have d1 := (hr.bel.cell (p := ⟨w.heap.size, 1, none⟩) (block_of_cell HC1.out.2.1)).trans HC1.out.2.1; have d2 := (hr.bel.cell (p := ⟨w.heap.size, 2, none⟩) (block_of_cell HC1.out.2.2)).trans HC1.out.2.2; clear hr hsz c0 c1 c2)
  have HA := Lib.hid (show 1 = (partM n C P 0).length ∧ RowB w1 (.slice (some ⟨w1.heap.size, 0, none⟩) 1 1) (partM n C P 0) w2 from ⟨rfl, HR2.out⟩)
  have HSC := Lib.hid (HS.out.1.below HB1.out.2.1)
  have HSP := Lib.hid (HS.out.2.below HB1.out.2.1)
  have hz1 : w.heap.size < w1.heap.size := by have := HB1.out.2.2; omega
  clear d1 d2
  go_loopw [4, 34] (fun bv jv wr => ∃ (j : Nat) (bo : Option Addr) (bl bc : Nat), bv = .slice bo bl bc ∧ jv = .int .i64 j ∧ Hid (j ≤ 2) ∧ Hid (bl = (partM n C P j).length ∧ RowB w1 (.slice bo bl bc) (partM n C P j) wr)) (fun _ jv _ => 2 - (intOf jv).toNat)
  case atStart => exact ⟨0, _, _, _, rfl, rfl, Lib.hid (by omega), HA⟩
  case round =>
    obtain ⟨j, bo, bl, bc, rfl, rfl, HJ, HA1⟩ := hrel
    rcases (show j = 0 ∨ j = 1 ∨ j = 2 by have := HJ.out; omega) with rfl | rfl | rfl
    · go_wp2_with (refine wpList_index wr rfl 148 (.tmp 33) (.tmp 34) rfl _ _ _ rfl rfl (Try.pick0 _ _ _ _ _ _ wr) ?_)
      have HA2 := Lib.hid (show bl = ([n % 256]).length ∧ RowB w1 (.slice bo bl bc) ([n % 256]) wr from HA1.out)
      clear HA1
      go_loopw [4, 39] (fun bv iv wr => ∃ (e : Nat) (bo : Option Addr) (bl bc : Nat), bv = .slice bo bl bc ∧ iv = .int .i64 e ∧ Hid (e ≤ 67) ∧ Hid (bl = ([n % 256] ++ (C.take e).flatten).length) ∧ Hid (RowB w1 (.slice bo bl bc) ([n % 256] ++ (C.take e).flatten) wr)) (fun _ iv _ => 67 - (intOf iv).toNat)
      case atStart => exact ⟨0, _, _, _, rfl, rfl, Lib.hid (Nat.zero_le _), Lib.hid (by rw [List.take_zero, List.flatten_nil, List.append_nil]; exact HA2.out.1), Lib.hid (by rw [List.take_zero, List.flatten_nil, List.append_nil]; exact HA2.out.2)⟩
      case round =>
        obtain ⟨e, bo, bl, bc, rfl, rfl, HE, HBL, HRB⟩ := hrel
        have hen := HE.out
        by_cases hlt : e < 67
        · have hltz : (e : Int) < (67 : Int) := by omega
          have he0 : (0 : Int) ≤ (e : Int) := by omega
          have hw1 : IntKind.i64.wrap ((e : Int) + 1) = ((e + 1 : Nat) : Int) := by have := HC.out.2.1; rw [IntKind.wrap_i64]; push_cast; omega
          have hel : e < C.length := by rw [HC.out.1]; exact hlt
          obtain ⟨ag, ago, hav, hca⟩ := SlD.spots HSC.out hel
          have hca2 := rangeW_below hca HRB.out.bel
          subst hav
          have htk : (C.take (e + 1)).flatten = (C.take e).flatten ++ C[e] := by rw [List.take_add_one, List.getElem?_eq_getElem hel, List.flatten_append]; simp
          have hxD := HC.out.2.2 _ (List.getElem_mem hel)
          generalize C[e] = x at hca hca2 htk hxD
          have HXD := Lib.hid hxD
          have HXI := Lib.hid (infoD hxD)
          have HXL := Lib.hid (lenD hxD isD_zer)
          have HTK := Lib.hid htk
          have HCA := Lib.hid hca2
          clear hca hca2 hxD htk hel
          obtain ⟨Y, hY⟩ : ∃ Y, [n % 256] ++ (C.take e).flatten = Y := ⟨_, rfl⟩
          have HBG := Lib.hid (HBC.out e)
          rw [hY] at HBL HRB HBG
          have HY := Lib.hid hY
          clear hY
          go_wp2_with (first
    | (with_reducible refine wpList_load_any rfl 23 (.tmp 41) rfl ag (ago + e * 32) rfl (ofK .u8 x) _ HCA.out Try.underlying23 rfl HXI.out ?_)
    | ((with_reducible refine wpList_alloc_blk wr rfl 23 rfl (ofK .u8 zer32) Try.zeroId ?_); intro w4 hb hbel hsz; have HB4 := Lib.hid (And.intro hb (HRB.out.below hbel)); clear hb hbel hsz)
    | ((with_reducible refine wpList_store_blk w4 rfl 23 (.tmp 8) (.tmp 42) rfl wr.heap.size 23 (ofK .u8 zer32) (ofK .u8 x) HB4.out.1 rfl rfl HXL.out HXI.out (one_ofK _ _) ?_); intro w5 hb hc hs; have HB5 := Lib.hid (And.intro hb (HB4.out.2.ch hc (HRB.out.size)  (fun k hk => by have := HRB.out.lt hk; omega))); clear hb hc hs)
    | (at_builtin; refine wpList_append_xs (.tmp 43) (.tmp 44) rfl rfl HB5.out.2 rfl rfl HB5.out.1 HXD.out HBG.out ?_))
          intro ao2 c2 w6 hrow
          have H6 := Lib.hid hrow
          clear hrow
          go_wp2_with fail
          go_roundw
          case rel => exact ⟨e + 1, ao2, _, c2, rfl, by go_num, Lib.hid (by omega), Lib.hid (by rw [HTK.out, ← List.append_assoc, HY.out, List.length_append, HXD.out.1]), Lib.hid (by rw [HTK.out, ← List.append_assoc, HY.out]; exact H6.out)⟩
          case measure => simp [intOf]; omega
        · have hge : ¬ (e : Int) < (67 : Int) := by omega
          have hee : e = 67 := by omega
          have HA3 := Lib.hid (show bl = ([n % 256] ++ C.flatten).length ∧ RowB w1 (.slice bo bl bc) ([n % 256] ++ C.flatten) wr from by have h1 := HBL.out; have h2 := HRB.out; rw [List.take_of_length_le (by rw [HC.out.1]; omega)] at h1 h2; exact ⟨h1, h2⟩)
          clear HBL HRB HE hen hee hlt
          go_wp2_with fail
          go_roundw
          case rel => exact ⟨1, bo, _, bc, rfl, by go_num, Lib.hid (by omega), HA3⟩
          case measure => simp [intOf]

    · go_wp2_with (refine wpList_index wr rfl 148 (.tmp 33) (.tmp 34) rfl _ _ _ rfl rfl (Try.pick1 _ _ _ _ _ _ wr) ?_)
      have HA2 := Lib.hid (show bl = ([n % 256] ++ C.flatten).length ∧ RowB w1 (.slice bo bl bc) ([n % 256] ++ C.flatten) wr from HA1.out)
      clear HA1
      go_loopw [4, 39] (fun bv iv wr => ∃ (e : Nat) (bo : Option Addr) (bl bc : Nat), bv = .slice bo bl bc ∧ iv = .int .i64 e ∧ Hid (e ≤ 3) ∧ Hid (bl = ([n % 256] ++ C.flatten ++ (P.take e).flatten).length) ∧ Hid (RowB w1 (.slice bo bl bc) ([n % 256] ++ C.flatten ++ (P.take e).flatten) wr)) (fun _ iv _ => 3 - (intOf iv).toNat)
      case atStart => exact ⟨0, _, _, _, rfl, rfl, Lib.hid (Nat.zero_le _), Lib.hid (by rw [List.take_zero, List.flatten_nil, List.append_nil]; exact HA2.out.1), Lib.hid (by rw [List.take_zero, List.flatten_nil, List.append_nil]; exact HA2.out.2)⟩
      case round =>
        obtain ⟨e, bo, bl, bc, rfl, rfl, HE, HBL, HRB⟩ := hrel
        have hen := HE.out
        by_cases hlt : e < 3
        · have hltz : (e : Int) < (3 : Int) := by omega
          have he0 : (0 : Int) ≤ (e : Int) := by omega
          have hw1 : IntKind.i64.wrap ((e : Int) + 1) = ((e + 1 : Nat) : Int) := by have := HP.out.2.1; rw [IntKind.wrap_i64]; push_cast; omega
          have hel : e < P.length := by rw [HP.out.1]; exact hlt
          obtain ⟨ag, ago, hav, hca⟩ := SlD.spots HSP.out hel
          have hca2 := rangeW_below hca HRB.out.bel
          subst hav
          have htk : (P.take (e + 1)).flatten = (P.take e).flatten ++ P[e] := by rw [List.take_add_one, List.getElem?_eq_getElem hel, List.flatten_append]; simp
          have hxD := HP.out.2.2 _ (List.getElem_mem hel)
          generalize P[e] = x at hca hca2 htk hxD
          have HXD := Lib.hid hxD
          have HXI := Lib.hid (infoD hxD)
          have HXL := Lib.hid (lenD hxD isD_zer)
          have HTK := Lib.hid htk
          have HCA := Lib.hid hca2
          clear hca hca2 hxD htk hel
          obtain ⟨Y, hY⟩ : ∃ Y, [n % 256] ++ C.flatten ++ (P.take e).flatten = Y := ⟨_, rfl⟩
          have HBG := Lib.hid (HBP.out e)
          rw [hY] at HBL HRB HBG
          have HY := Lib.hid hY
          clear hY
          go_wp2_with (first
    | (with_reducible refine wpList_load_any rfl 23 (.tmp 41) rfl ag (ago + e * 32) rfl (ofK .u8 x) _ HCA.out Try.underlying23 rfl HXI.out ?_)
    | ((with_reducible refine wpList_alloc_blk wr rfl 23 rfl (ofK .u8 zer32) Try.zeroId ?_); intro w4 hb hbel hsz; have HB4 := Lib.hid (And.intro hb (HRB.out.below hbel)); clear hb hbel hsz)
    | ((with_reducible refine wpList_store_blk w4 rfl 23 (.tmp 8) (.tmp 42) rfl wr.heap.size 23 (ofK .u8 zer32) (ofK .u8 x) HB4.out.1 rfl rfl HXL.out HXI.out (one_ofK _ _) ?_); intro w5 hb hc hs; have HB5 := Lib.hid (And.intro hb (HB4.out.2.ch hc (HRB.out.size)  (fun k hk => by have := HRB.out.lt hk; omega))); clear hb hc hs)
    | (at_builtin; refine wpList_append_xs (.tmp 43) (.tmp 44) rfl rfl HB5.out.2 rfl rfl HB5.out.1 HXD.out HBG.out ?_))
          intro ao2 c2 w6 hrow
          have H6 := Lib.hid hrow
          clear hrow
          go_wp2_with fail
          go_roundw
          case rel => exact ⟨e + 1, ao2, _, c2, rfl, by go_num, Lib.hid (by omega), Lib.hid (by rw [HTK.out, ← List.append_assoc, HY.out, List.length_append, HXD.out.1]), Lib.hid (by rw [HTK.out, ← List.append_assoc, HY.out]; exact H6.out)⟩
          case measure => simp [intOf]; omega
        · have hge : ¬ (e : Int) < (3 : Int) := by omega
          have hee : e = 3 := by omega
          have HA3 := Lib.hid (show bl = ([n % 256] ++ C.flatten ++ P.flatten).length ∧ RowB w1 (.slice bo bl bc) ([n % 256] ++ C.flatten ++ P.flatten) wr from by have h1 := HBL.out; have h2 := HRB.out; rw [List.take_of_length_le (by rw [HP.out.1]; omega)] at h1 h2; exact ⟨h1, h2⟩)
          clear HBL HRB HE hen hee hlt
          go_wp2_with fail
          go_roundw
          case rel => exact ⟨2, bo, _, bc, rfl, by go_num, Lib.hid (by omega), HA3⟩
          case measure => simp [intOf]

    · go_wp2_with fail
      refine bodyPost_ret (results_tmp2 Try.results83 _ _ _) rfl ?_
      exact ⟨_, rfl, (by exact ownsRow_base HA1.out.2.row HB1.out.2.1.size), below_thn HB1.out.2.1 HA1.out.2.bel (Nat.le_refl _)⟩

set_option maxRecDepth 100000 in
set_option maxHeartbeats 2000000 in
theorem encode8_bad (n : Int) (co po : Option Addr) (cl cc pl pc : Nat) (w : World) (h : ¬ ((0 ≤ n ∧ n < 8) ∧ cl = 67 ∧ pl = 3)) :
    Calls Try.prog 83 #[.agg (sgC n (.slice co cl cc) (.slice po pl pc)).toArray] w (fun e w' => e = .returned (.tuple #[.slice none 0 0, .int .i64 2]) ∧ Below w.heap.size w w') := by
  by_cases hn : 0 ≤ n ∧ n < 8
  · by_cases hc : cl = 67
    · have hp : ((pl : Int) == 3) = false := by simp; omega
      subst hc
      have HN := Lib.hid hn
      clear h hn
      go_enter Try.func83, Try.ntmps83
      go_wp2_with ((with_reducible refine wpList_box_blk w rfl 90 (.tmp 0) rfl (sgC n (.slice co 67 cc) (.slice po pl pc)) rfl ?_); intro w1 hb hbel hsz; have c0 := hb.cell 0; have c1 := hb.cell 1; have c2 := hb.cell 2; simp only [sgC, List.getElem?_cons_zero, List.getElem?_cons_succ] at c0 c1 c2; have H1 := Lib.hid hbel; clear hb hbel hsz)
      refine (leafed_ok n w1 HN.out.1 HN.out.2).mono ?_
      rintro e wz ⟨rfl, rfl⟩
      go_wp2_with fail
      refine bodyPost_ret (results_tmp2 Try.results83 _ _ _) rfl ?_
      exact ⟨rfl, H1.out⟩
    · have hcz : ((cl : Int) == 67) = false := by simp; omega
      have HN := Lib.hid hn
      clear h hn hc
      go_enter Try.func83, Try.ntmps83
      go_wp2_with ((with_reducible refine wpList_box_blk w rfl 90 (.tmp 0) rfl (sgC n (.slice co cl cc) (.slice po pl pc)) rfl ?_); intro w1 hb hbel hsz; have c0 := hb.cell 0; have c1 := hb.cell 1; have c2 := hb.cell 2; simp only [sgC, List.getElem?_cons_zero, List.getElem?_cons_succ] at c0 c1 c2; have H1 := Lib.hid hbel; clear hb hbel hsz)
      refine (leafed_ok n w1 HN.out.1 HN.out.2).mono ?_
      rintro e wz ⟨rfl, rfl⟩
      go_wp2_with fail
      refine bodyPost_ret (results_tmp2 Try.results83 _ _ _) rfl ?_
      exact ⟨rfl, H1.out⟩
  · have HN := Lib.hid hn
    clear h hn
    go_enter Try.func83, Try.ntmps83
    go_wp2_with ((with_reducible refine wpList_box_blk w rfl 90 (.tmp 0) rfl (sgC n (.slice co cl cc) (.slice po pl pc)) rfl ?_); intro w1 hb hbel hsz; have c0 := hb.cell 0; have c1 := hb.cell 1; have c2 := hb.cell 2; simp only [sgC, List.getElem?_cons_zero, List.getElem?_cons_succ] at c0 c1 c2; have H1 := Lib.hid hbel; clear hb hbel hsz)
    refine (leafed_bad n w1 HN.out).mono ?_
    rintro e wz ⟨rfl, rfl⟩
    go_wp2_with fail
    refine bodyPost_ret (results_tmp2 Try.results83 _ _ _) rfl ?_
    exact ⟨rfl, H1.out⟩

end Go.Proofs.Ytkbhehnpgnilmaa

namespace Go.Proofs.Ytkbhehnpgnilmaa
open Go Go.RowKit
set_option linter.unusedSimpArgs false

/-- a digest of the bytes of a signature -/
def chunkF (bs : List Int) (e : Nat) : List Int := (bs.drop (1 + e * 32)).take 32
theorem chunk_D {bs : List Int} (hA : AllB bs) (hl : bs.length = 2241) {e : Nat} (he : e < 70) : IsD (chunkF bs e) := by
  refine ⟨?_, fun c hc => hA c (List.mem_of_mem_drop (List.mem_of_mem_take hc))⟩
  unfold chunkF
  rw [List.length_take, List.length_drop]
  omega
theorem chunks_flat (bs : List Int) : ∀ k, (rowL (chunkF bs) k).flatten = (bs.drop 1).take (32 * k)
  | 0 => by simp [rowL]
  | k + 1 => by
    rw [rowL_succ, List.flatten_append, chunks_flat bs k, show 32 * (k + 1) = 32 * k + 32 by omega, List.take_add, List.drop_drop]
    simp only [List.flatten_cons, List.flatten_nil, List.append_nil, chunkF]
    rw [Nat.mul_comm k 32]
theorem rowL_drop (g : Nat → List Int) (n k : Nat) (h : k ≤ n) : (rowL g k) ++ (rowL g n).drop k = rowL g n := by
  have : rowL g k = (rowL g n).take k := by unfold rowL; rw [← List.map_take, List.take_range, Nat.min_eq_left h]
  rw [this, List.take_append_drop]
theorem bytes_back {bs : List Int} (hl : bs.length = 2241) {c : Int} (hc : bs[0]? = some c) (h0 : 0 ≤ c) (h8 : c < 8) : bytesM c (rowL (chunkF bs) 67) ((rowL (chunkF bs) 70).drop 67) = bs := by
  unfold bytesM
  rw [List.append_assoc, ← List.flatten_append, rowL_drop _ 70 67 (by omega), chunks_flat, List.take_of_length_le (by rw [List.length_drop]; omega)]
  match bs, hc with
  | b :: bs, hc =>
    simp only [List.getElem?_cons_zero, Option.some.injEq] at hc
    subst hc
    rw [show b % 256 = b by omega]; rfl

theorem SlD.dropk {w : World} {g o n c : Nat} {l : List (List Int)} (h : SlD w (.slice (some ⟨g, o, none⟩) n c) l) (k : Nat) (hn : k ≤ n) : SlD w (.slice (some ⟨g, o + k * 32, none⟩) (n - k) (c - k)) (l.drop k) := by
  obtain ⟨ao', c', e, h2, h3, h4⟩ := h
  simp only [Value.slice.injEq] at e
  obtain ⟨rfl, rfl, rfl⟩ := e
  refine ⟨some ⟨g, o + k * 32, none⟩, c - k, by rw [List.length_drop], by rw [List.length_drop]; omega, by omega, fun h0 => ⟨g, o + k * 32, rfl, fun j hj => ?_⟩⟩
  rw [List.length_drop] at hj
  obtain ⟨g', o', h5, h6⟩ := h4 (by omega)
  simp only [Option.some.injEq, Addr.mk.injEq, and_true] at h5
  obtain ⟨rfl, rfl⟩ := h5
  have := h6 (k + j) (by omega)
  rw [List.getElem_drop, show o + k * 32 + j * 32 = o + (k + j) * 32 by rw [Nat.add_mul]; omega]
  exact this
theorem SlD.cap {w : World} {ao : Option Addr} {n c c2 : Nat} {l : List (List Int)} (h : SlD w (.slice ao n c) l) (h1 : n ≤ c2) (h2 : c2 ≤ 9223372036854775807) : SlD w (.slice ao n c2) l := by
  obtain ⟨ao', c', e, h3, h4, h5⟩ := h
  simp only [Value.slice.injEq] at e
  obtain ⟨rfl, rfl, rfl⟩ := e
  exact ⟨ao, c2, rfl, h1, h2, h5⟩

theorem SlD.chg {w w' : World} {S : Nat → Prop} {g o n c : Nat} {l : List (List Int)} (h : SlD w (.slice (some ⟨g, o, none⟩) n c) l) (hc : Ch S w w') (hn : ¬ S g) : SlD w' (.slice (some ⟨g, o, none⟩) n c) l := by
  obtain ⟨ao', c', e, h2, h3, h4⟩ := h
  refine ⟨ao', c', e, h2, h3, fun h0 => ?_⟩
  obtain ⟨g', o', h5, h6⟩ := h4 h0
  subst h5
  simp only [Value.slice.injEq, Option.some.injEq, Addr.mk.injEq] at e
  refine ⟨g', o', rfl, fun k hk => rangeW_ch (h6 k hk) hc (by rw [← e.1.1]; exact hn)⟩
theorem rowL_take (g : Nat → List Int) (n k : Nat) (h : k ≤ n) : (rowL g n).take k = rowL g k := by
  unfold rowL; rw [← List.map_take, List.take_range, Nat.min_eq_left h]

theorem Try.buildSg : ∀ w, (Instr.build 90 #[]).run Try.prog w = .ok (.agg (sgC 0 (.slice none 0 0) (.slice none 0 0)).toArray) w := fun w => by kernel_rfl
theorem wpList_build_zeroSg {ops : Array Oper} {rest : List Oper} {o : Oper} {a : Act} {w : World} {Q : Exit → Act → World → Prop} (hgd : o.guard = none) (ho : o.op = .build 90 #[])
    (h : wpList Try.prog ops Q rest (a.put o.dst (.agg (sgC 0 (.slice none 0 0) (.slice none 0 0)).toArray)) w) : wpList Try.prog ops Q (o :: rest) a w := by
  refine wpList_plain hgd fun K hK => ?_
  have hrun : (execOp a.eval o).run Try.prog w = .ok (.value (.agg (sgC 0 (.slice none 0 0) (.slice none 0 0)).toArray)) w := by
    unfold execOp
    simp [ho, Try.buildSg, Result.andThen]
  unfold Oper.wp
  rw [hrun]
  exact hK _ _ h

theorem wpList_arr {ops : Array Oper} {rest : List Oper} {o : Oper} {a : Act} {w : World} {Q : Exit → Act → World → Prop} (hgd : o.guard = none) (x : Operand) (ho : o.op = .sliceToArrayPointer 23 x) (p : Addr) (c : Nat) (hx : a.eval x = .slice (some p) 32 c)
    (h : wpList Try.prog ops Q rest (a.put o.dst (.pointer (some p))) w) : wpList Try.prog ops Q (o :: rest) a w := by
  refine wpList_plain hgd fun K hK => ?_
  have e : (Instr.arrayAt 23 (.slice (some p) 32 c)).run Try.prog w = .ok (.pointer (some p)) w := by
    simp [Instr.arrayAt, run_underlying Try.underlying23]
  have hrun : (execOp a.eval o).run Try.prog w = .ok (.value (.pointer (some p))) w := by
    unfold execOp
    simp [ho, hx, e, Result.andThen]
  unfold Oper.wp
  rw [hrun]
  exact hK _ _ h

set_option maxRecDepth 100000 in
set_option maxHeartbeats 2000000 in
theorem decode8_short (vb : Value) (bs : List Int) (w : World) (hv : Sl w vb (ofK .u8 bs)) (hl : bs.length < 2241) :
    Calls Try.prog 86 #[vb] w (fun e w' => e = .returned (.tuple #[.agg (sgC 0 (.slice none 0 0) (.slice none 0 0)).toArray, .int .i64 7]) ∧ Below w.heap.size w w') := by
  obtain ⟨ao, c, rfl, -, -, -⟩ := hv.shape
  rw [length_ofK]
  have hlz : (bs.length : Int) < 2241 := by omega
  generalize bs.length = nb at hlz
  clear hv hl
  go_enter Try.func86, Try.ntmps86
  go_wp2_with (first
    | ((with_reducible refine wpList_alloc_blk w rfl 90 rfl (sgC 0 (.slice none 0 0) (.slice none 0 0)) Try.zeroSg ?_); intro w1 hb hbel hsz; have H1 := Lib.hid (And.intro hb (And.intro hbel hsz)); clear hb hbel hsz)
    | ((with_reducible refine wpList_build_zeroSg rfl rfl ?_))
    | ((with_reducible refine wpList_store_blk w1 rfl 90 (.tmp 2) (.tmp 11) rfl w.heap.size 90 (sgC 0 (.slice none 0 0) (.slice none 0 0)) (sgC 0 (.slice none 0 0) (.slice none 0 0)) H1.out.1 rfl rfl rfl (sgC_info _ _ _) (sgC_one _ _ _ _ _ _ _) ?_); intro w2 hb hc hs; have H2 := Lib.hid (And.intro hb (below_ch H1.out.2.1 hc (Nat.le_refl _) (fun k hk => by have : k = w.heap.size := hk; omega))); clear hb hc hs))
  refine bodyPost_ret (results_cellTmp Try.results86 _ _ w.heap.size _ _ rfl H2.out.1 _ Try.underlying90 rfl (sgC_info _ _ _) _ rfl) rfl ⟨rfl, H2.out.2⟩

set_option maxRecDepth 100000 in
set_option maxHeartbeats 2000000 in
theorem decode8_long (vb : Value) (bs : List Int) (w : World) (hv : Sl w vb (ofK .u8 bs)) (hl : 2241 < bs.length) :
    Calls Try.prog 86 #[vb] w (fun e w' => e = .returned (.tuple #[.agg (sgC 0 (.slice none 0 0) (.slice none 0 0)).toArray, .int .i64 2]) ∧ Below w.heap.size w w') := by
  obtain ⟨ao, c, rfl, -, -, -⟩ := hv.shape
  rw [length_ofK]
  have hlz : ¬ (bs.length : Int) < 2241 := by omega
  have hlz2 : (2241 : Int) < (bs.length : Int) := by omega
  generalize bs.length = nb at hlz hlz2
  clear hv hl
  go_enter Try.func86, Try.ntmps86
  go_wp2_with (first
    | ((with_reducible refine wpList_alloc_blk w rfl 90 rfl (sgC 0 (.slice none 0 0) (.slice none 0 0)) Try.zeroSg ?_); intro w1 hb hbel hsz; have H1 := Lib.hid (And.intro hb (And.intro hbel hsz)); clear hb hbel hsz)
    | ((with_reducible refine wpList_build_zeroSg rfl rfl ?_))
    | ((with_reducible refine wpList_store_blk w1 rfl 90 (.tmp 2) (.tmp 24) rfl w.heap.size 90 (sgC 0 (.slice none 0 0) (.slice none 0 0)) (sgC 0 (.slice none 0 0) (.slice none 0 0)) H1.out.1 rfl rfl rfl (sgC_info _ _ _) (sgC_one _ _ _ _ _ _ _) ?_); intro w2 hb hc hs; have H2 := Lib.hid (And.intro hb (below_ch H1.out.2.1 hc (Nat.le_refl _) (fun k hk => by have : k = w.heap.size := hk; omega))); clear hb hc hs))
  refine bodyPost_ret (results_cellTmp Try.results86 _ _ w.heap.size _ _ rfl H2.out.1 _ Try.underlying90 rfl (sgC_info _ _ _) _ rfl) rfl ⟨rfl, H2.out.2⟩

set_option maxRecDepth 100000 in
set_option maxHeartbeats 2000000 in
theorem decode8_leaf (vb : Value) (bs : List Int) (w : World) (hv : Sl w vb (ofK .u8 bs)) (hA : AllB bs) (hl : bs.length = 2241) (c0 : Int) (hc0 : bs[0]? = some c0) (h8 : ¬ (0 ≤ c0 ∧ c0 < 8)) :
    Calls Try.prog 86 #[vb] w (fun e w' => e = .returned (.tuple #[.agg (sgC 0 (.slice none 0 0) (.slice none 0 0)).toArray, .int .i64 2]) ∧ Below w.heap.size w w') := by
  obtain ⟨ao, c, rfl, -, -, hcell⟩ := hv.shape
  obtain ⟨bg, bo, rfl, hbg, hat⟩ := hcell (by rw [length_ofK]; omega)
  have hx0 : w.cell? ⟨bg, bo, none⟩ = some (.int .u8 c0) := by
    have := hat 0 (.int .u8 c0) (by unfold ofK; rw [List.getElem?_map, hc0]; rfl)
    exact this
  rw [length_ofK, hl]
  have hb0 := hA c0 (List.mem_of_getElem? hc0)
  have hw0 : IntKind.i64.wrap c0 = c0 := by rw [IntKind.wrap_i64]; omega
  have HX := Lib.hid hx0
  have H8 := Lib.hid h8
  clear hv hl hcell hat hbg hc0 h8 hx0 hA hb0
  go_enter Try.func86, Try.ntmps86
  go_wp2_with (first
    | ((with_reducible refine wpList_alloc_blk w rfl 90 rfl (sgC 0 (.slice none 0 0) (.slice none 0 0)) Try.zeroSg ?_); intro w1 hb hbel hsz; have H1 := Lib.hid (And.intro hb (And.intro hbel hsz)); have k0 := (hbel.cell (p := ⟨bg, bo, none⟩) (block_of_cell HX.out)).trans HX.out; clear hb hbel hsz)
    | ((with_reducible refine wpList_build_zeroSg rfl rfl ?_))
    | ((with_reducible refine wpList_store_blk w1 rfl 90 (.tmp 2) (.tmp 24) rfl w.heap.size 90 (sgC 0 (.slice none 0 0) (.slice none 0 0)) (sgC 0 (.slice none 0 0) (.slice none 0 0)) H1.out.1 rfl rfl rfl (sgC_info _ _ _) (sgC_one _ _ _ _ _ _ _) ?_); intro w2 hb hc hs; have H2 := Lib.hid (And.intro hb (below_ch H1.out.2.1 hc (Nat.le_refl _) (fun k hk => by have : k = w.heap.size := hk; omega))); clear hb hc hs))
  refine (leafed_bad c0 w1 H8.out).mono ?_
  rintro e wz ⟨rfl, rfl⟩
  go_wp2_with (first
    | ((with_reducible refine wpList_build_zeroSg rfl rfl ?_))
    | ((with_reducible refine wpList_store_blk w1 rfl 90 (.tmp 2) (.tmp 24) rfl w.heap.size 90 (sgC 0 (.slice none 0 0) (.slice none 0 0)) (sgC 0 (.slice none 0 0) (.slice none 0 0)) H1.out.1 rfl rfl rfl (sgC_info _ _ _) (sgC_one _ _ _ _ _ _ _) ?_); intro w2 hb hc hs; have H2 := Lib.hid (And.intro hb (below_ch H1.out.2.1 hc (Nat.le_refl _) (fun k hk => by have : k = w.heap.size := hk; omega))); clear hb hc hs))
  refine bodyPost_ret (results_cellTmp Try.results86 _ _ w.heap.size _ _ rfl H2.out.1 _ Try.underlying90 rfl (sgC_info _ _ _) _ rfl) rfl ⟨rfl, H2.out.2⟩

set_option maxRecDepth 100000 in
set_option maxHeartbeats 4000000 in
theorem decode8_ok (vb : Value) (bs : List Int) (w : World) (hv : Sl w vb (ofK .u8 bs)) (hA : AllB bs) (hl : bs.length = 2241) (c0 : Int) (hc0 : bs[0]? = some c0) (h0 : 0 ≤ c0) (h8 : c0 < 8) :
    Calls Try.prog 86 #[vb] w (fun e w' => ∃ so sc po pc, e = .returned (.tuple #[.agg (sgC c0 (.slice so 67 sc) (.slice po 3 pc)).toArray, .int .i64 0]) ∧ SlD w' (.slice so 67 sc) (rowL (chunkF bs) 67) ∧ SlD w' (.slice po 3 pc) ((rowL (chunkF bs) 70).drop 67) ∧ Below w.heap.size w w') := by
  obtain ⟨ao, c, rfl, hcap, hcm, hcell⟩ := hv.shape
  obtain ⟨bg, bo, rfl, hbg, hat⟩ := hcell (by rw [length_ofK]; omega)
  have hx0 : w.cell? ⟨bg, bo, none⟩ = some (.int .u8 c0) := by
    have := hat 0 (.int .u8 c0) (by unfold ofK; rw [List.getElem?_map, hc0]; rfl)
    exact this
  have HCH := Lib.hid (show ∀ e, e < 70 → w.rangeAt bg (bo + 1 + e * 32) (ofK .u8 (chunkF bs e)) from fun e he j v hj => by
    have hj32 : j < 32 := by have := (List.getElem?_eq_some_iff.1 hj).1; rwa [length_ofK, (chunk_D hA hl he).1] at this
    have := hat (1 + e * 32 + j) v (by
      unfold ofK chunkF at *
      rw [List.getElem?_map] at hj ⊢
      rw [List.getElem?_take, if_pos hj32, List.getElem?_drop] at hj
      exact hj)
    rw [show bo + (1 + e * 32 + j) = bo + 1 + e * 32 + j by omega] at this
    exact this)
  have HCD := Lib.hid (show ∀ e, e < 70 → IsD (chunkF bs e) from fun e he => chunk_D hA hl he)
  rw [length_ofK, hl] at hcap ⊢
  have hw0 : IntKind.i64.wrap c0 = c0 := by rw [IntKind.wrap_i64]; omega
  have HX := Lib.hid hx0
  have H8 := Lib.hid (And.intro h0 h8)
  have hcm2 : c ≤ 9223372036854775807 := by unfold maxLen at hcm; omega
  clear hv hl hcell hat hbg hc0 h8 hx0 hA hcm h0
  go_enter Try.func86, Try.ntmps86
  go_wp2_with (first
    | ((with_reducible refine wpList_alloc_blk w rfl 90 rfl (sgC 0 (.slice none 0 0) (.slice none 0 0)) Try.zeroSg ?_); intro w1 hb hbel hsz; have H1 := Lib.hid (And.intro hb (And.intro hbel hsz)); have k0 := (hbel.cell (p := ⟨bg, bo, none⟩) (block_of_cell HX.out)).trans HX.out; clear hb hbel hsz))
  refine (leafed_ok c0 w1 H8.out.1 H8.out.2).mono ?_
  rintro e wz ⟨rfl, rfl⟩
  clear k0
  go_wp2_with fail
  go_loopw [4, 5] (fun av rv wr => ∃ (e q o2 c2 : Nat) (no : Option Addr) (nc : Nat), av = .slice no e nc ∧ rv = .slice (some ⟨bg, o2, none⟩) q c2 ∧ Hid (q + e * 32 = 2240 ∧ q ≤ c2 ∧ c2 ≤ 9223372036854775807) ∧ Hid (0 < q → o2 = bo + 1 + e * 32) ∧ Hid (RowI w1 (.slice no e nc) (rowL (chunkF bs) e) wr)) (fun _ rv _ => lenOf rv)
  case atStart => exact ⟨0, _, _, _, none, 0, rfl, rfl, Lib.hid ⟨by omega, by omega, by omega⟩, Lib.hid (fun _ => by omega), Lib.hid (RowI.nil w1)⟩
  case round =>
    obtain ⟨e, q, o2, c2, no, nc, rfl, rfl, HQ, HO, HR⟩ := hrel
    have hq := HQ.out.2.1
    have hc2 := HQ.out.2.2
    by_cases hlt : 0 < q
    · have hqe := HQ.out.1
      have he70 : e < 70 := by omega
      have hq32 : 32 ≤ q := by omega
      have ho2 := HO.out hlt
      subst ho2
      have hltz : (0 : Int) < (q : Int) := by omega
      have hqz : (32 : Int) ≤ (q : Int) := by omega
      have hcz : (32 : Int) ≤ (c2 : Int) := by omega
      have hxD := HCD.out e he70
      have hxr := rangeW_below (rangeW_below (HCH.out e he70) H1.out.2.1) HR.out.bel
      have hrow : rowL (chunkF bs) (e + 1) = rowL (chunkF bs) e ++ [chunkF bs e] := rowL_succ _ _
      have hlen : (rowL (chunkF bs) e).length = e := rowL_length _ _
      generalize chunkF bs e = x at hxD hxr hrow
      have HXD := Lib.hid hxD
      have HXI := Lib.hid (infoD hxD)
      have HX32 := Lib.hid (show (ofK .u8 x).length = 32 by rw [length_ofK, hxD.1])
      have HXR := Lib.hid hxr
      have HROW := Lib.hid (And.intro hrow hlen)
      clear hxD hxr hrow hlen hqe
      go_wp2_with (first
    | (with_reducible refine wpList_arr rfl (.tmp 34) rfl ⟨bg, bo + 1 + e * 32, none⟩ c2 rfl ?_)
    | (with_reducible refine wpList_load_any rfl 23 (.tmp 35) rfl bg (bo + 1 + e * 32) rfl (ofK .u8 x) _ HXR.out Try.underlying23 rfl HXI.out ?_)
    | (refine wpList_slice_one wr rfl 54 (.tmp 36) rfl Try.underlying54 Try.sizeId Try.zeroId Try.id1 Try.id2 (ofK .u8 x) HX32.out rfl ?_; intro w4 hb hbel hsz; have H4 := Lib.hid (And.intro hb (HR.out.below hbel)); clear hb hbel hsz)
    | (at_builtin; refine wpList_append_id w4 rfl (.tmp 32) (.tmp 37) rfl w1.heap.size (.slice no e nc) e (rowL (chunkF bs) e) rfl (by have := H4.out.2.row; rwa [HROW.out.2] at this) wr.heap.size x rfl H4.out.1 HXD.out (by omega) H4.out.2.bel.size ?_))
      intro no2 nc2 w5 hown hgr _
      have H5 := Lib.hid (show RowI w1 (.slice no2 (e + 1) nc2) (rowL (chunkF bs) (e + 1)) w5 from by rw [HROW.out.1]; exact H4.out.2.appended (by rw [HROW.out.2]; simpa using hown) hgr)
      clear hown hgr
      by_cases hc : c2 = 32
      · subst hc
        obtain rfl : q = 32 := by omega
        go_wp2_with fail
        go_roundw
        case rel => exact ⟨e + 1, 0, _, 0, no2, nc2, rfl, rfl, Lib.hid ⟨by have := HQ.out.1; omega, by omega, by omega⟩, Lib.hid (fun h => by omega), H5⟩
        case measure => simp [lenOf]
      · go_wp2_with fail
        go_roundw
        case rel => exact ⟨e + 1, q - 32, _, c2 - 32, no2, nc2, rfl, by go_num, Lib.hid ⟨by have := HQ.out.1; omega, by omega, by omega⟩, Lib.hid (fun h => by omega), H5⟩
        case measure => simp [lenOf]; omega
    · have hge : ¬ (0 : Int) < (q : Int) := by omega
      have he : e = 70 := by have := HQ.out.1; omega
      subst he
      have hrow := HR.out.row
      rw [rowL_length] at hrow
      have HSD := Lib.hid (SlD.of_owns hrow (rowL_length _ _).symm (rowL_D HCD.out))
      obtain ⟨no', nc', e1, hn1, hn2, hn3⟩ := HSD.out
      rw [rowL_length] at e1 hn1
      simp only [Value.slice.injEq] at e1
      obtain ⟨rfl, -, rfl⟩ := e1
      obtain ⟨ng, ng0, rfl, -⟩ := hn3 (by rw [rowL_length]; omega)
      have HNG := Lib.hid (show w.heap.size < ng from by have h1 := (HR.out.row.lt ng rfl).1; have h2 := H1.out.2.2; omega)
      have hb0 := (H1.out.2.1.cell (p := ⟨bg, bo, none⟩) (block_of_cell HX.out)).trans HX.out
      have HB0 := Lib.hid ((HR.out.bel.cell (p := ⟨bg, bo, none⟩) (block_of_cell hb0)).trans hb0)
      have HZS := Lib.hid (show Blk wr w.heap.size 90 (sgC 0 (.slice none 0 0) (.slice none 0 0)) ∧ Below w.heap.size w wr from ⟨H1.out.1.below HR.out.bel H1.out.1.lt, below_thn H1.out.2.1 HR.out.bel (Nat.le_refl _)⟩)
      have hnz : (70 : Int) ≤ (nc : Int) := by omega
      have hnz7 : (67 : Int) ≤ (nc : Int) := by omega
      have hne7 : ¬ nc = 67 := by omega
      clear hrow hn3 hb0 hlt hq hc2 HQ HO
      go_wp2_with fail
      refine wp_region_takes (fun w' => w'.cell? ⟨bg, bo, none⟩ = some (.int .u8 c0)) [0, 1, 2, 3, 4, 5, 6, 7, 8, 9, 10, 11] 2 (by kernel_rfl) rfl (by kernel_rfl) (by kernel_rfl) (by exact HB0.out) ?_
      have HZ0 := Lib.hid (show Blk wr.drew w.heap.size 90 (sgC 0 (.slice none 0 0) (.slice none 0 0)) ∧ SlD wr.drew (.slice (some ⟨ng, ng0, none⟩) 70 nc) (rowL (chunkF bs) 70) ∧ Below w.heap.size w wr.drew ∧ wr.drew.cell? ⟨bg, bo, none⟩ = some (.int .u8 c0) ∧ bg < w.heap.size from ⟨HZS.out.1.below (Below.refl _ wr).drew HZS.out.1.lt, HSD.out.below (Below.refl _ wr).drew, below_thn HZS.out.2 (Below.refl _ wr).drew (Nat.le_refl _), HB0.out, block_of_cell HX.out⟩)
      generalize wr.drew = v0 at HZ0 ⊢
      iterate 12 (refine' HeldL.run ?_ ?_ ?_ ?_; rotate_left 2; (simp only [List.getElem?_toArray, List.getElem?_cons_zero, List.getElem?_cons_succ]; rfl); rfl; (rintro w' k0; go_simp; with_reducible rfl); simp only [Act.put, List.setIfInBounds_toArray, List.set_cons_zero, List.set_cons_succ])
      refine' wpAnyH_one 12 (by kernel_rfl) ?_ ?_; rotate_left; (simp only [List.getElem?_toArray, List.getElem?_cons_zero, List.getElem?_cons_succ]; rfl)
      refine wpList_store_blk v0 rfl 90 (.tmp 2) (.tmp 50) rfl w.heap.size 90 (sgC 0 (.slice none 0 0) (.slice none 0 0)) (sgC c0 (.slice (some ⟨ng, ng0, none⟩) 67 67) (.slice (some ⟨ng, ng0 + 67 * 32, none⟩) 3 (nc - 67))) HZ0.out.1 rfl rfl rfl (sgC_info _ _ _) (sgC_one _ _ _ _ _ _ _) ?_
      intro v1 hb hc hs
      have HZ1 := Lib.hid (show Blk v1 w.heap.size 90 (sgC c0 (.slice (some ⟨ng, ng0, none⟩) 67 67) (.slice (some ⟨ng, ng0 + 67 * 32, none⟩) 3 (nc - 67))) ∧ SlD v1 (.slice (some ⟨ng, ng0, none⟩) 70 nc) (rowL (chunkF bs) 70) ∧ Below w.heap.size w v1 ∧ v1.cell? ⟨bg, bo, none⟩ = some (.int .u8 c0) from ⟨hb, HZ0.out.2.1.chg hc (fun e => by have e : ng = w.heap.size := e; have := HNG.out; omega), below_ch HZ0.out.2.2.1 hc (Nat.le_refl _) (fun k hk => Nat.le_of_eq (Eq.symm hk)), (hc.cell (p := ⟨bg, bo, none⟩) (block_of_cell HZ0.out.2.2.2.1) (fun e => by have e : bg = w.heap.size := e; have := HZ0.out.2.2.2.2; omega)).trans HZ0.out.2.2.2.1⟩)
      clear hb hc hs
      try simp only [Act.put, List.setIfInBounds_toArray, List.set_cons_zero, List.set_cons_succ]
      refine QK.normal ⟨HZ1.out.2.2.2, ?_⟩
      refine' wpAnyH_one 13 (by kernel_rfl) ?_ ?_; rotate_left; (simp only [List.getElem?_toArray, List.getElem?_cons_zero, List.getElem?_cons_succ]; rfl)
      go_wp2_with fail
      refine QK.normal ⟨HZ1.out.2.2.2, ?_⟩
      refine wpAnyH_done (by kernel_rfl) ?_ _
      refine NoPanic.normal ?_
      go_wp2_with fail
      refine bodyPost_ret (results_cellTmp Try.results86 _ _ w.heap.size _ _ rfl HZ1.out.1 _ Try.underlying90 rfl (sgC_info _ _ _) _ rfl) rfl ⟨_, _, _, _, rfl, ?_, HZ1.out.2.1.dropk 67 (by omega), HZ1.out.2.2.1⟩
      have h := (HZ1.out.2.1.take 67 (by omega)).cap (c2 := 67) (by omega) (by omega)
      rw [rowL_take _ 70 67 (by omega)] at h
      exact h

end Go.Proofs.Ytkbhehnpgnilmaa

namespace Go.Proofs.Ytkbhehnpgnilmaa
open Go Go.RowKit
set_option linter.unusedSimpArgs false
set_option linter.unusedVariables false

theorem own_low {w : World} {b b' : Nat} {e : TypeId} {size : Nat} {v : Value} {n : Nat} {xs : List Value} (h : w.ownsRow b e size v n xs) (hb : b' ≤ b) : w.ownsRow b' e size v n xs := ownsRow_base h hb
theorem ch_row {w w' : World} {row : Option Nat} (h : w.grownBy w' row) : Ch (fun k => row = some k) w w' := ⟨h.os, h.tape, h.output, h.size, fun k hk hn => h.block k hk (fun e => hn e.symm)⟩
/-- append, where the row goes -/
theorem wpList_append_idsN (w : World) {ops : Array Oper} {rest : List Oper} {o : Oper} {a : Act} {Q : Exit → Act → World → Prop} (hgd : o.guard = none) (s x' : Operand)
    (ho : o.op = .call { callee := .builtin .append, args := #[s, x'], argTypes := #[54, 54] }) (base : Nat)
    (v : Value) (n : Nat) (l : List (List Int)) (hs : a.eval s = v) (hown : w.ownsRow base 23 32 v n (ofK .u8 l.flatten))
    (vx : Value) (r : List (List Int)) (hx : a.eval x' = vx) (hr : SlD w vx r) (hnil : NilC vx) (hD : ∀ x ∈ r, IsD x) (N : Nat) (hN : n + r.length = N) (hn : N ≤ 100000) (hbase : base ≤ w.heap.size)
    (h : ∀ ao c w', w'.ownsRow base 23 32 (.slice ao N c) N (ofK .u8 (l ++ r).flatten) → w.grownBy w' v.ownBlock → ((Value.slice ao N c).ownBlock = v.ownBlock ∨ (Value.slice ao N c).ownBlock = some w.heap.size) → wpList Try.prog ops Q rest (a.put o.dst (.slice ao N c)) w') :
    wpList Try.prog ops Q (o :: rest) a w := by
  subst hN
  obtain ⟨i0, hi0, hz0, hz1, hz2⟩ := info_parts (show (Try.prog.info? 23).map (fun i => (i.zero, i.size, i.bytes)) = some (some (.agg (ofK .u8 zer32).toArray), 32, 32) by kernel_rfl)
  obtain ⟨ao, c, rfl, hc1, hc2, hcell⟩ := hr
  have e1 : ofK .u8 (l ++ r).flatten = ofK .u8 l.flatten ++ ofK .u8 r.flatten := by simp [ofK]
  rw [e1] at h
  cases ao with
  | none =>
    have h0 : r = [] := by
      refine Classical.byContradiction fun hne => ?_
      obtain ⟨g, o, h1, _⟩ := hcell (List.length_pos_iff.2 hne)
      cases h1
    subst h0
    obtain rfl : c = 0 := hnil c rfl
    obtain ⟨ao', c', rfl⟩ := own_shape hown
    refine wpList_append_own_none hgd s x' _ ho base _ i0 32 Try.underlying54 hi0 _ n _ hs hown hx ?_
    exact h ao' c' w (by simpa [ofK] using hown) ⟨rfl, rfl, rfl, Nat.le_refl _, fun _ _ _ => rfl⟩ (.inl rfl)
  | some ad =>
    refine wpList_append_own_at w hgd s x' _ ho base _ i0 _ 32 32 Try.underlying54 hi0 hz0 hz1 hz2 (by rfl) (by omega) v n _ hs hown ad r.length c (ofK .u8 r.flatten) hx (by rw [length_ofK, flat32 hD, Nat.mul_comm]) (fun j u hu => ?_) (one_ofK _ _) (by unfold maxLen; omega) (by omega) hbase (fun v' w' a1 a2 _ a4 => ?_)
    · have hj : j < r.flatten.length := by have := (List.getElem?_eq_some_iff.1 hu).1; rwa [length_ofK] at this
      rw [flat32 hD] at hj
      have hk : j / 32 < r.length := by omega
      obtain ⟨g, o, h1, h6⟩ := hcell (by omega)
      obtain rfl : ad = ⟨g, o, none⟩ := by simpa using h1
      have := h6 (j / 32) hk (j % 32) u (by
        unfold ofK at hu ⊢
        rw [List.getElem?_map] at hu ⊢
        rw [← flat_at hD (j / 32) hk (j % 32) (by omega), show j / 32 * 32 + j % 32 = j by omega]
        exact hu)
      rw [show o + j / 32 * 32 + j % 32 = o + j by omega] at this
      rw [add_none']
      exact this
    · obtain ⟨ao', c', rfl⟩ := own_shape a1
      exact h ao' c' w' a1 a2 a4
/-- the beginning of a row that came in -/
theorem SlD.cut {w : World} {ao : Option Addr} {n c : Nat} {l : List (List Int)} (h : SlD w (.slice ao n c) l) (hn : NilC (.slice ao n c)) (hD : ∀ x ∈ l, IsD x) (m : Nat) :
    SlD w (.slice ao (min n m) c) (l.take m) ∧ NilC (.slice ao (min n m) c) ∧ (l.take m).length = min n m ∧ (∀ x ∈ l.take m, IsD x) ∧ min n m ≤ c := by
  obtain ⟨ao', c', e, h2, h3, h4⟩ := id h
  obtain ⟨rfl, rfl, rfl⟩ : ao = ao' ∧ n = l.length ∧ c = c' := by simpa using e
  have ht : l.take m = l.take (min l.length m) := by rw [List.take_eq_take_iff]; omega
  refine ⟨by rw [ht]; exact h.take _ (by omega), fun c2 hc => ?_, by rw [List.length_take]; omega, fun x hx => hD x (List.mem_of_mem_take hx), by omega⟩
  simp only [Value.slice.injEq] at hc
  obtain ⟨rfl, h5, rfl⟩ := hc
  rcases Nat.eq_zero_or_pos l.length with h0 | h0
  · rw [h0] at hn; exact hn c rfl
  · obtain ⟨_, _, h6, _⟩ := h4 h0; cases h6
/-- two rows do not share their block -/
def Np (v1 v2 : Value) : Prop := ∀ k, v1.ownBlock = some k → v2.ownBlock ≠ some k
theorem Np.sym {v1 v2 : Value} (h : Np v1 v2) : Np v2 v1 := fun k h1 h2 => h k h2 h1
theorem Try.buildSg3 (n : Int) (vc vp : Value) (hc : ∃ a k c, vc = .slice a k c) (hp : ∃ a k c, vp = .slice a k c) : ∀ w, (Instr.build 90 #[(0, .int .i64 n), (1, vc), (2, vp)]).run Try.prog w = .ok (.agg (sgC n vc vp).toArray) w := fun w => by
  obtain ⟨a, k, c, rfl⟩ := hc
  obtain ⟨a2, k2, c2, rfl⟩ := hp
  kernel_rfl
def SignedP (w : World) (n : Int) (C P : List (List Int)) (e : Ending) (w' : World) : Prop := ∃ so sc qo qc, e = .returned (.agg (sgC n (.slice so C.length sc) (.slice qo P.length qc)).toArray) ∧ SlD w' (.slice so C.length sc) C ∧ SlD w' (.slice qo P.length qc) P ∧ Below w.heap.size w w'


theorem wpList_buildSg3 {ops : Array Oper} {rest : List Oper} {op : Oper} {a : Act} {w : World} {Q : Exit → Act → World → Prop} (hgd : op.guard = none) (x0 x1 x2 : Operand) (ho : op.op = .build 90 #[(0, x0), (1, x1), (2, x2)])
    (n : Int) (vc vp : Value) (hc : ∃ a k c, vc = .slice a k c) (hp : ∃ a k c, vp = .slice a k c) (h0 : a.eval x0 = .int .i64 n) (h1 : a.eval x1 = vc) (h2 : a.eval x2 = vp)
    (h : wpList Try.prog ops Q rest (a.put op.dst (.agg (sgC n vc vp).toArray)) w) : wpList Try.prog ops Q (op :: rest) a w := by
  refine wpList_plain hgd fun K hK => ?_
  have hrun : (execOp a.eval op).run Try.prog w = .ok (.value (.agg (sgC n vc vp).toArray)) w := by
    unfold execOp
    simp only [ho]
    rw [show (#[((0 : Nat), x0), (1, x1), (2, x2)].map fun (i, x) => (i, a.eval x)) = #[(0, .int .i64 n), (1, vc), (2, vp)] by simp [h0, h1, h2]]
    simp [Try.buildSg3 n vc vp hc hp, Result.andThen]
  unfold Oper.wp
  rw [hrun]
  exact hK _ _ h


set_option maxRecDepth 100000 in
set_option maxHeartbeats 4000000 in
theorem signed8_any (n : Int) (co po : Option Addr) (cl cc pl pc : Nat) (C P : List (List Int)) (w : World) (h1 : SlD w (.slice co cl cc) C) (h2 : SlD w (.slice po pl pc) P) (n1 : NilC (.slice co cl cc)) (n2 : NilC (.slice po pl pc)) (d1 : ∀ x ∈ C, IsD x) (d2 : ∀ x ∈ P, IsD x) :
    Calls Try.prog 82 #[.agg (sgC n (.slice co cl cc) (.slice po pl pc)).toArray] w (SignedP w n (C.take 70) (P.take 5)) := by
  have hmc : min (cl : Int) 70 = ((min cl 70 : Nat) : Int) := by omega
  have hmp : min (pl : Int) 5 = ((min pl 5 : Nat) : Int) := by omega
  have K1 := h1.cut n1 d1 70
  have K2 := h2.cut n2 d2 5
  have hlc70 : min cl 70 ≤ 70 := by omega
  have hlp5 : min pl 5 ≤ 5 := by omega
  generalize min cl 70 = lc at hmc K1 hlc70
  generalize min pl 5 = lp at hmp K2 hlp5
  generalize C.take 70 = X at K1 ⊢
  generalize P.take 5 = Y at K2 ⊢
  have HK1 := Lib.hid K1
  have HK2 := Lib.hid K2
  have hx1 : (lc : Int) ≤ (cc : Int) := by have := K1.2.2.2.2; omega
  have hx2 : (lp : Int) ≤ (pc : Int) := by have := K2.2.2.2.2; omega
  have hx3 : (0 : Int) ≤ (lc : Int) := by omega
  have hx4 : (0 : Int) ≤ (lp : Int) := by omega
  clear K1 K2 h1 h2 n1 n2 d1 d2
  go_enter Try.func82, Try.ntmps82
  go_wp2_with (first
    | ((with_reducible refine wpList_box_blk w rfl 90 (.tmp 0) rfl (sgC n (.slice co cl cc) (.slice po pl pc)) rfl ?_); intro a1 hb hbel hsz; have HB1 := Lib.hid (And.intro hb hbel); clear hb hbel hsz)
    | ((with_reducible refine wpList_alloc_blk a1 rfl 90 rfl (sgC 0 (.slice none 0 0) (.slice none 0 0)) Try.zeroSg ?_); intro a2 hb hbel hsz; have HX := Lib.hid (show Blk a2 w.heap.size 90 (sgC n (.slice co cl cc) (.slice po pl pc)) ∧ Blk a2 a1.heap.size 90 (sgC 0 (.slice none 0 0) (.slice none 0 0)) ∧ SlD a2 (.slice co lc cc) X ∧ SlD a2 (.slice po lp pc) Y ∧ Below w.heap.size w a2 from ⟨HB1.out.1.below hbel HB1.out.1.lt, hb, (HK1.out.1.below HB1.out.2).below hbel, (HK2.out.1.below HB1.out.2).below hbel, below_thn HB1.out.2 hbel (Nat.le_refl _)⟩); have HGR := Lib.hid (And.intro HB1.out.1.lt HB1.out.2.size); clear hb hbel hsz HB1))
  refine wp_region_takes (fun w' => w'.cell? ⟨w.heap.size, 0, none⟩ = some (.int .i64 n) ∧ w'.cell? ⟨w.heap.size, 1, none⟩ = some (.slice co cl cc) ∧ w'.cell? ⟨w.heap.size, 2, none⟩ = some (.slice po pl pc)) [0, 1, 3, 4, 5, 6, 7, 8, 9, 12, 13, 14, 15, 16, 17, 18] 6 (by kernel_rfl) rfl (by kernel_rfl) (by kernel_rfl) ((let h := HX.out.1.below ((Sm.refl a2).drew.below _) HX.out.1.lt; ⟨h.cell 0, h.cell 1, h.cell 2⟩)) ?_
  iterate 16 (refine' HeldL.run ?_ ?_ ?_ ?_; rotate_left 2; (simp only [List.getElem?_toArray, List.getElem?_cons_zero, List.getElem?_cons_succ]; rfl); rfl; (rintro w' ⟨k0, k1, k2⟩; go_simp; with_reducible rfl); simp only [Act.put, List.setIfInBounds_toArray, List.set_cons_zero, List.set_cons_succ])
  have HV0 := Lib.hid (show Below a2.heap.size a2 a2.drew from (Sm.refl a2).drew.below _)
  generalize a2.drew = v0 at HV0 ⊢
  refine' wpAnyH_two 2 11 (by kernel_rfl) ?_ ?_ ?_ ?_; rotate_left 2; (simp only [List.getElem?_toArray, List.getElem?_cons_zero, List.getElem?_cons_succ]; rfl); (simp only [List.getElem?_toArray, List.getElem?_cons_zero, List.getElem?_cons_succ]; rfl)
  · skip
    refine wpList_slice_ids0 v0 rfl rfl ?_
    intro s1 hown hbel hsz
    have HB2 := Lib.hid (below_thn HV0.out hbel (Nat.le_refl _))
    have HR3 := Lib.hid (own_low hown HV0.out.size)
    clear hown hbel hsz
    simp only [Act.put, List.setIfInBounds_toArray, List.set_cons_zero, List.set_cons_succ]
    refine QK.normal ⟨(let h := HX.out.1.below HB2.out HX.out.1.lt; ⟨h.cell 0, h.cell 1, h.cell 2⟩), ?_⟩
    refine' wpAnyH_two 10 11 (by kernel_rfl) ?_ ?_ ?_ ?_; rotate_left 2; (simp only [List.getElem?_toArray, List.getElem?_cons_zero, List.getElem?_cons_succ]; rfl); (simp only [List.getElem?_toArray, List.getElem?_cons_zero, List.getElem?_cons_succ]; rfl)
    · skip
      at_builtin
      refine wpList_append_idsN s1 rfl (.tmp 5) (.tmp 12) rfl a2.heap.size (.slice (some ⟨v0.heap.size, 0, none⟩) 0 0) 0 ([] : List (List Int)) rfl HR3.out (.slice co lc cc) X rfl (HX.out.2.2.1.below HB2.out) HK1.out.2.1 HK1.out.2.2.2.1 lc (by rw [Nat.zero_add]; exact HK1.out.2.2.1) (by omega) HB2.out.size ?_
      intro o11 c12 s6 hown hgr hbl
      rw [List.nil_append] at hown
      have HB7 := Lib.hid (below_ch HB2.out (ch_row hgr) (Nat.le_refl _) (fun k hk => (HR3.out.lt k hk).1))
      have HR8 := Lib.hid hown
      clear hown hgr hbl
      simp only [Act.put, List.setIfInBounds_toArray, List.set_cons_zero, List.set_cons_succ]
      refine QK.normal ⟨(let h := HX.out.1.below HB7.out HX.out.1.lt; ⟨h.cell 0, h.cell 1, h.cell 2⟩), ?_⟩
      refine' wpAnyH_one 11 (by kernel_rfl) ?_ ?_; rotate_left; (simp only [List.getElem?_toArray, List.getElem?_cons_zero, List.getElem?_cons_succ]; rfl)
      refine wpList_slice_ids0 s6 rfl rfl ?_
      intro s13 hown hbel hsz
      have HB14 := Lib.hid (below_thn HB7.out hbel (Nat.le_refl _))
      have HR15 := Lib.hid (own_low hown HB7.out.size)
      have HO17 := Lib.hid (own_ch HR8.out (Ch.of_below (S := fun _ => False) hbel (Nat.le_refl _)) (fun _ _ h => h))
      have HN16 := Lib.hid (show Np (.slice (some ⟨s6.heap.size, 0, none⟩) 0 0) (.slice o11 lc c12) from fun k h1 h2 => by have h1 : some s6.heap.size = some k := h1; have h3 := (HR8.out.lt k h2).2; simp only [Option.some.injEq] at h1; omega)
      clear hown hbel hsz
      simp only [Act.put, List.setIfInBounds_toArray, List.set_cons_zero, List.set_cons_succ]
      refine QK.normal ⟨(let h := HX.out.1.below HB14.out HX.out.1.lt; ⟨h.cell 0, h.cell 1, h.cell 2⟩), ?_⟩
      refine' wpAnyH_one 19 (by kernel_rfl) ?_ ?_; rotate_left; (simp only [List.getElem?_toArray, List.getElem?_cons_zero, List.getElem?_cons_succ]; rfl)
      at_builtin
      refine wpList_append_idsN s13 rfl (.tmp 14) (.tmp 21) rfl a2.heap.size (.slice (some ⟨s6.heap.size, 0, none⟩) 0 0) 0 ([] : List (List Int)) rfl HR15.out (.slice po lp pc) Y rfl (HX.out.2.2.2.1.below HB14.out) HK2.out.2.1 HK2.out.2.2.2.1 lp (by rw [Nat.zero_add]; exact HK2.out.2.2.1) (by omega) HB14.out.size ?_
      intro o23 c24 s18 hown hgr hbl
      rw [List.nil_append] at hown
      have HB19 := Lib.hid (below_ch HB14.out (ch_row hgr) (Nat.le_refl _) (fun k hk => (HR15.out.lt k hk).1))
      have HR20 := Lib.hid hown
      have HO22 := Lib.hid (own_ch HO17.out (ch_row hgr) (fun k hk h => (Lib.hid HN16.out.sym).out.sym k h hk))
      have HN21 := Lib.hid (show Np (.slice o23 lp c24) (.slice o11 lc c12) from fun k h1 h2 => by
        rcases hbl with hbl | hbl
        · exact (Lib.hid HN16.out.sym).out.sym k (hbl ▸ h1) h2
        · have h3 := (HO17.out.lt k h2).2; rw [hbl] at h1; simp only [Option.some.injEq] at h1; omega)
      clear hown hgr hbl
      simp only [Act.put, List.setIfInBounds_toArray, List.set_cons_zero, List.set_cons_succ]
      refine QK.normal ⟨(let h := HX.out.1.below HB19.out HX.out.1.lt; ⟨h.cell 0, h.cell 1, h.cell 2⟩), ?_⟩
      refine' wpAnyH_one 20 (by kernel_rfl) ?_ ?_; rotate_left; (simp only [List.getElem?_toArray, List.getElem?_cons_zero, List.getElem?_cons_succ]; rfl)
      refine wpList_buildSg3 rfl (.tmp 4) (.tmp 13) (.tmp 22) rfl n (.slice o11 lc c12) (.slice o23 lp c24) ⟨_, _, _, rfl⟩ ⟨_, _, _, rfl⟩ rfl rfl rfl ?_
      simp only [Act.put, List.setIfInBounds_toArray, List.set_cons_zero, List.set_cons_succ]
      refine QK.normal ⟨(let h := HX.out.1.below HB19.out HX.out.1.lt; ⟨h.cell 0, h.cell 1, h.cell 2⟩), ?_⟩
      refine' wpAnyH_one 21 (by kernel_rfl) ?_ ?_; rotate_left; (simp only [List.getElem?_toArray, List.getElem?_cons_zero, List.getElem?_cons_succ]; rfl)
      refine wpList_store_blk s18 rfl 90 (.tmp 2) (.tmp 23) rfl a1.heap.size 90 (sgC 0 (.slice none 0 0) (.slice none 0 0)) (sgC n (.slice o11 lc c12) (.slice o23 lp c24)) (HX.out.2.1.below HB19.out HX.out.2.1.lt) rfl rfl rfl (sgC_info _ _ _) (sgC_one _ _ _ _ _ _ _) ?_
      intro s25 hb hc hs
      have HZ26 := Lib.hid (show Blk s25 a1.heap.size 90 (sgC n (.slice o11 lc c12) (.slice o23 lp c24)) ∧ s25.ownsRow a2.heap.size 23 32 (.slice o11 lc c12) lc (ofK .u8 X.flatten) ∧ s25.ownsRow a2.heap.size 23 32 (.slice o23 lp c24) lp (ofK .u8 Y.flatten) ∧ Below w.heap.size w s25 ∧ (fun w' => w'.cell? ⟨w.heap.size, 0, none⟩ = some (.int .i64 n) ∧ w'.cell? ⟨w.heap.size, 1, none⟩ = some (.slice co cl cc) ∧ w'.cell? ⟨w.heap.size, 2, none⟩ = some (.slice po pl pc)) s25 from ⟨hb, own_ch HO22.out hc (fun k hk e => by have e : k = a1.heap.size := e; have := (HO22.out.lt k hk).1; have := HX.out.2.1.lt; omega), own_ch HR20.out hc (fun k hk e => by have e : k = a1.heap.size := e; have := (HR20.out.lt k hk).1; have := HX.out.2.1.lt; omega), below_ch (below_thn HX.out.2.2.2.2 HB19.out (Nat.le_refl _)) hc (Nat.le_refl _) (fun k hk => by have hk : k = a1.heap.size := hk; have := HGR.out.2; omega), (let h := (HX.out.1.below HB19.out HX.out.1.lt).keep hc (fun e => by have e : w.heap.size = a1.heap.size := e; have := HGR.out.1; omega); ⟨h.cell 0, h.cell 1, h.cell 2⟩)⟩)
      clear hb hc hs
      try simp only [Act.put, List.setIfInBounds_toArray, List.set_cons_zero, List.set_cons_succ]
      refine QK.normal ⟨HZ26.out.2.2.2.2, ?_⟩
      refine wpAnyH_done (by kernel_rfl) ?_ _
      refine NoPanic.normal ?_
      go_wp2_with fail
      refine bodyPost_ret (results_blk Try.results82 _ _ a1.heap.size _ _ rfl HZ26.out.1 _ Try.underlying90 rfl (sgC_info _ _ _)) rfl ?_
      unfold SignedP
      rw [HK1.out.2.2.1, HK2.out.2.2.1]
      exact ⟨_, _, _, _, rfl, SlD.of_owns HZ26.out.2.1 HK1.out.2.2.1.symm HK1.out.2.2.2.1, SlD.of_owns HZ26.out.2.2.1 HK2.out.2.2.1.symm HK2.out.2.2.2.1, HZ26.out.2.2.2.1⟩
    · skip
      refine wpList_slice_ids0 s1 rfl rfl ?_
      intro s27 hown hbel hsz
      have HB28 := Lib.hid (below_thn HB2.out hbel (Nat.le_refl _))
      have HR29 := Lib.hid (own_low hown HB2.out.size)
      have HO31 := Lib.hid (own_ch HR3.out (Ch.of_below (S := fun _ => False) hbel (Nat.le_refl _)) (fun _ _ h => h))
      have HN30 := Lib.hid (show Np (.slice (some ⟨s1.heap.size, 0, none⟩) 0 0) (.slice (some ⟨v0.heap.size, 0, none⟩) 0 0) from fun k h1 h2 => by have h1 : some s1.heap.size = some k := h1; have h3 := (HR3.out.lt k h2).2; simp only [Option.some.injEq] at h1; omega)
      clear hown hbel hsz
      simp only [Act.put, List.setIfInBounds_toArray, List.set_cons_zero, List.set_cons_succ]
      refine QK.normal ⟨(let h := HX.out.1.below HB28.out HX.out.1.lt; ⟨h.cell 0, h.cell 1, h.cell 2⟩), ?_⟩
      refine' wpAnyH_one 10 (by kernel_rfl) ?_ ?_; rotate_left; (simp only [List.getElem?_toArray, List.getElem?_cons_zero, List.getElem?_cons_succ]; rfl)
      at_builtin
      refine wpList_append_idsN s27 rfl (.tmp 5) (.tmp 12) rfl a2.heap.size (.slice (some ⟨v0.heap.size, 0, none⟩) 0 0) 0 ([] : List (List Int)) rfl HO31.out (.slice co lc cc) X rfl (HX.out.2.2.1.below HB28.out) HK1.out.2.1 HK1.out.2.2.2.1 lc (by rw [Nat.zero_add]; exact HK1.out.2.2.1) (by omega) HB28.out.size ?_
      intro o37 c38 s32 hown hgr hbl
      rw [List.nil_append] at hown
      have HB33 := Lib.hid (below_ch HB28.out (ch_row hgr) (Nat.le_refl _) (fun k hk => (HO31.out.lt k hk).1))
      have HR34 := Lib.hid hown
      have HO36 := Lib.hid (own_ch HR29.out (ch_row hgr) (fun k hk h => (Lib.hid HN30.out.sym).out k h hk))
      have HN35 := Lib.hid (show Np (.slice o37 lc c38) (.slice (some ⟨s1.heap.size, 0, none⟩) 0 0) from fun k h1 h2 => by
        rcases hbl with hbl | hbl
        · exact (Lib.hid HN30.out.sym).out k (hbl ▸ h1) h2
        · have h3 := (HR29.out.lt k h2).2; rw [hbl] at h1; simp only [Option.some.injEq] at h1; omega)
      clear hown hgr hbl
      simp only [Act.put, List.setIfInBounds_toArray, List.set_cons_zero, List.set_cons_succ]
      refine QK.normal ⟨(let h := HX.out.1.below HB33.out HX.out.1.lt; ⟨h.cell 0, h.cell 1, h.cell 2⟩), ?_⟩
      refine' wpAnyH_one 19 (by kernel_rfl) ?_ ?_; rotate_left; (simp only [List.getElem?_toArray, List.getElem?_cons_zero, List.getElem?_cons_succ]; rfl)
      at_builtin
      refine wpList_append_idsN s32 rfl (.tmp 14) (.tmp 21) rfl a2.heap.size (.slice (some ⟨s1.heap.size, 0, none⟩) 0 0) 0 ([] : List (List Int)) rfl HO36.out (.slice po lp pc) Y rfl (HX.out.2.2.2.1.below HB33.out) HK2.out.2.1 HK2.out.2.2.2.1 lp (by rw [Nat.zero_add]; exact HK2.out.2.2.1) (by omega) HB33.out.size ?_
      intro o44 c45 s39 hown hgr hbl
      rw [List.nil_append] at hown
      have HB40 := Lib.hid (below_ch HB33.out (ch_row hgr) (Nat.le_refl _) (fun k hk => (HO36.out.lt k hk).1))
      have HR41 := Lib.hid hown
      have HO43 := Lib.hid (own_ch HR34.out (ch_row hgr) (fun k hk h => HN35.out.sym k h hk))
      have HN42 := Lib.hid (show Np (.slice o44 lp c45) (.slice o37 lc c38) from fun k h1 h2 => by
        rcases hbl with hbl | hbl
        · exact HN35.out.sym k (hbl ▸ h1) h2
        · have h3 := (HR34.out.lt k h2).2; rw [hbl] at h1; simp only [Option.some.injEq] at h1; omega)
      clear hown hgr hbl
      simp only [Act.put, List.setIfInBounds_toArray, List.set_cons_zero, List.set_cons_succ]
      refine QK.normal ⟨(let h := HX.out.1.below HB40.out HX.out.1.lt; ⟨h.cell 0, h.cell 1, h.cell 2⟩), ?_⟩
      refine' wpAnyH_one 20 (by kernel_rfl) ?_ ?_; rotate_left; (simp only [List.getElem?_toArray, List.getElem?_cons_zero, List.getElem?_cons_succ]; rfl)
      refine wpList_buildSg3 rfl (.tmp 4) (.tmp 13) (.tmp 22) rfl n (.slice o37 lc c38) (.slice o44 lp c45) ⟨_, _, _, rfl⟩ ⟨_, _, _, rfl⟩ rfl rfl rfl ?_
      simp only [Act.put, List.setIfInBounds_toArray, List.set_cons_zero, List.set_cons_succ]
      refine QK.normal ⟨(let h := HX.out.1.below HB40.out HX.out.1.lt; ⟨h.cell 0, h.cell 1, h.cell 2⟩), ?_⟩
      refine' wpAnyH_one 21 (by kernel_rfl) ?_ ?_; rotate_left; (simp only [List.getElem?_toArray, List.getElem?_cons_zero, List.getElem?_cons_succ]; rfl)
      refine wpList_store_blk s39 rfl 90 (.tmp 2) (.tmp 23) rfl a1.heap.size 90 (sgC 0 (.slice none 0 0) (.slice none 0 0)) (sgC n (.slice o37 lc c38) (.slice o44 lp c45)) (HX.out.2.1.below HB40.out HX.out.2.1.lt) rfl rfl rfl (sgC_info _ _ _) (sgC_one _ _ _ _ _ _ _) ?_
      intro s46 hb hc hs
      have HZ47 := Lib.hid (show Blk s46 a1.heap.size 90 (sgC n (.slice o37 lc c38) (.slice o44 lp c45)) ∧ s46.ownsRow a2.heap.size 23 32 (.slice o37 lc c38) lc (ofK .u8 X.flatten) ∧ s46.ownsRow a2.heap.size 23 32 (.slice o44 lp c45) lp (ofK .u8 Y.flatten) ∧ Below w.heap.size w s46 ∧ (fun w' => w'.cell? ⟨w.heap.size, 0, none⟩ = some (.int .i64 n) ∧ w'.cell? ⟨w.heap.size, 1, none⟩ = some (.slice co cl cc) ∧ w'.cell? ⟨w.heap.size, 2, none⟩ = some (.slice po pl pc)) s46 from ⟨hb, own_ch HO43.out hc (fun k hk e => by have e : k = a1.heap.size := e; have := (HO43.out.lt k hk).1; have := HX.out.2.1.lt; omega), own_ch HR41.out hc (fun k hk e => by have e : k = a1.heap.size := e; have := (HR41.out.lt k hk).1; have := HX.out.2.1.lt; omega), below_ch (below_thn HX.out.2.2.2.2 HB40.out (Nat.le_refl _)) hc (Nat.le_refl _) (fun k hk => by have hk : k = a1.heap.size := hk; have := HGR.out.2; omega), (let h := (HX.out.1.below HB40.out HX.out.1.lt).keep hc (fun e => by have e : w.heap.size = a1.heap.size := e; have := HGR.out.1; omega); ⟨h.cell 0, h.cell 1, h.cell 2⟩)⟩)
      clear hb hc hs
      try simp only [Act.put, List.setIfInBounds_toArray, List.set_cons_zero, List.set_cons_succ]
      refine QK.normal ⟨HZ47.out.2.2.2.2, ?_⟩
      refine wpAnyH_done (by kernel_rfl) ?_ _
      refine NoPanic.normal ?_
      go_wp2_with fail
      refine bodyPost_ret (results_blk Try.results82 _ _ a1.heap.size _ _ rfl HZ47.out.1 _ Try.underlying90 rfl (sgC_info _ _ _)) rfl ?_
      unfold SignedP
      rw [HK1.out.2.2.1, HK2.out.2.2.1]
      exact ⟨_, _, _, _, rfl, SlD.of_owns HZ47.out.2.1 HK1.out.2.2.1.symm HK1.out.2.2.2.1, SlD.of_owns HZ47.out.2.2.1 HK2.out.2.2.1.symm HK2.out.2.2.2.1, HZ47.out.2.2.2.1⟩
  · skip
    refine wpList_slice_ids0 v0 rfl rfl ?_
    intro s48 hown hbel hsz
    have HB49 := Lib.hid (below_thn HV0.out hbel (Nat.le_refl _))
    have HR50 := Lib.hid (own_low hown HV0.out.size)
    clear hown hbel hsz
    simp only [Act.put, List.setIfInBounds_toArray, List.set_cons_zero, List.set_cons_succ]
    refine QK.normal ⟨(let h := HX.out.1.below HB49.out HX.out.1.lt; ⟨h.cell 0, h.cell 1, h.cell 2⟩), ?_⟩
    refine' wpAnyH_one 2 (by kernel_rfl) ?_ ?_; rotate_left; (simp only [List.getElem?_toArray, List.getElem?_cons_zero, List.getElem?_cons_succ]; rfl)
    refine wpList_slice_ids0 s48 rfl rfl ?_
    intro s53 hown hbel hsz
    have HB54 := Lib.hid (below_thn HB49.out hbel (Nat.le_refl _))
    have HR55 := Lib.hid (own_low hown HB49.out.size)
    have HO57 := Lib.hid (own_ch HR50.out (Ch.of_below (S := fun _ => False) hbel (Nat.le_refl _)) (fun _ _ h => h))
    have HN56 := Lib.hid (show Np (.slice (some ⟨s48.heap.size, 0, none⟩) 0 0) (.slice (some ⟨v0.heap.size, 0, none⟩) 0 0) from fun k h1 h2 => by have h1 : some s48.heap.size = some k := h1; have h3 := (HR50.out.lt k h2).2; simp only [Option.some.injEq] at h1; omega)
    clear hown hbel hsz
    simp only [Act.put, List.setIfInBounds_toArray, List.set_cons_zero, List.set_cons_succ]
    refine QK.normal ⟨(let h := HX.out.1.below HB54.out HX.out.1.lt; ⟨h.cell 0, h.cell 1, h.cell 2⟩), ?_⟩
    refine' wpAnyH_one 10 (by kernel_rfl) ?_ ?_; rotate_left; (simp only [List.getElem?_toArray, List.getElem?_cons_zero, List.getElem?_cons_succ]; rfl)
    at_builtin
    refine wpList_append_idsN s53 rfl (.tmp 5) (.tmp 12) rfl a2.heap.size (.slice (some ⟨s48.heap.size, 0, none⟩) 0 0) 0 ([] : List (List Int)) rfl HR55.out (.slice co lc cc) X rfl (HX.out.2.2.1.below HB54.out) HK1.out.2.1 HK1.out.2.2.2.1 lc (by rw [Nat.zero_add]; exact HK1.out.2.2.1) (by omega) HB54.out.size ?_
    intro o63 c64 s58 hown hgr hbl
    rw [List.nil_append] at hown
    have HB59 := Lib.hid (below_ch HB54.out (ch_row hgr) (Nat.le_refl _) (fun k hk => (HR55.out.lt k hk).1))
    have HR60 := Lib.hid hown
    have HO62 := Lib.hid (own_ch HO57.out (ch_row hgr) (fun k hk h => HN56.out k h hk))
    have HN61 := Lib.hid (show Np (.slice o63 lc c64) (.slice (some ⟨v0.heap.size, 0, none⟩) 0 0) from fun k h1 h2 => by
      rcases hbl with hbl | hbl
      · exact HN56.out k (hbl ▸ h1) h2
      · have h3 := (HO57.out.lt k h2).2; rw [hbl] at h1; simp only [Option.some.injEq] at h1; omega)
    clear hown hgr hbl
    simp only [Act.put, List.setIfInBounds_toArray, List.set_cons_zero, List.set_cons_succ]
    refine QK.normal ⟨(let h := HX.out.1.below HB59.out HX.out.1.lt; ⟨h.cell 0, h.cell 1, h.cell 2⟩), ?_⟩
    refine' wpAnyH_one 19 (by kernel_rfl) ?_ ?_; rotate_left; (simp only [List.getElem?_toArray, List.getElem?_cons_zero, List.getElem?_cons_succ]; rfl)
    at_builtin
    refine wpList_append_idsN s58 rfl (.tmp 14) (.tmp 21) rfl a2.heap.size (.slice (some ⟨v0.heap.size, 0, none⟩) 0 0) 0 ([] : List (List Int)) rfl HO62.out (.slice po lp pc) Y rfl (HX.out.2.2.2.1.below HB59.out) HK2.out.2.1 HK2.out.2.2.2.1 lp (by rw [Nat.zero_add]; exact HK2.out.2.2.1) (by omega) HB59.out.size ?_
    intro o70 c71 s65 hown hgr hbl
    rw [List.nil_append] at hown
    have HB66 := Lib.hid (below_ch HB59.out (ch_row hgr) (Nat.le_refl _) (fun k hk => (HO62.out.lt k hk).1))
    have HR67 := Lib.hid hown
    have HO69 := Lib.hid (own_ch HR60.out (ch_row hgr) (fun k hk h => HN61.out.sym k h hk))
    have HN68 := Lib.hid (show Np (.slice o70 lp c71) (.slice o63 lc c64) from fun k h1 h2 => by
      rcases hbl with hbl | hbl
      · exact HN61.out.sym k (hbl ▸ h1) h2
      · have h3 := (HR60.out.lt k h2).2; rw [hbl] at h1; simp only [Option.some.injEq] at h1; omega)
    clear hown hgr hbl
    simp only [Act.put, List.setIfInBounds_toArray, List.set_cons_zero, List.set_cons_succ]
    refine QK.normal ⟨(let h := HX.out.1.below HB66.out HX.out.1.lt; ⟨h.cell 0, h.cell 1, h.cell 2⟩), ?_⟩
    refine' wpAnyH_one 20 (by kernel_rfl) ?_ ?_; rotate_left; (simp only [List.getElem?_toArray, List.getElem?_cons_zero, List.getElem?_cons_succ]; rfl)
    refine wpList_buildSg3 rfl (.tmp 4) (.tmp 13) (.tmp 22) rfl n (.slice o63 lc c64) (.slice o70 lp c71) ⟨_, _, _, rfl⟩ ⟨_, _, _, rfl⟩ rfl rfl rfl ?_
    simp only [Act.put, List.setIfInBounds_toArray, List.set_cons_zero, List.set_cons_succ]
    refine QK.normal ⟨(let h := HX.out.1.below HB66.out HX.out.1.lt; ⟨h.cell 0, h.cell 1, h.cell 2⟩), ?_⟩
    refine' wpAnyH_one 21 (by kernel_rfl) ?_ ?_; rotate_left; (simp only [List.getElem?_toArray, List.getElem?_cons_zero, List.getElem?_cons_succ]; rfl)
    refine wpList_store_blk s65 rfl 90 (.tmp 2) (.tmp 23) rfl a1.heap.size 90 (sgC 0 (.slice none 0 0) (.slice none 0 0)) (sgC n (.slice o63 lc c64) (.slice o70 lp c71)) (HX.out.2.1.below HB66.out HX.out.2.1.lt) rfl rfl rfl (sgC_info _ _ _) (sgC_one _ _ _ _ _ _ _) ?_
    intro s72 hb hc hs
    have HZ73 := Lib.hid (show Blk s72 a1.heap.size 90 (sgC n (.slice o63 lc c64) (.slice o70 lp c71)) ∧ s72.ownsRow a2.heap.size 23 32 (.slice o63 lc c64) lc (ofK .u8 X.flatten) ∧ s72.ownsRow a2.heap.size 23 32 (.slice o70 lp c71) lp (ofK .u8 Y.flatten) ∧ Below w.heap.size w s72 ∧ (fun w' => w'.cell? ⟨w.heap.size, 0, none⟩ = some (.int .i64 n) ∧ w'.cell? ⟨w.heap.size, 1, none⟩ = some (.slice co cl cc) ∧ w'.cell? ⟨w.heap.size, 2, none⟩ = some (.slice po pl pc)) s72 from ⟨hb, own_ch HO69.out hc (fun k hk e => by have e : k = a1.heap.size := e; have := (HO69.out.lt k hk).1; have := HX.out.2.1.lt; omega), own_ch HR67.out hc (fun k hk e => by have e : k = a1.heap.size := e; have := (HR67.out.lt k hk).1; have := HX.out.2.1.lt; omega), below_ch (below_thn HX.out.2.2.2.2 HB66.out (Nat.le_refl _)) hc (Nat.le_refl _) (fun k hk => by have hk : k = a1.heap.size := hk; have := HGR.out.2; omega), (let h := (HX.out.1.below HB66.out HX.out.1.lt).keep hc (fun e => by have e : w.heap.size = a1.heap.size := e; have := HGR.out.1; omega); ⟨h.cell 0, h.cell 1, h.cell 2⟩)⟩)
    clear hb hc hs
    try simp only [Act.put, List.setIfInBounds_toArray, List.set_cons_zero, List.set_cons_succ]
    refine QK.normal ⟨HZ73.out.2.2.2.2, ?_⟩
    refine wpAnyH_done (by kernel_rfl) ?_ _
    refine NoPanic.normal ?_
    go_wp2_with fail
    refine bodyPost_ret (results_blk Try.results82 _ _ a1.heap.size _ _ rfl HZ73.out.1 _ Try.underlying90 rfl (sgC_info _ _ _)) rfl ?_
    unfold SignedP
    rw [HK1.out.2.2.1, HK2.out.2.2.1]
    exact ⟨_, _, _, _, rfl, SlD.of_owns HZ73.out.2.1 HK1.out.2.2.1.symm HK1.out.2.2.2.1, SlD.of_owns HZ73.out.2.2.1 HK2.out.2.2.1.symm HK2.out.2.2.2.1, HZ73.out.2.2.2.1⟩


end Go.Proofs.Ytkbhehnpgnilmaa

namespace Go.Proofs.Ytkbhehnpgnilmaa
open Go Go.RowKit Go.ChangeShapes Go.WideShapes Go.ChangeAt
set_option linter.unusedSimpArgs false
set_option linter.unusedVariables false

/-- a signature that came in -/
structure SgD where
  n : Int
  co : Option Addr
  cl : Nat
  cc : Nat
  C : List (List Int)
  po : Option Addr
  pl : Nat
  pc : Nat
  P : List (List Int)
instance : Inhabited SgD := ⟨⟨0, none, 0, 0, [], none, 0, 0, []⟩⟩
def sgD (q : SgD) : List Value := sgC q.n (.slice q.co q.cl q.cc) (.slice q.po q.pl q.pc)
def SgOk (W : World) (q : SgD) : Prop := I64 q.n ∧ (SlD W (.slice q.co q.cl q.cc) q.C ∧ NilC (.slice q.co q.cl q.cc) ∧ ∀ y ∈ q.C, IsD y) ∧ (SlD W (.slice q.po q.pl q.pc) q.P ∧ NilC (.slice q.po q.pl q.pc) ∧ ∀ y ∈ q.P, IsD y)
theorem SgOk.below {W W' : World} {q : SgD} (h : SgOk W q) (hb : Below W.heap.size W W') : SgOk W' q := ⟨h.1, ⟨h.2.1.1.below hb, h.2.1.2⟩, ⟨h.2.2.1.below hb, h.2.2.2⟩⟩

theorem three_of {α : Type} : ∀ {l : List α}, l.length = 3 → ∃ a b c, l = [a, b, c]
  | [a, b, c], _ => ⟨a, b, c, rfl⟩
section
variable {H : Type} {enc : TypeId × Value → H} {W : World}
theorem read_signed {t b e2 : TypeId} {f0 f1 f2 : Field} {fuel : Nat} {cs : List Value} {x : DataW H × List MemPlace} (hs : Try.prog.underlying t = some (.struct #[f0, f1, f2])) (hC : Try.prog.cellsOf t = 3)
    (o0 : f0.offset = 0) (o1 : f1.offset = 1) (o2 : f2.offset = 2) (c0 : Try.prog.cellsOf f0.type = 1) (c1 : Try.prog.cellsOf f1.type = 1) (c2 : Try.prog.cellsOf f2.type = 1)
    (u0 : Try.prog.underlying f0.type = some (.int .i64)) (u1 : Try.prog.underlying f1.type = some (.slice e2)) (u2 : Try.prog.underlying f2.type = some (.slice e2)) (ue : Try.prog.underlying e2 = some (.array 32 b)) (ub : Try.prog.underlying b = some (.int .u8)) (cb : Try.prog.cellsOf b = 1) (ce : Try.prog.cellsOf e2 = 32)
    (h : DataW.trod enc Try.prog W 0 (fun _ => true) true fuel t cs = some x) : ∃ q, cs = sgD q ∧ SgOk W q := by
  obtain ⟨xs, n, _, hx, hlen, hxl, hfd⟩ := DataW.trod_struct hs h
  rw [hC] at hlen
  have hx3 : xs.length = 3 := hxl
  obtain ⟨v0, v1, v2, rfl⟩ := three_of hlen
  have g0 := hfd 0 f0 rfl
  have g1 := hfd 1 f1 rfl
  have g2 := hfd 2 f2 rfl
  rw [List.getElem?_eq_getElem (by omega)] at g0 g1 g2
  rw [o0, c0] at g0
  rw [o1, c1] at g1
  rw [o2, c2] at g2
  obtain ⟨n1, e1, -, w1⟩ := DataW.trod_int u0 g0
  simp at e1
  subst e1
  have g1' : DataW.trod enc Try.prog W 0 (fun _ => true) true n f1.type [v1] = some (xs[1].1, xs[1].2) := g1
  have g2' : DataW.trod enc Try.prog W 0 (fun _ => true) true n f2.type [v2] = some (xs[2].1, xs[2].2) := g2
  obtain ⟨a, l, c, rfl⟩ : ∃ a l c, v1 = .slice a l c := by
    rcases Deep.open_slice u1 g1' with ⟨hcs, _⟩ | ⟨a, l, c, _, _, _, _, hcs, _⟩
    · simp at hcs; exact ⟨_, _, _, hcs⟩
    · simp at hcs; exact ⟨_, _, _, hcs⟩
  obtain ⟨a', l', c', rfl⟩ : ∃ a l c, v2 = .slice a l c := by
    rcases Deep.open_slice u2 g2' with ⟨hcs, _⟩ | ⟨a, l, c, _, _, _, _, hcs, _⟩
    · simp at hcs; exact ⟨_, _, _, hcs⟩
    · simp at hcs; exact ⟨_, _, _, hcs⟩
  obtain ⟨C, h1⟩ := read_ids (v := .slice a l c) u1 ue ub cb ce ⟨a, l, c, rfl⟩ ⟨n, g1'⟩
  obtain ⟨P, h2⟩ := read_ids (v := .slice a' l' c') u2 ue ub cb ce ⟨a', l', c', rfl⟩ ⟨n, g2'⟩
  exact ⟨⟨n1, a, l, c, C, a', l', c', P⟩, rfl, wf_i64 w1, h1, h2⟩
theorem sgD_len (q : SgD) : (sgD q).length = 3 := rfl
theorem read_signeds {t e b e2 : TypeId} {f0 f1 f2 : Field} {v : Value} {d : DataW H} {p : List MemPlace} (ht : Try.prog.underlying t = some (.slice e)) (hs : Try.prog.underlying e = some (.struct #[f0, f1, f2])) (hC : Try.prog.cellsOf e = 3)
    (o0 : f0.offset = 0) (o1 : f1.offset = 1) (o2 : f2.offset = 2) (c0 : Try.prog.cellsOf f0.type = 1) (c1 : Try.prog.cellsOf f1.type = 1) (c2 : Try.prog.cellsOf f2.type = 1)
    (u0 : Try.prog.underlying f0.type = some (.int .i64)) (u1 : Try.prog.underlying f1.type = some (.slice e2)) (u2 : Try.prog.underlying f2.type = some (.slice e2)) (ue : Try.prog.underlying e2 = some (.array 32 b)) (ub : Try.prog.underlying b = some (.int .u8)) (cb : Try.prog.cellsOf b = 1) (ce : Try.prog.cellsOf e2 = 32)
    (hv : ∃ a len cap, v = .slice a len cap) (h : DataW.Trod enc Try.prog W 0 (fun _ => true) true t v d p) : ∃ l : List SgD, SlF W v 3 sgD l ∧ NilC v ∧ ∀ a ∈ l, SgOk W a :=
  read_fixed 3 (by omega) sgD (SgOk W) ht hC (fun a h => rfl) (fun _ _ _ h => read_signed hs hC o0 o1 o2 c0 c1 c2 u0 u1 u2 ue ub cb ce h) hv h
end

theorem flat_chunk : ∀ (l : List (List Int)) (e : Nat) (h : e < l.length), (∀ x ∈ l, IsD x) → (l.flatten.drop (e * 32)).take 32 = l[e]
  | x :: l, 0, _, hD => by
    rw [Nat.zero_mul, List.drop_zero, List.flatten_cons, List.take_left' (hD x List.mem_cons_self).1]; rfl
  | x :: l, e + 1, h, hD => by
    have hx := (hD x List.mem_cons_self).1
    rw [List.flatten_cons, List.drop_append, List.drop_of_length_le (by rw [hx]; omega), List.nil_append, hx, show (e + 1) * 32 - 32 = e * 32 by omega]
    exact flat_chunk l e (by simpa using h) (fun y hy => hD y (List.mem_cons_of_mem _ hy))
theorem rowL_get (g : Nat → List Int) (n i : Nat) (h : i < (rowL g n).length) : (rowL g n)[i] = g i := by
  have h2 : (rowL g n)[i]? = some (g i) := by
    have hi : i < n := by rw [rowL_length] at h; exact h
    unfold rowL
    rw [List.getElem?_map, List.getElem?_range hi]
    rfl
  rw [List.getElem?_eq_getElem h] at h2
  exact Option.some.inj h2
theorem rows_back {n : Int} {C P : List (List Int)} (hC : ∀ x ∈ C, IsD x) (hP : ∀ x ∈ P, IsD x) (lC : C.length = 67) (lP : P.length = 3) :
    rowL (chunkF (bytesM n C P)) 67 = C ∧ (rowL (chunkF (bytesM n C P)) 70).drop 67 = P := by
  have hD : ∀ x ∈ C ++ P, IsD x := fun x hx => by
    rcases List.mem_append.1 hx with h | h
    · exact hC x h
    · exact hP x h
  have e70 : rowL (chunkF (bytesM n C P)) 70 = C ++ P := by
    apply List.ext_getElem
    · rw [rowL_length, List.length_append, lC, lP]
    · intro e h1 h2
      rw [rowL_get, ← flat_chunk (C ++ P) e h2 hD]
      unfold chunkF bytesM
      rw [List.append_assoc, ← List.flatten_append, show 1 + e * 32 = e * 32 + 1 by omega]
      rfl
  refine ⟨?_, by rw [e70, List.drop_left' lC]⟩
  rw [← rowL_take _ 70 67 (by omega), e70, List.take_left' lC]
end Go.Proofs.Ytkbhehnpgnilmaa
