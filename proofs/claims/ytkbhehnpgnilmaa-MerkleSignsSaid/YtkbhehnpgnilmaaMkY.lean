/-
  Package merkle: Climb, walked. Conditions: bytes.
  Package merkle: Sign and Verify, walked. Conditions: bytes.
  Package merkle: Verify, walked. Conditions: bytes.
  The tree of the seed 1 0 0 .., reckoned by the kernel: its root is not what the signature of 2 0 0 .. by leaf 5 leads to from 3 0 0 ... Plain mathematics. Conditions: none.
  Law 08: wakes, walked. Conditions: none.
-/
import Derived.Test.YtkbhehnpgnilmaaMkX
namespace Go.Proofs.Ytkbhehnpgnilmaa
open Go Go.RowKit
set_option linter.unusedSimpArgs false

theorem and1 (v : Nat) (h : v < 8) : bits .and .i64 (v : Int) 1 = ((v % 2 : Nat) : Int) := by
  rcases (show v = 0 ∨ v = 1 ∨ v = 2 ∨ v = 3 ∨ v = 4 ∨ v = 5 ∨ v = 6 ∨ v = 7 by omega) with rfl | rfl | rfl | rfl | rfl | rfl | rfl | rfl <;> decide
theorem isD_climb : ∀ {l : List (List Int)} {x : List Int} {n : Nat}, IsD x → (∀ y ∈ l, IsD y) → IsD (climbM x n l)
  | [], _, _, h, _ => h
  | y :: l, x, n, h, hl => by
    unfold climbM
    refine isD_climb ?_ (fun z hz => hl z (by simp [hz]))
    split
    · exact isD_join h (hl y (by simp))
    · exact isD_join (hl y (by simp)) h

set_option maxRecDepth 100000 in
theorem climb_leaf (x : List Int) (n : Int) (ao : Option Addr) (m c : Nat) (w : World) (h : ¬ (0 ≤ n ∧ n < 8)) :
    Calls Try.prog 68 #[.agg (ofK .u8 x).toArray, .int .i64 n, .slice ao m c] w (DigP w zer32 2) := by
  have HZI := Lib.hid (infoD isD_zer)
  have HH := Lib.hid h
  clear h
  go_enter Try.func68, Try.ntmps68
  go_wp2_with (first
    | (with_reducible refine wpList_box_blk w rfl 23 (.tmp 0) rfl (ofK .u8 x) rfl ?_; intro w1 hb hbel hsz; have HB1 := Lib.hid (And.intro hb (And.intro hbel hsz)); clear hb hbel hsz)
    | ((with_reducible refine wpList_alloc_blk w1 rfl 23 rfl (ofK .u8 zer32) Try.zeroId ?_); intro w2 hb hbel hsz; have HB2 := Lib.hid (PreI.mk (w := w) (HB1.out.1.below hbel HB1.out.1.lt) hb (below_thn HB1.out.2.1 hbel (Nat.le_refl _)) (by have := HB1.out.2.2; omega)); have HZ2 := Lib.hid (show w.heap.size < w1.heap.size from by have := HB1.out.2.2; omega); clear hb hbel hsz))
  refine (leafed_bad n w2 HH.out).mono ?_
  rintro e w3 ⟨rfl, rfl⟩
  go_wp2_with (first
    | (with_reducible refine wpList_build_zer rfl rfl ?_)
    | ((with_reducible refine wpList_store_blk w2 rfl 23 (.tmp 6) (.tmp 14) rfl w1.heap.size 23 (ofK .u8 zer32) (ofK .u8 zer32) HB2.out.res rfl rfl rfl HZI.out (one_ofK _ _) ?_); intro w6 hb hc hs; have H6 := Lib.hid (And.intro hb hc); clear hb hc hs))
  refine bodyPost_ret (results_cellTmp Try.results68 _ _ w1.heap.size _ _ rfl H6.out.1 _ Try.underlying23 rfl HZI.out _ rfl) rfl ⟨rfl, ?_⟩
  exact below_ch HB2.out.bel H6.out.2 (Nat.le_refl _) (fun k hk => by have : k = w1.heap.size := hk; have := HZ2.out; omega)


set_option maxRecDepth 100000 in
theorem climb_len (x : List Int) (n : Int) (ao : Option Addr) (m c : Nat) (w : World) (h0 : 0 ≤ n) (h1 : n < 8) (hm : m ≠ 3) :
    Calls Try.prog 68 #[.agg (ofK .u8 x).toArray, .int .i64 n, .slice ao m c] w (DigP w zer32 3) := by
  have HZI := Lib.hid (infoD isD_zer)
  have hm3 : ((m : Int) == 3) = false := by simp; omega
  go_enter Try.func68, Try.ntmps68
  go_wp2_with (first
    | (with_reducible refine wpList_box_blk w rfl 23 (.tmp 0) rfl (ofK .u8 x) rfl ?_; intro w1 hb hbel hsz; have HB1 := Lib.hid (And.intro hb (And.intro hbel hsz)); clear hb hbel hsz)
    | ((with_reducible refine wpList_alloc_blk w1 rfl 23 rfl (ofK .u8 zer32) Try.zeroId ?_); intro w2 hb hbel hsz; have HB2 := Lib.hid (PreI.mk (w := w) (HB1.out.1.below hbel HB1.out.1.lt) hb (below_thn HB1.out.2.1 hbel (Nat.le_refl _)) (by have := HB1.out.2.2; omega)); have HZ2 := Lib.hid (show w.heap.size < w1.heap.size from by have := HB1.out.2.2; omega); clear hb hbel hsz))
  refine (leafed_ok n w2 h0 h1).mono ?_
  rintro e w3 ⟨rfl, rfl⟩
  go_wp2_with (first
    | (with_reducible refine wpList_build_zer rfl rfl ?_)
    | ((with_reducible refine wpList_store_blk w2 rfl 23 (.tmp 6) (.tmp 19) rfl w1.heap.size 23 (ofK .u8 zer32) (ofK .u8 zer32) HB2.out.res rfl rfl rfl HZI.out (one_ofK _ _) ?_); intro w6 hb hc hs; have H6 := Lib.hid (And.intro hb hc); clear hb hc hs))
  refine bodyPost_ret (results_cellTmp Try.results68 _ _ w1.heap.size _ _ rfl H6.out.1 _ Try.underlying23 rfl HZI.out _ rfl) rfl ⟨rfl, ?_⟩
  exact below_ch HB2.out.bel H6.out.2 (Nat.le_refl _) (fun k hk => by have : k = w1.heap.size := hk; have := HZ2.out; omega)

set_option maxRecDepth 100000 in
set_option maxHeartbeats 2000000 in
theorem climb_ok (x : List Int) (n : Nat) (v : Value) (p : List (List Int)) (w : World) (hx : IsD x) (hn : n < 8) (hv : SlD w v p) (hl : p.length = 3) (hp : ∀ y ∈ p, IsD y) :
    Calls Try.prog 68 #[.agg (ofK .u8 x).toArray, .int .i64 n, v] w (DigP w (climbM x n p) 0) := by
  obtain ⟨ao, c, rfl, hc1, hc2, hcell⟩ := hv
  rw [hl] at hc1 ⊢
  have HV := Lib.hid (And.intro hcell (And.intro hl hp))
  have HN8 := Lib.hid hn
  have HXD := Lib.hid hx
  have HXI := Lib.hid (infoD HXD.out)
  have HXL := Lib.hid (lenD HXD.out isD_zer)
  clear hcell hl hp hn hx
  go_enter Try.func68, Try.ntmps68
  go_wp2_with (first
    | (with_reducible refine wpList_box_blk w rfl 23 (.tmp 0) rfl (ofK .u8 x) rfl ?_; intro w1 hb hbel hsz; have HB1 := Lib.hid (And.intro hb (And.intro hbel hsz)); clear hb hbel hsz)
    | ((with_reducible refine wpList_alloc_blk w1 rfl 23 rfl (ofK .u8 zer32) Try.zeroId ?_); intro w2 hb hbel hsz; have HB2 := Lib.hid (PreI.mk (w := w) (HB1.out.1.below hbel HB1.out.1.lt) hb (below_thn HB1.out.2.1 hbel (Nat.le_refl _)) (by have := HB1.out.2.2; omega)); have HZ2 := Lib.hid (show w.heap.size < w1.heap.size from by have := HB1.out.2.2; omega); clear hb hbel hsz))
  refine (leafed_ok n w2 (by omega) (by have := HN8.out; omega)).mono ?_
  rintro e w3 ⟨rfl, rfl⟩
  go_wp2_with fail
  go_loopw [1, 22] (fun lv i wr => ∃ k q : Nat, k ≤ 3 ∧ i = .int .i64 k ∧ lv = .int .i64 q ∧ Hid (∃ cur, IsD cur ∧ Blk wr w.heap.size 23 (ofK .u8 cur) ∧ Blk wr w1.heap.size 23 (ofK .u8 zer32) ∧ Below w.heap.size w wr ∧ climbM cur q (p.drop k) = climbM x n p ∧ n / 2 ^ k = q)) (fun _ i _ => 3 - (intOf i).toNat)
  case atStart => exact ⟨0, n, by omega, rfl, rfl, Lib.hid ⟨x, HXD.out, HB2.out.box, HB2.out.res, HB2.out.bel, by simp, by simp⟩⟩
  case round =>
    obtain ⟨k, q, hk, rfl, rfl, HR0⟩ := hrel
    obtain ⟨cur, HR⟩ := HR0.out
    have hcD := HR.1
    have HCD := Lib.hid hcD
    have HCI := Lib.hid (infoD hcD)
    replace HR := Lib.hid HR
    clear HR0
    have HQ := Lib.hid HR.out.2.2.2.2.2
    have hq8 : q < 8 := by rw [← HQ.out]; exact Nat.lt_of_le_of_lt (Nat.div_le_self _ _) HN8.out
    by_cases hlt : k < 3
    · have hk32 : (k : Int) < 3 := by omega
      have hk0 : (0 : Int) ≤ (k : Int) := by omega
      have hka : k < p.length := by rw [HV.out.2.1]; exact hlt
      obtain ⟨ag, ago, rfl, hca⟩ := HV.out.1 (by omega)
      have HC := Lib.hid (rangeW_below (hca k hka) HR.out.2.2.2.1)
      have hyD := HV.out.2.2 _ (List.getElem_mem hka)
      have hdr : p.drop k = p[k] :: p.drop (k + 1) := List.drop_eq_getElem_cons hka
      generalize p[k] = y at HC hyD hdr
      have HYD := Lib.hid hyD
      have HYI := Lib.hid (infoD hyD)
      have HYL := Lib.hid (lenD hyD isD_zer)
      have han := and1 q hq8
      have hcl : climbM (if q % 2 = 0 then joinB cur y else joinB y cur) (q / 2) (p.drop (k + 1)) = climbM x n p := by
        have h := HR.out.2.2.2.2.1
        rw [hdr] at h
        exact h
      have HST := Lib.hid hcl
      clear hca hka hdr hyD hcl hcD
      by_cases hev : q % 2 = 0
      · rw [hev] at han
        obtain ⟨z, hz⟩ : ∃ z, joinB cur y = z := ⟨_, rfl⟩
        have hzD : IsD z := by rw [← hz]; exact isD_join HCD.out HYD.out
        have HZE := Lib.hid hz
        have HZD := Lib.hid hzD
        have HZI := Lib.hid (infoD hzD)
        have HZC := Lib.hid (lenD hzD HCD.out)
        have HEND := Lib.hid (show climbM z (q / 2) (p.drop (k + 1)) = climbM x n p from by rw [← HST.out, if_pos hev, hz])
        clear hz hzD
        go_wp2_with (first
          | (with_reducible refine wpList_load_any rfl 23 (.tmp 24) rfl ag (ago + k * 32) rfl (ofK .u8 y) _ HC.out Try.underlying23 rfl HYI.out ?_)
          | ((with_reducible refine wpList_alloc_blk wr rfl 23 rfl (ofK .u8 zer32) Try.zeroId ?_); intro w4 hb hbel hsz; have HA := Lib.hid (And.intro hb hbel); clear hb hbel hsz)
          | ((with_reducible refine wpList_store_blk w4 rfl 23 (.tmp 9) (.tmp 25) rfl wr.heap.size 23 (ofK .u8 zer32) (ofK .u8 y) HA.out.1 rfl rfl HYL.out HYI.out (one_ofK _ _) ?_); intro w5 hb hc hs; have hbw : Below wr.heap.size wr w5 := below_ch HA.out.2 hc (Nat.le_refl _) (fun j hj => by have : j = wr.heap.size := hj; omega); have H5 := Lib.hid (show Blk w5 w.heap.size 23 (ofK .u8 cur) ∧ Blk w5 wr.heap.size 23 (ofK .u8 y) ∧ Blk w5 w1.heap.size 23 (ofK .u8 zer32) ∧ Below w.heap.size w w5 from ⟨HR.out.2.1.below hbw HR.out.2.1.lt, hb, HR.out.2.2.1.below hbw HR.out.2.2.1.lt, below_thn HR.out.2.2.2.1 hbw (Nat.le_refl _)⟩); clear hb hc hs hbw)
          | (with_reducible refine wpList_load_any rfl 23 (.tmp 3) rfl w.heap.size 0 rfl (ofK .u8 cur) _ (rangeW_blk H5.out.1) Try.underlying23 rfl HCI.out ?_)
          | (with_reducible refine wpList_load_any rfl 23 (.tmp 9) rfl wr.heap.size 0 rfl (ofK .u8 y) _ (rangeW_blk H5.out.2.1) Try.underlying23 rfl HYI.out ?_))
        refine (join_any cur y w5 HCD.out HYD.out).mono ?_
        rw [HZE.out]
        rintro e w6 ⟨rfl, hb6⟩
        have H6 := Lib.hid (show Blk w6 w.heap.size 23 (ofK .u8 cur) ∧ Blk w6 w1.heap.size 23 (ofK .u8 zer32) ∧ Below w.heap.size w w6 from ⟨H5.out.1.below hb6 H5.out.1.lt, H5.out.2.2.1.below hb6 H5.out.2.2.1.lt, below_thn H5.out.2.2.2 hb6 (Nat.le_refl _)⟩)
        clear hb6
        go_wp2_with ((with_reducible refine wpList_store_blk w6 rfl 23 (.tmp 3) (.tmp 31) rfl w.heap.size 23 (ofK .u8 cur) (ofK .u8 z) H6.out.1 rfl rfl HZC.out HZI.out (one_ofK _ _) ?_); intro w7 hb hc hs; have H7 := Lib.hid (show Blk w7 w.heap.size 23 (ofK .u8 z) ∧ Blk w7 w1.heap.size 23 (ofK .u8 zer32) ∧ Below w.heap.size w w7 from ⟨hb, H6.out.2.1.keep hc (fun e => by have e : w1.heap.size = w.heap.size := e; have := HZ2.out; omega), below_ch H6.out.2.2 hc (Nat.le_refl _) (fun k hk => by have : k = w.heap.size := hk; omega)⟩); clear hb hc hs)
        go_roundw
        case rel => exact ⟨k + 1, q / 2, by omega, by go_num, rfl, Lib.hid ⟨z, HZD.out, H7.out.1, H7.out.2.1, H7.out.2.2, HEND.out, by rw [← HQ.out, Nat.pow_succ, ← Nat.div_div_eq_div_mul]⟩⟩
        case measure => simp [intOf]; omega
      · have hod : q % 2 = 1 := by omega
        rw [hod] at han
        obtain ⟨z, hz⟩ : ∃ z, joinB y cur = z := ⟨_, rfl⟩
        have hzD : IsD z := by rw [← hz]; exact isD_join HYD.out HCD.out
        have HZE := Lib.hid hz
        have HZD := Lib.hid hzD
        have HZI := Lib.hid (infoD hzD)
        have HZC := Lib.hid (lenD hzD HCD.out)
        have HEND := Lib.hid (show climbM z (q / 2) (p.drop (k + 1)) = climbM x n p from by rw [← HST.out, if_neg hev, hz])
        clear hz hzD
        go_wp2_with (first
          | (with_reducible refine wpList_load_any rfl 23 (.tmp 24) rfl ag (ago + k * 32) rfl (ofK .u8 y) _ HC.out Try.underlying23 rfl HYI.out ?_)
          | ((with_reducible refine wpList_alloc_blk wr rfl 23 rfl (ofK .u8 zer32) Try.zeroId ?_); intro w4 hb hbel hsz; have HA := Lib.hid (And.intro hb hbel); clear hb hbel hsz)
          | ((with_reducible refine wpList_store_blk w4 rfl 23 (.tmp 9) (.tmp 25) rfl wr.heap.size 23 (ofK .u8 zer32) (ofK .u8 y) HA.out.1 rfl rfl HYL.out HYI.out (one_ofK _ _) ?_); intro w5 hb hc hs; have hbw : Below wr.heap.size wr w5 := below_ch HA.out.2 hc (Nat.le_refl _) (fun j hj => by have : j = wr.heap.size := hj; omega); have H5 := Lib.hid (show Blk w5 w.heap.size 23 (ofK .u8 cur) ∧ Blk w5 wr.heap.size 23 (ofK .u8 y) ∧ Blk w5 w1.heap.size 23 (ofK .u8 zer32) ∧ Below w.heap.size w w5 from ⟨HR.out.2.1.below hbw HR.out.2.1.lt, hb, HR.out.2.2.1.below hbw HR.out.2.2.1.lt, below_thn HR.out.2.2.2.1 hbw (Nat.le_refl _)⟩); clear hb hc hs hbw)
          | (with_reducible refine wpList_load_any rfl 23 (.tmp 3) rfl w.heap.size 0 rfl (ofK .u8 cur) _ (rangeW_blk H5.out.1) Try.underlying23 rfl HCI.out ?_)
          | (with_reducible refine wpList_load_any rfl 23 (.tmp 9) rfl wr.heap.size 0 rfl (ofK .u8 y) _ (rangeW_blk H5.out.2.1) Try.underlying23 rfl HYI.out ?_))
        refine (join_any y cur w5 HYD.out HCD.out).mono ?_
        rw [HZE.out]
        rintro e w6 ⟨rfl, hb6⟩
        have H6 := Lib.hid (show Blk w6 w.heap.size 23 (ofK .u8 cur) ∧ Blk w6 w1.heap.size 23 (ofK .u8 zer32) ∧ Below w.heap.size w w6 from ⟨H5.out.1.below hb6 H5.out.1.lt, H5.out.2.2.1.below hb6 H5.out.2.2.1.lt, below_thn H5.out.2.2.2 hb6 (Nat.le_refl _)⟩)
        clear hb6
        go_wp2_with ((with_reducible refine wpList_store_blk w6 rfl 23 (.tmp 3) (.tmp 34) rfl w.heap.size 23 (ofK .u8 cur) (ofK .u8 z) H6.out.1 rfl rfl HZC.out HZI.out (one_ofK _ _) ?_); intro w7 hb hc hs; have H7 := Lib.hid (show Blk w7 w.heap.size 23 (ofK .u8 z) ∧ Blk w7 w1.heap.size 23 (ofK .u8 zer32) ∧ Below w.heap.size w w7 from ⟨hb, H6.out.2.1.keep hc (fun e => by have e : w1.heap.size = w.heap.size := e; have := HZ2.out; omega), below_ch H6.out.2.2 hc (Nat.le_refl _) (fun k hk => by have : k = w.heap.size := hk; omega)⟩); clear hb hc hs)
        go_roundw
        case rel => exact ⟨k + 1, q / 2, by omega, by go_num, rfl, Lib.hid ⟨z, HZD.out, H7.out.1, H7.out.2.1, H7.out.2.2, HEND.out, by rw [← HQ.out, Nat.pow_succ, ← Nat.div_div_eq_div_mul]⟩⟩
        case measure => simp [intOf]; omega
    · obtain rfl : k = 3 := by omega
      have hend : cur = climbM x n p := by
        have h := HR.out.2.2.2.2.1
        rw [List.drop_of_length_le (by rw [HV.out.2.1]; exact Nat.le_refl _)] at h
        exact h
      have HEND := Lib.hid hend
      have HCL := Lib.hid (lenD hcD isD_zer)
      clear hend hcD
      go_wp2_with (first
    | (with_reducible refine wpList_load_any rfl 23 (.tmp 3) rfl w.heap.size 0 rfl (ofK .u8 cur) _ (rangeW_blk HR.out.2.1) Try.underlying23 rfl HCI.out ?_)
    | ((with_reducible refine wpList_store_blk wr rfl 23 (.tmp 6) (.tmp 38) rfl w1.heap.size 23 (ofK .u8 zer32) (ofK .u8 cur) HR.out.2.2.1 rfl rfl HCL.out HCI.out (one_ofK _ _) ?_); intro w9 hb hc hs; have H9 := Lib.hid (And.intro hb hc); clear hb hc hs))
      refine bodyPost_ret (results_cellTmp Try.results68 _ _ w1.heap.size _ _ rfl H9.out.1 _ Try.underlying23 rfl HCI.out _ rfl) rfl ⟨by rw [← HEND.out]; rfl, ?_⟩
      exact below_ch HR.out.2.2.2.1 H9.out.2 (Nat.le_refl _) (fun k hk => by have : k = w1.heap.size := hk; have := HZ2.out; omega)

end Go.Proofs.Ytkbhehnpgnilmaa

namespace Go.Proofs.Ytkbhehnpgnilmaa
open Go Go.RowKit
set_option linter.unusedSimpArgs false

/-- a signature's cells -/
def sgC (n : Int) (vc vp : Value) : List Value := [.int .i64 n, vc, vp]
theorem Try.zeroSg : ∀ w, (zeroValue 90).run Try.prog w = .ok (.agg (sgC 0 (.slice none 0 0) (.slice none 0 0)).toArray) w := fun w => by kernel_rfl
theorem Try.infoSg : (Try.prog.info? 90).map (·.size) = some 3 := by kernel_rfl
theorem sgC_info (n : Int) (vc vp : Value) : (Try.prog.info? 90).map (·.size) = some (sgC n vc vp).length := Try.infoSg
theorem sgC_one (n : Int) (ao bo : Option Addr) (k l c d : Nat) : ∀ v ∈ sgC n (.slice ao k c) (.slice bo l d), v.oneCell' = true := fun v hv => by
  simp only [sgC, List.mem_cons, List.not_mem_nil, or_false] at hv
  rcases hv with rfl | rfl | rfl <;> rfl
theorem isD_pathM {s : List Int} (hs : IsD s) {n : Nat} (hn : n < 8) : ∀ y ∈ pathM s n, IsD y := fun y hy => by
  have get : ∀ (d i : Nat), i < (rowM s d).length → IsD ((rowM s d).getD i []) := fun d i hi => by
    rw [List.getD_eq_getElem?_getD, List.getElem?_eq_getElem hi]
    exact rowM_D hs d _ (List.getElem_mem hi)
  have l0 := rowM_length s 0 (by omega)
  have l1 := rowM_length s 1 (by omega)
  have l2 := rowM_length s 2 (by omega)
  simp at l0 l1 l2
  have h0 := xor1_lt n 8 hn (.inl rfl)
  have h1 := xor1_lt (n / 2) 4 (by omega) (.inr (.inl rfl))
  have h2 := xor1_lt (n / 4) 2 (by omega) (.inr (.inr rfl))
  simp only [pathM, List.mem_cons, List.not_mem_nil, or_false] at hy
  rcases hy with rfl | rfl | rfl
  · exact get 0 _ (by omega)
  · exact get 1 _ (by omega)
  · exact get 2 _ (by omega)

def Sign8P (w : World) (n : Int) (ch pt : List (List Int)) (e : Ending) (w' : World) : Prop := ∃ so sc po pc, e = .returned (.tuple #[.agg (sgC n (.slice so ch.length sc) (.slice po pt.length pc)).toArray, .int .i64 0]) ∧ SlD w' (.slice so ch.length sc) ch ∧ SlD w' (.slice po pt.length pc) pt ∧ Below w.heap.size w w'

set_option maxRecDepth 100000 in
set_option maxHeartbeats 2000000 in
theorem sign8_ok (s m : List Int) (n : Nat) (w : World) (hs : IsD s) (hm : IsD m) (hn : n < 8) :
    Calls Try.prog 70 #[.agg (ofK .u8 s).toArray, .agg (ofK .u8 m).toArray, .int .i64 n] w (Sign8P w n (sigOf (leafS s n) m) (pathM s n)) := by
  have HSD := Lib.hid hs
  have HSI := Lib.hid (infoD HSD.out)
  have HSL := Lib.hid (lenD HSD.out isD_zer)
  have HMD := Lib.hid hm
  have HMI := Lib.hid (infoD HMD.out)
  have HML := Lib.hid (lenD HMD.out isD_zer)
  have HN8 := Lib.hid hn
  obtain ⟨y, hy⟩ : ∃ y, leafS s n = y := ⟨_, rfl⟩
  have hyD : IsD y := by rw [← hy]; exact isD_leafS HSD.out _
  have HYD := Lib.hid hyD
  have HYI := Lib.hid (infoD HYD.out)
  have HYL := Lib.hid (lenD HYD.out isD_zer)
  have HYE := Lib.hid hy
  rw [hy]
  clear hs hm hn hy hyD
  go_enter Try.func70, Try.ntmps70
  go_wp2_with (first
    | (with_reducible refine wpList_box_blk w rfl 23 (.tmp 0) rfl (ofK .u8 s) rfl ?_; intro w1 hb hbel hsz; have HB1 := Lib.hid (And.intro hb (And.intro hbel hsz)); clear hb hbel hsz)
    | (with_reducible refine wpList_box_blk w1 rfl 23 (.tmp 1) rfl (ofK .u8 m) rfl ?_; intro w2 hb hbel hsz; have HB2 := Lib.hid (show Blk w2 w.heap.size 23 (ofK .u8 s) ∧ Blk w2 w1.heap.size 23 (ofK .u8 m) ∧ Below w.heap.size w w2 ∧ w1.heap.size < w2.heap.size from ⟨HB1.out.1.below hbel HB1.out.1.lt, hb, below_thn HB1.out.2.1 hbel (Nat.le_refl _), by omega⟩); clear hb hbel hsz)
    | ((with_reducible refine wpList_alloc_blk w2 rfl 90 rfl (sgC 0 (.slice none 0 0) (.slice none 0 0)) Try.zeroSg ?_); intro w3 hb hbel hsz; have H3 := Lib.hid (show w3.rangeAt w.heap.size 0 (ofK .u8 s) ∧ w3.rangeAt w1.heap.size 0 (ofK .u8 m) ∧ Blk w3 w2.heap.size 90 (sgC 0 (.slice none 0 0) (.slice none 0 0)) ∧ Below w.heap.size w w3 from ⟨rangeW_below (rangeW_blk HB2.out.1) hbel, rangeW_below (rangeW_blk HB2.out.2.1) hbel, hb, below_thn HB2.out.2.2.1 hbel (Nat.le_refl _)⟩); have HZ := Lib.hid (show w.heap.size ≤ w2.heap.size from HB2.out.2.2.1.size); clear hb hbel hsz)
    | (with_reducible refine wpList_load_any rfl 23 (.tmp 3) rfl w.heap.size 0 rfl (ofK .u8 s) _ H3.out.1 Try.underlying23 rfl HSI.out ?_))
  refine (seed_ok s n w3 HSD.out (by omega) (by have := HN8.out; omega)).mono ?_
  rw [HYE.out]
  rintro e w4 ⟨rfl, hb4⟩
  have H4 := Lib.hid (show w4.rangeAt w.heap.size 0 (ofK .u8 s) ∧ w4.rangeAt w1.heap.size 0 (ofK .u8 m) ∧ Blk w4 w2.heap.size 90 (sgC 0 (.slice none 0 0) (.slice none 0 0)) ∧ Below w.heap.size w w4 from ⟨rangeW_below H3.out.1 hb4, rangeW_below H3.out.2.1 hb4, H3.out.2.2.1.below hb4 H3.out.2.2.1.lt, below_thn H3.out.2.2.2 hb4 (Nat.le_refl _)⟩)
  clear hb4
  go_wp2_with (first
    | ((with_reducible refine wpList_alloc_blk w4 rfl 23 rfl (ofK .u8 zer32) Try.zeroId ?_); intro w5 hb hbel hsz; have HAH6 := Lib.hid (And.intro hb hbel); clear hb hbel hsz)
    | ((with_reducible refine wpList_store_blk w5 rfl 23 (.tmp 8) (.tmp 16) rfl w4.heap.size 23 (ofK .u8 zer32) (ofK .u8 y) HAH6.out.1 rfl rfl HYL.out HYI.out (one_ofK _ _) ?_); intro w6 hb hc hs; have HBH6 := Lib.hid (show w6.rangeAt w4.heap.size 0 (ofK .u8 y) ∧ Below w4.heap.size w4 w6 from ⟨rangeW_blk hb, below_ch HAH6.out.2 hc (Nat.le_refl _) (fun j hj => by have : j = w4.heap.size := hj; omega)⟩); have H6 := Lib.hid (show w6.rangeAt w.heap.size 0 (ofK .u8 s) ∧ w6.rangeAt w1.heap.size 0 (ofK .u8 m) ∧ Blk w6 w2.heap.size 90 (sgC 0 (.slice none 0 0) (.slice none 0 0)) ∧ w6.rangeAt w4.heap.size 0 (ofK .u8 y) ∧ Below w.heap.size w w6 from ⟨rangeW_below H4.out.1 HBH6.out.2, rangeW_below H4.out.2.1 HBH6.out.2, H4.out.2.2.1.below HBH6.out.2 H4.out.2.2.1.lt, HBH6.out.1, below_thn H4.out.2.2.2 HBH6.out.2 (Nat.le_refl _)⟩); clear hb hc hs)
    | (with_reducible refine wpList_load_any rfl 23 (.tmp 3) rfl w.heap.size 0 rfl (ofK .u8 s) _ H6.out.1 Try.underlying23 rfl HSI.out ?_))
  refine (path_ok s n w6 HSD.out HN8.out).mono ?_
  rintro e w7 ⟨po, pc, rfl, hown, hb7⟩
  have H7 := Lib.hid (show w7.rangeAt w.heap.size 0 (ofK .u8 s) ∧ w7.rangeAt w1.heap.size 0 (ofK .u8 m) ∧ Blk w7 w2.heap.size 90 (sgC 0 (.slice none 0 0) (.slice none 0 0)) ∧ w7.rangeAt w4.heap.size 0 (ofK .u8 y) ∧ SlD w7 (.slice po 3 pc) (pathM s n) ∧ Below w.heap.size w w7 from ⟨rangeW_below H6.out.1 hb7, rangeW_below H6.out.2.1 hb7, H6.out.2.2.1.below hb7 H6.out.2.2.1.lt, rangeW_below H6.out.2.2.2.1 hb7, SlD.of_owns hown rfl (isD_pathM HSD.out HN8.out), below_thn H6.out.2.2.2.2 hb7 (Nat.le_refl _)⟩)
  clear hown hb7
  go_wp2_with (first
    | (with_reducible refine wpList_load_any rfl 23 (.tmp 8) rfl w4.heap.size 0 rfl (ofK .u8 y) _ H7.out.2.2.2.1 Try.underlying23 rfl HYI.out ?_)
    | (with_reducible refine wpList_load_any rfl 23 (.tmp 4) rfl w1.heap.size 0 rfl (ofK .u8 m) _ H7.out.2.1 Try.underlying23 rfl HMI.out ?_))
  refine (sign_any y m w7 HYD.out HMD.out).mono ?_
  rintro e w8 ⟨so, sc, rfl, hown, hb8⟩
  have H8 := Lib.hid (show w8.rangeAt w.heap.size 0 (ofK .u8 s) ∧ w8.rangeAt w1.heap.size 0 (ofK .u8 m) ∧ Blk w8 w2.heap.size 90 (sgC 0 (.slice none 0 0) (.slice none 0 0)) ∧ w8.rangeAt w4.heap.size 0 (ofK .u8 y) ∧ SlD w8 (.slice po 3 pc) (pathM s n) ∧ SlD w8 (.slice so 67 sc) (sigOf y m) ∧ Below w.heap.size w w8 from ⟨rangeW_below H7.out.1 hb8, rangeW_below H7.out.2.1 hb8, H7.out.2.2.1.below hb8 H7.out.2.2.1.lt, rangeW_below H7.out.2.2.2.1 hb8, H7.out.2.2.2.2.1.below hb8, SlD.of_owns hown (sigOf_length _ _).symm (sigOf_D HYD.out _), below_thn H7.out.2.2.2.2.2 hb8 (Nat.le_refl _)⟩)
  clear hown hb8
  go_wp2_with ((with_reducible refine wpList_store_blk w8 rfl 90 (.tmp 6) (.tmp 33) rfl w2.heap.size 90 (sgC 0 (.slice none 0 0) (.slice none 0 0)) (sgC n (.slice so 67 sc) (.slice po 3 pc)) H8.out.2.2.1 rfl rfl rfl (sgC_info _ _ _) (sgC_one _ _ _ _ _ _ _) ?_); intro w9 hb hc hs; have H9 := Lib.hid (And.intro hb hc); clear hb hc hs)
  refine bodyPost_ret (results_cellTmp Try.results70 _ _ w2.heap.size _ _ rfl H9.out.1 _ Try.underlying90 rfl (sgC_info _ _ _) _ rfl) rfl ?_
  have hne : ∀ (v : Value) (l : List (List Int)), SlD w8 v l → (∀ x ∈ l, IsD x) → SlD w9 v l := fun v l h hD => by
    obtain ⟨ao, c, e, h2, h3, h4⟩ := h
    refine ⟨ao, c, e, h2, h3, fun h0 => ?_⟩
    obtain ⟨g, o, h5, h6⟩ := h4 h0
    refine ⟨g, o, h5, fun k hk => rangeW_ch (h6 k hk) H9.out.2 (fun e => ?_)⟩
    have e : g = w2.heap.size := e
    subst e
    have h7 := h6 k hk 0 _ (by rw [get_ofK _ _ _ (by rw [(hD _ (List.getElem_mem hk)).1]; omega)])
    rw [H8.out.2.2.1.cell] at h7
    generalize o + k * 32 + 0 = i at h7
    match i, h7 with
    | 0, h7 => simp [sgC] at h7
    | 1, h7 => simp [sgC] at h7
    | 2, h7 => simp [sgC] at h7
    | j + 3, h7 => simp [sgC] at h7
  exact ⟨so, sc, po, pc, rfl, hne _ _ H8.out.2.2.2.2.2.1 (sigOf_D HYD.out _), hne _ _ H8.out.2.2.2.2.1 (isD_pathM HSD.out HN8.out), below_ch H8.out.2.2.2.2.2.2 H9.out.2 (Nat.le_refl _) (fun k hk => by have : k = w2.heap.size := hk; have := HZ.out; omega)⟩

set_option maxRecDepth 100000 in
set_option maxHeartbeats 2000000 in
theorem sign8_bad (s m : List Int) (n : Int) (w : World) (hs : IsD s) (h : ¬ (0 ≤ n ∧ n < 8)) :
    Calls Try.prog 70 #[.agg (ofK .u8 s).toArray, .agg (ofK .u8 m).toArray, .int .i64 n] w (fun e w' => e = .returned (.tuple #[.agg (sgC 0 (.slice none 0 0) (.slice none 0 0)).toArray, .int .i64 2]) ∧ Below w.heap.size w w') := by
  have HSI := Lib.hid (infoD hs)
  have HH := Lib.hid h
  have HZI := Lib.hid (infoD isD_zer)
  clear hs h
  go_enter Try.func70, Try.ntmps70
  go_wp2_with (first
    | (with_reducible refine wpList_box_blk w rfl 23 (.tmp 0) rfl (ofK .u8 s) rfl ?_; intro w1 hb hbel hsz; have HB1 := Lib.hid (And.intro hb (And.intro hbel hsz)); clear hb hbel hsz)
    | (with_reducible refine wpList_box_blk w1 rfl 23 (.tmp 1) rfl (ofK .u8 m) rfl ?_; intro w2 hb hbel hsz; have HB2 := Lib.hid (show Blk w2 w.heap.size 23 (ofK .u8 s) ∧ Blk w2 w1.heap.size 23 (ofK .u8 m) ∧ Below w.heap.size w w2 ∧ w1.heap.size < w2.heap.size from ⟨HB1.out.1.below hbel HB1.out.1.lt, hb, below_thn HB1.out.2.1 hbel (Nat.le_refl _), by omega⟩); clear hb hbel hsz)
    | ((with_reducible refine wpList_alloc_blk w2 rfl 90 rfl (sgC 0 (.slice none 0 0) (.slice none 0 0)) Try.zeroSg ?_); intro w3 hb hbel hsz; have H3 := Lib.hid (show w3.rangeAt w.heap.size 0 (ofK .u8 s) ∧ w3.rangeAt w1.heap.size 0 (ofK .u8 m) ∧ Blk w3 w2.heap.size 90 (sgC 0 (.slice none 0 0) (.slice none 0 0)) ∧ Below w.heap.size w w3 from ⟨rangeW_below (rangeW_blk HB2.out.1) hbel, rangeW_below (rangeW_blk HB2.out.2.1) hbel, hb, below_thn HB2.out.2.2.1 hbel (Nat.le_refl _)⟩); have HZ := Lib.hid (show w.heap.size ≤ w2.heap.size from HB2.out.2.2.1.size); clear hb hbel hsz)
    | (with_reducible refine wpList_load_any rfl 23 (.tmp 3) rfl w.heap.size 0 rfl (ofK .u8 s) _ H3.out.1 Try.underlying23 rfl HSI.out ?_))
  refine (seed_bad s n w3 HH.out).mono ?_
  rintro e w4 ⟨rfl, hb4⟩
  have H4 := Lib.hid (show w4.rangeAt w.heap.size 0 (ofK .u8 s) ∧ w4.rangeAt w1.heap.size 0 (ofK .u8 m) ∧ Blk w4 w2.heap.size 90 (sgC 0 (.slice none 0 0) (.slice none 0 0)) ∧ Below w.heap.size w w4 from ⟨rangeW_below H3.out.1 hb4, rangeW_below H3.out.2.1 hb4, H3.out.2.2.1.below hb4 H3.out.2.2.1.lt, below_thn H3.out.2.2.2 hb4 (Nat.le_refl _)⟩)
  clear hb4
  go_wp2_with (first
    | ((with_reducible refine wpList_alloc_blk w4 rfl 23 rfl (ofK .u8 zer32) Try.zeroId ?_); intro w5 hb hbel hsz; have HAH6 := Lib.hid (And.intro hb hbel); clear hb hbel hsz)
    | ((with_reducible refine wpList_store_blk w5 rfl 23 (.tmp 8) (.tmp 16) rfl w4.heap.size 23 (ofK .u8 zer32) (ofK .u8 zer32) HAH6.out.1 rfl rfl rfl HZI.out (one_ofK _ _) ?_); intro w6 hb hc hs; have HBH6 := Lib.hid (show w6.rangeAt w4.heap.size 0 (ofK .u8 zer32) ∧ Below w4.heap.size w4 w6 from ⟨rangeW_blk hb, below_ch HAH6.out.2 hc (Nat.le_refl _) (fun j hj => by have : j = w4.heap.size := hj; omega)⟩); have H6 := Lib.hid (show w6.rangeAt w.heap.size 0 (ofK .u8 s) ∧ w6.rangeAt w1.heap.size 0 (ofK .u8 m) ∧ Blk w6 w2.heap.size 90 (sgC 0 (.slice none 0 0) (.slice none 0 0)) ∧ w6.rangeAt w4.heap.size 0 (ofK .u8 zer32) ∧ Below w.heap.size w w6 from ⟨rangeW_below H4.out.1 HBH6.out.2, rangeW_below H4.out.2.1 HBH6.out.2, H4.out.2.2.1.below HBH6.out.2 H4.out.2.2.1.lt, HBH6.out.1, below_thn H4.out.2.2.2 HBH6.out.2 (Nat.le_refl _)⟩); clear hb hc hs)
    | ((with_reducible refine wpList_store_blk w6 rfl 90 (.tmp 6) (.tmp 20) rfl w2.heap.size 90 (sgC 0 (.slice none 0 0) (.slice none 0 0)) (sgC 0 (.slice none 0 0) (.slice none 0 0)) H6.out.2.2.1 rfl rfl rfl (sgC_info _ _ _) (sgC_one _ _ _ _ _ _ _) ?_); intro w9 hb hc hs; have H9 := Lib.hid (And.intro hb hc); clear hb hc hs))
  refine bodyPost_ret (results_cellTmp Try.results70 _ _ w2.heap.size _ _ rfl H9.out.1 _ Try.underlying90 rfl (sgC_info _ _ _) _ rfl) rfl ?_
  exact ⟨rfl, below_ch H6.out.2.2.2.2 H9.out.2 (Nat.le_refl _) (fun k hk => by have : k = w2.heap.size := hk; have := HZ.out; omega)⟩

end Go.Proofs.Ytkbhehnpgnilmaa

namespace Go.Proofs.Ytkbhehnpgnilmaa
open Go Go.RowKit
set_option linter.unusedSimpArgs false

/-- may a signature be -/
def RightM (n : Int) (ch pt : List (List Int)) : Prop := (0 ≤ n ∧ n < 8) ∧ ch.length = 67 ∧ pt.length = 3
/-- is a signature the root's -/
instance (n : Int) (ch pt : List (List Int)) : Decidable (RightM n ch pt) := inferInstanceAs (Decidable ((0 ≤ n ∧ n < 8) ∧ ch.length = 67 ∧ pt.length = 3))
def verM (r m : List Int) (n : Int) (ch pt : List (List Int)) : Bool := decide (RightM n ch pt ∧ climbM (recB m ch) n.toNat pt = r)
theorem verM_ok {r m : List Int} {n : Int} {ch pt : List (List Int)} (h : RightM n ch pt) : verM r m n ch pt = decide (climbM (recB m ch) n.toNat pt = r) := by
  unfold verM
  by_cases h2 : climbM (recB m ch) n.toNat pt = r
  · rw [decide_eq_true h2]; exact decide_eq_true ⟨h, h2⟩
  · rw [decide_eq_false h2]; exact decide_eq_false (fun k => h2 k.2)
theorem verM_bad {r m : List Int} {n : Int} {ch pt : List (List Int)} (h : ¬ RightM n ch pt) : verM r m n ch pt = false := by
  unfold verM
  exact decide_eq_false (fun k => h k.1)

set_option maxRecDepth 100000 in
set_option maxHeartbeats 4000000 in
theorem verify8_any (r m : List Int) (n : Int) (co po : Option Addr) (cc pc : Nat) (ch pt : List (List Int)) (w : World) (hr : IsD r) (hm : IsD m) (hc : SlD w (.slice co ch.length cc) ch) (hp : SlD w (.slice po pt.length pc) pt) (hcD : ∀ x ∈ ch, IsD x) (hpD : ∀ x ∈ pt, IsD x) :
    Calls Try.prog 75 #[.agg (ofK .u8 r).toArray, .agg (ofK .u8 m).toArray, .agg (sgC n (.slice co ch.length cc) (.slice po pt.length pc)).toArray] w (fun e w' => e = .returned (.bool (verM r m n ch pt)) ∧ Below w.heap.size w w') := by
  have HRD := Lib.hid hr
  have HRI := Lib.hid (infoD HRD.out)
  have HRL := Lib.hid (lenD HRD.out isD_zer)
  have HMD := Lib.hid hm
  have HMI := Lib.hid (infoD HMD.out)
  have HML := Lib.hid (lenD HMD.out isD_zer)
  have HS := Lib.hid (And.intro hc hp)
  have HCD := Lib.hid hcD
  have HPD := Lib.hid hpD
  obtain ⟨cl, hcl⟩ : ∃ k, ch.length = k := ⟨_, rfl⟩
  obtain ⟨pl, hpl⟩ : ∃ k, pt.length = k := ⟨_, rfl⟩
  have HCL := Lib.hid hcl
  have HPL := Lib.hid hpl
  rw [hcl, hpl] at HS ⊢
  clear hr hm hc hp hcD hpD hcl hpl
  go_enter Try.func75, Try.ntmps75
  go_wp2_with (first
    | (with_reducible refine wpList_box_blk w rfl 23 (.tmp 0) rfl (ofK .u8 r) rfl ?_; intro w1 hb hbel hsz; have HB1 := Lib.hid (And.intro hb hbel); clear hb hbel hsz)
    | (with_reducible refine wpList_box_blk w1 rfl 23 (.tmp 1) rfl (ofK .u8 m) rfl ?_; intro w2 hb hbel hsz; have HB2 := Lib.hid (show Blk w2 w.heap.size 23 (ofK .u8 r) ∧ Blk w2 w1.heap.size 23 (ofK .u8 m) ∧ Below w.heap.size w w2 from ⟨HB1.out.1.below hbel HB1.out.1.lt, hb, below_thn HB1.out.2 hbel (Nat.le_refl _)⟩); clear hb hbel hsz)
    | ((with_reducible refine wpList_box_blk w2 rfl 90 (.tmp 2) rfl (sgC n (.slice co cl cc) (.slice po pl pc)) rfl ?_); intro w3 hb hbel hsz; have H3 := Lib.hid (show w3.rangeAt w.heap.size 0 (ofK .u8 r) ∧ w3.rangeAt w1.heap.size 0 (ofK .u8 m) ∧ w3.cell? ⟨w2.heap.size, 0, none⟩ = some (.int .i64 n) ∧ w3.cell? ⟨w2.heap.size, 1, none⟩ = some (.slice co cl cc) ∧ w3.cell? ⟨w2.heap.size, 2, none⟩ = some (.slice po pl pc) ∧ SlD w3 (.slice co cl cc) ch ∧ SlD w3 (.slice po pl pc) pt ∧ Below w.heap.size w w3 from ⟨rangeW_below (rangeW_blk HB2.out.1) hbel, rangeW_below (rangeW_blk HB2.out.2.1) hbel, hb.cell 0, hb.cell 1, hb.cell 2, HS.out.1.below (below_thn HB2.out.2.2 hbel (Nat.le_refl _)), HS.out.2.below (below_thn HB2.out.2.2 hbel (Nat.le_refl _)), below_thn HB2.out.2.2 hbel (Nat.le_refl _)⟩); have c1 := H3.out.2.2.2.1; clear hb hbel hsz)
    | (with_reducible refine wpList_load_any rfl 23 (.tmp 4) rfl w1.heap.size 0 rfl (ofK .u8 m) _ H3.out.2.1 Try.underlying23 rfl HMI.out ?_))
  by_cases h67 : cl = 67
  · subst h67
    obtain ⟨y, hy⟩ : ∃ y, recB m ch = y := ⟨_, rfl⟩
    have hyD : IsD y := by rw [← hy]; exact isD_rec HCD.out HCL.out
    have HYD := Lib.hid hyD
    have HYI := Lib.hid (infoD HYD.out)
    have HYL := Lib.hid (lenD HYD.out isD_zer)
    have HYE := Lib.hid hy
    clear hy hyD
    refine (recover_ok m _ ch w3 HMD.out H3.out.2.2.2.2.2.1 HCL.out HCD.out).mono ?_
    rw [HYE.out]
    rintro e w4 ⟨rfl, hb4⟩
    have H4 := Lib.hid (show w4.rangeAt w.heap.size 0 (ofK .u8 r) ∧ w4.rangeAt w1.heap.size 0 (ofK .u8 m) ∧ w4.cell? ⟨w2.heap.size, 0, none⟩ = some (.int .i64 n) ∧ w4.cell? ⟨w2.heap.size, 1, none⟩ = some (.slice co 67 cc) ∧ w4.cell? ⟨w2.heap.size, 2, none⟩ = some (.slice po pl pc) ∧ SlD w4 (.slice co 67 cc) ch ∧ SlD w4 (.slice po pl pc) pt ∧ Below w.heap.size w w4 from ⟨rangeW_below H3.out.1 hb4, rangeW_below H3.out.2.1 hb4, (hb4.cell (p := ⟨w2.heap.size, 0, none⟩) (block_of_cell H3.out.2.2.1)).trans H3.out.2.2.1, (hb4.cell (p := ⟨w2.heap.size, 1, none⟩) (block_of_cell H3.out.2.2.2.1)).trans H3.out.2.2.2.1, (hb4.cell (p := ⟨w2.heap.size, 2, none⟩) (block_of_cell H3.out.2.2.2.2.1)).trans H3.out.2.2.2.2.1, H3.out.2.2.2.2.2.1.below hb4, H3.out.2.2.2.2.2.2.1.below hb4, below_thn H3.out.2.2.2.2.2.2.2 hb4 (Nat.le_refl _)⟩)
    clear hb4 c1
    go_wp2_with (first
    | ((with_reducible refine wpList_alloc_blk w4 rfl 23 rfl (ofK .u8 zer32) Try.zeroId ?_); intro w5 hb hbel hsz; have HAH6 := Lib.hid (And.intro hb hbel); clear hb hbel hsz)
    | ((with_reducible refine wpList_store_blk w5 rfl 23 (.tmp 7) (.tmp 15) rfl w4.heap.size 23 (ofK .u8 zer32) (ofK .u8 y) HAH6.out.1 rfl rfl HYL.out HYI.out (one_ofK _ _) ?_); intro w6 hb hc hs; have HBH6 := Lib.hid (show w6.rangeAt w4.heap.size 0 (ofK .u8 y) ∧ Below w4.heap.size w4 w6 from ⟨rangeW_blk hb, below_ch HAH6.out.2 hc (Nat.le_refl _) (fun j hj => by have : j = w4.heap.size := hj; omega)⟩); have H6 := Lib.hid (show w6.rangeAt w.heap.size 0 (ofK .u8 r) ∧ w6.rangeAt w1.heap.size 0 (ofK .u8 m) ∧ w6.cell? ⟨w2.heap.size, 0, none⟩ = some (.int .i64 n) ∧ w6.cell? ⟨w2.heap.size, 1, none⟩ = some (.slice co 67 cc) ∧ w6.cell? ⟨w2.heap.size, 2, none⟩ = some (.slice po pl pc) ∧ SlD w6 (.slice co 67 cc) ch ∧ SlD w6 (.slice po pl pc) pt ∧ w6.rangeAt w4.heap.size 0 (ofK .u8 y) ∧ Below w.heap.size w w6 from ⟨rangeW_below H4.out.1 HBH6.out.2, rangeW_below H4.out.2.1 HBH6.out.2, (HBH6.out.2.cell (p := ⟨w2.heap.size, 0, none⟩) (block_of_cell H4.out.2.2.1)).trans H4.out.2.2.1, (HBH6.out.2.cell (p := ⟨w2.heap.size, 1, none⟩) (block_of_cell H4.out.2.2.2.1)).trans H4.out.2.2.2.1, (HBH6.out.2.cell (p := ⟨w2.heap.size, 2, none⟩) (block_of_cell H4.out.2.2.2.2.1)).trans H4.out.2.2.2.2.1, H4.out.2.2.2.2.2.1.below HBH6.out.2, H4.out.2.2.2.2.2.2.1.below HBH6.out.2, HBH6.out.1, below_thn H4.out.2.2.2.2.2.2.2 HBH6.out.2 (Nat.le_refl _)⟩); have cb0 := H6.out.2.2.1; have cb1 := H6.out.2.2.2.1; have cb2 := H6.out.2.2.2.2.1; clear hb hc hs)
    | (with_reducible refine wpList_load_any rfl 23 (.tmp 7) rfl w4.heap.size 0 rfl (ofK .u8 y) _ H6.out.2.2.2.2.2.2.2.1 Try.underlying23 rfl HYI.out ?_))
    by_cases hn : 0 ≤ n ∧ n < 8
    · by_cases h3 : pl = 3
      · subst h3
        obtain ⟨k, rfl⟩ : ∃ k : Nat, n = k := ⟨n.toNat, by omega⟩
        have hk8 : k < 8 := by omega
        obtain ⟨z, hz⟩ : ∃ z, climbM y k pt = z := ⟨_, rfl⟩
        have hzD : IsD z := by rw [← hz]; exact isD_climb HYD.out HPD.out
        have HZD := Lib.hid hzD
        have HZI := Lib.hid (infoD HZD.out)
        have HZL := Lib.hid (lenD HZD.out isD_zer)
        have HZE := Lib.hid hz
        obtain ⟨b, hb⟩ : ∃ b, decide (z = r) = b := ⟨_, rfl⟩
        have he := fun w => eq_ids w z r b hzD HRD.out hb
        have HVE := Lib.hid (show verM r m k ch pt = b from by rw [verM_ok ⟨hn, HCL.out, HPL.out⟩, HYE.out, Int.toNat_natCast, hz, hb])
        clear hz hzD hb hn
        refine (climb_ok y k _ pt w6 HYD.out hk8 H6.out.2.2.2.2.2.2.1 HPL.out HPD.out).mono ?_
        rw [HZE.out]
        rintro e w7 ⟨rfl, hb7⟩
        have H7 := Lib.hid (show w7.rangeAt w.heap.size 0 (ofK .u8 r) ∧ w7.rangeAt w1.heap.size 0 (ofK .u8 m) ∧ w7.cell? ⟨w2.heap.size, 0, none⟩ = some (.int .i64 k) ∧ w7.cell? ⟨w2.heap.size, 1, none⟩ = some (.slice co 67 cc) ∧ w7.cell? ⟨w2.heap.size, 2, none⟩ = some (.slice po 3 pc) ∧ SlD w7 (.slice co 67 cc) ch ∧ SlD w7 (.slice po 3 pc) pt ∧ w7.rangeAt w4.heap.size 0 (ofK .u8 y) ∧ Below w.heap.size w w7 from ⟨rangeW_below H6.out.1 hb7, rangeW_below H6.out.2.1 hb7, (hb7.cell (p := ⟨w2.heap.size, 0, none⟩) (block_of_cell H6.out.2.2.1)).trans H6.out.2.2.1, (hb7.cell (p := ⟨w2.heap.size, 1, none⟩) (block_of_cell H6.out.2.2.2.1)).trans H6.out.2.2.2.1, (hb7.cell (p := ⟨w2.heap.size, 2, none⟩) (block_of_cell H6.out.2.2.2.2.1)).trans H6.out.2.2.2.2.1, H6.out.2.2.2.2.2.1.below hb7, H6.out.2.2.2.2.2.2.1.below hb7, rangeW_below H6.out.2.2.2.2.2.2.2.1 hb7, below_thn H6.out.2.2.2.2.2.2.2.2 hb7 (Nat.le_refl _)⟩)
        clear hb7
        go_wp2_with (first
    | ((with_reducible refine wpList_alloc_blk w7 rfl 23 rfl (ofK .u8 zer32) Try.zeroId ?_); intro w8 hb hbel hsz; have HAH9 := Lib.hid (And.intro hb hbel); clear hb hbel hsz)
    | ((with_reducible refine wpList_store_blk w8 rfl 23 (.tmp 9) (.tmp 26) rfl w7.heap.size 23 (ofK .u8 zer32) (ofK .u8 z) HAH9.out.1 rfl rfl HZL.out HZI.out (one_ofK _ _) ?_); intro w9 hb hc hs; have HBH9 := Lib.hid (show w9.rangeAt w7.heap.size 0 (ofK .u8 z) ∧ Below w7.heap.size w7 w9 from ⟨rangeW_blk hb, below_ch HAH9.out.2 hc (Nat.le_refl _) (fun j hj => by have : j = w7.heap.size := hj; omega)⟩); have H9 := Lib.hid (show w9.rangeAt w.heap.size 0 (ofK .u8 r) ∧ w9.rangeAt w1.heap.size 0 (ofK .u8 m) ∧ w9.cell? ⟨w2.heap.size, 0, none⟩ = some (.int .i64 k) ∧ w9.cell? ⟨w2.heap.size, 1, none⟩ = some (.slice co 67 cc) ∧ w9.cell? ⟨w2.heap.size, 2, none⟩ = some (.slice po 3 pc) ∧ SlD w9 (.slice co 67 cc) ch ∧ SlD w9 (.slice po 3 pc) pt ∧ w9.rangeAt w4.heap.size 0 (ofK .u8 y) ∧ w9.rangeAt w7.heap.size 0 (ofK .u8 z) ∧ Below w.heap.size w w9 from ⟨rangeW_below H7.out.1 HBH9.out.2, rangeW_below H7.out.2.1 HBH9.out.2, (HBH9.out.2.cell (p := ⟨w2.heap.size, 0, none⟩) (block_of_cell H7.out.2.2.1)).trans H7.out.2.2.1, (HBH9.out.2.cell (p := ⟨w2.heap.size, 1, none⟩) (block_of_cell H7.out.2.2.2.1)).trans H7.out.2.2.2.1, (HBH9.out.2.cell (p := ⟨w2.heap.size, 2, none⟩) (block_of_cell H7.out.2.2.2.2.1)).trans H7.out.2.2.2.2.1, H7.out.2.2.2.2.2.1.below HBH9.out.2, H7.out.2.2.2.2.2.2.1.below HBH9.out.2, rangeW_below H7.out.2.2.2.2.2.2.2.1 HBH9.out.2, HBH9.out.1, below_thn H7.out.2.2.2.2.2.2.2.2 HBH9.out.2 (Nat.le_refl _)⟩); clear hb hc hs)
    | ((with_reducible refine wpList_load_want ?_ 23 (.tmp 9) rfl w7.heap.size 0 rfl (ofK .u8 z) _ H9.out.2.2.2.2.2.2.2.2.1 Try.underlying23 rfl HZI.out ?_); focus rfl)
    | ((with_reducible refine wpList_load_want ?_ 23 (.tmp 3) rfl w.heap.size 0 rfl (ofK .u8 r) _ H9.out.1 Try.underlying23 rfl HRI.out ?_); focus rfl))
        go_ret
        exact ⟨by rw [HVE.out]; rfl, H9.out.2.2.2.2.2.2.2.2.2⟩
      · have HVE := Lib.hid (show verM r m n ch pt = false from verM_bad (fun k => h3 (by rw [← HPL.out]; exact k.2.2)))
        have HZI := Lib.hid (infoD isD_zer)
        refine (climb_len y n po pl pc w6 hn.1 hn.2 h3).mono ?_
        rintro e w7 ⟨rfl, hb7⟩
        have H7 := Lib.hid (show w7.rangeAt w.heap.size 0 (ofK .u8 r) ∧ w7.rangeAt w1.heap.size 0 (ofK .u8 m) ∧ w7.cell? ⟨w2.heap.size, 0, none⟩ = some (.int .i64 n) ∧ w7.cell? ⟨w2.heap.size, 1, none⟩ = some (.slice co 67 cc) ∧ w7.cell? ⟨w2.heap.size, 2, none⟩ = some (.slice po pl pc) ∧ SlD w7 (.slice co 67 cc) ch ∧ SlD w7 (.slice po pl pc) pt ∧ w7.rangeAt w4.heap.size 0 (ofK .u8 y) ∧ Below w.heap.size w w7 from ⟨rangeW_below H6.out.1 hb7, rangeW_below H6.out.2.1 hb7, (hb7.cell (p := ⟨w2.heap.size, 0, none⟩) (block_of_cell H6.out.2.2.1)).trans H6.out.2.2.1, (hb7.cell (p := ⟨w2.heap.size, 1, none⟩) (block_of_cell H6.out.2.2.2.1)).trans H6.out.2.2.2.1, (hb7.cell (p := ⟨w2.heap.size, 2, none⟩) (block_of_cell H6.out.2.2.2.2.1)).trans H6.out.2.2.2.2.1, H6.out.2.2.2.2.2.1.below hb7, H6.out.2.2.2.2.2.2.1.below hb7, rangeW_below H6.out.2.2.2.2.2.2.2.1 hb7, below_thn H6.out.2.2.2.2.2.2.2.2 hb7 (Nat.le_refl _)⟩)
        clear hb7
        go_wp2_with (first
    | ((with_reducible refine wpList_alloc_blk w7 rfl 23 rfl (ofK .u8 zer32) Try.zeroId ?_); intro w8 hb hbel hsz; have HAH9 := Lib.hid (And.intro hb hbel); clear hb hbel hsz)
    | ((with_reducible refine wpList_store_blk w8 rfl 23 (.tmp 9) (.tmp 26) rfl w7.heap.size 23 (ofK .u8 zer32) (ofK .u8 zer32) HAH9.out.1 rfl rfl rfl HZI.out (one_ofK _ _) ?_); intro w9 hb hc hs; have HBH9 := Lib.hid (show w9.rangeAt w7.heap.size 0 (ofK .u8 zer32) ∧ Below w7.heap.size w7 w9 from ⟨rangeW_blk hb, below_ch HAH9.out.2 hc (Nat.le_refl _) (fun j hj => by have : j = w7.heap.size := hj; omega)⟩); have H9 := Lib.hid (show w9.rangeAt w.heap.size 0 (ofK .u8 r) ∧ w9.rangeAt w1.heap.size 0 (ofK .u8 m) ∧ w9.cell? ⟨w2.heap.size, 0, none⟩ = some (.int .i64 n) ∧ w9.cell? ⟨w2.heap.size, 1, none⟩ = some (.slice co 67 cc) ∧ w9.cell? ⟨w2.heap.size, 2, none⟩ = some (.slice po pl pc) ∧ SlD w9 (.slice co 67 cc) ch ∧ SlD w9 (.slice po pl pc) pt ∧ w9.rangeAt w4.heap.size 0 (ofK .u8 y) ∧ w9.rangeAt w7.heap.size 0 (ofK .u8 zer32) ∧ Below w.heap.size w w9 from ⟨rangeW_below H7.out.1 HBH9.out.2, rangeW_below H7.out.2.1 HBH9.out.2, (HBH9.out.2.cell (p := ⟨w2.heap.size, 0, none⟩) (block_of_cell H7.out.2.2.1)).trans H7.out.2.2.1, (HBH9.out.2.cell (p := ⟨w2.heap.size, 1, none⟩) (block_of_cell H7.out.2.2.2.1)).trans H7.out.2.2.2.1, (HBH9.out.2.cell (p := ⟨w2.heap.size, 2, none⟩) (block_of_cell H7.out.2.2.2.2.1)).trans H7.out.2.2.2.2.1, H7.out.2.2.2.2.2.1.below HBH9.out.2, H7.out.2.2.2.2.2.2.1.below HBH9.out.2, rangeW_below H7.out.2.2.2.2.2.2.2.1 HBH9.out.2, HBH9.out.1, below_thn H7.out.2.2.2.2.2.2.2.2 HBH9.out.2 (Nat.le_refl _)⟩); clear hb hc hs))
        go_ret
        exact ⟨by rw [HVE.out]; rfl, H9.out.2.2.2.2.2.2.2.2.2⟩
    · have HVE := Lib.hid (show verM r m n ch pt = false from verM_bad (fun k => hn k.1))
      have HZI := Lib.hid (infoD isD_zer)
      refine (climb_leaf y n po pl pc w6 hn).mono ?_
      rintro e w7 ⟨rfl, hb7⟩
      have H7 := Lib.hid (show w7.rangeAt w.heap.size 0 (ofK .u8 r) ∧ w7.rangeAt w1.heap.size 0 (ofK .u8 m) ∧ w7.cell? ⟨w2.heap.size, 0, none⟩ = some (.int .i64 n) ∧ w7.cell? ⟨w2.heap.size, 1, none⟩ = some (.slice co 67 cc) ∧ w7.cell? ⟨w2.heap.size, 2, none⟩ = some (.slice po pl pc) ∧ SlD w7 (.slice co 67 cc) ch ∧ SlD w7 (.slice po pl pc) pt ∧ w7.rangeAt w4.heap.size 0 (ofK .u8 y) ∧ Below w.heap.size w w7 from ⟨rangeW_below H6.out.1 hb7, rangeW_below H6.out.2.1 hb7, (hb7.cell (p := ⟨w2.heap.size, 0, none⟩) (block_of_cell H6.out.2.2.1)).trans H6.out.2.2.1, (hb7.cell (p := ⟨w2.heap.size, 1, none⟩) (block_of_cell H6.out.2.2.2.1)).trans H6.out.2.2.2.1, (hb7.cell (p := ⟨w2.heap.size, 2, none⟩) (block_of_cell H6.out.2.2.2.2.1)).trans H6.out.2.2.2.2.1, H6.out.2.2.2.2.2.1.below hb7, H6.out.2.2.2.2.2.2.1.below hb7, rangeW_below H6.out.2.2.2.2.2.2.2.1 hb7, below_thn H6.out.2.2.2.2.2.2.2.2 hb7 (Nat.le_refl _)⟩)
      clear hb7
      go_wp2_with (first
    | ((with_reducible refine wpList_alloc_blk w7 rfl 23 rfl (ofK .u8 zer32) Try.zeroId ?_); intro w8 hb hbel hsz; have HAH9 := Lib.hid (And.intro hb hbel); clear hb hbel hsz)
    | ((with_reducible refine wpList_store_blk w8 rfl 23 (.tmp 9) (.tmp 26) rfl w7.heap.size 23 (ofK .u8 zer32) (ofK .u8 zer32) HAH9.out.1 rfl rfl rfl HZI.out (one_ofK _ _) ?_); intro w9 hb hc hs; have HBH9 := Lib.hid (show w9.rangeAt w7.heap.size 0 (ofK .u8 zer32) ∧ Below w7.heap.size w7 w9 from ⟨rangeW_blk hb, below_ch HAH9.out.2 hc (Nat.le_refl _) (fun j hj => by have : j = w7.heap.size := hj; omega)⟩); have H9 := Lib.hid (show w9.rangeAt w.heap.size 0 (ofK .u8 r) ∧ w9.rangeAt w1.heap.size 0 (ofK .u8 m) ∧ w9.cell? ⟨w2.heap.size, 0, none⟩ = some (.int .i64 n) ∧ w9.cell? ⟨w2.heap.size, 1, none⟩ = some (.slice co 67 cc) ∧ w9.cell? ⟨w2.heap.size, 2, none⟩ = some (.slice po pl pc) ∧ SlD w9 (.slice co 67 cc) ch ∧ SlD w9 (.slice po pl pc) pt ∧ w9.rangeAt w4.heap.size 0 (ofK .u8 y) ∧ w9.rangeAt w7.heap.size 0 (ofK .u8 zer32) ∧ Below w.heap.size w w9 from ⟨rangeW_below H7.out.1 HBH9.out.2, rangeW_below H7.out.2.1 HBH9.out.2, (HBH9.out.2.cell (p := ⟨w2.heap.size, 0, none⟩) (block_of_cell H7.out.2.2.1)).trans H7.out.2.2.1, (HBH9.out.2.cell (p := ⟨w2.heap.size, 1, none⟩) (block_of_cell H7.out.2.2.2.1)).trans H7.out.2.2.2.1, (HBH9.out.2.cell (p := ⟨w2.heap.size, 2, none⟩) (block_of_cell H7.out.2.2.2.2.1)).trans H7.out.2.2.2.2.1, H7.out.2.2.2.2.2.1.below HBH9.out.2, H7.out.2.2.2.2.2.2.1.below HBH9.out.2, rangeW_below H7.out.2.2.2.2.2.2.2.1 HBH9.out.2, HBH9.out.1, below_thn H7.out.2.2.2.2.2.2.2.2 HBH9.out.2 (Nat.le_refl _)⟩); clear hb hc hs))
      go_ret
      exact ⟨by rw [HVE.out]; rfl, H9.out.2.2.2.2.2.2.2.2.2⟩
  · have HVE := Lib.hid (show verM r m n ch pt = false from verM_bad (fun k => h67 (by rw [← HCL.out]; exact k.2.1)))
    have HZI := Lib.hid (infoD isD_zer)
    refine (recover_bad m co cl cc w3 h67).mono ?_
    rintro e w4 ⟨rfl, hb4⟩
    have H4 := Lib.hid (show w4.rangeAt w.heap.size 0 (ofK .u8 r) ∧ w4.rangeAt w1.heap.size 0 (ofK .u8 m) ∧ w4.cell? ⟨w2.heap.size, 0, none⟩ = some (.int .i64 n) ∧ w4.cell? ⟨w2.heap.size, 1, none⟩ = some (.slice co cl cc) ∧ w4.cell? ⟨w2.heap.size, 2, none⟩ = some (.slice po pl pc) ∧ SlD w4 (.slice co cl cc) ch ∧ SlD w4 (.slice po pl pc) pt ∧ Below w.heap.size w w4 from ⟨rangeW_below H3.out.1 hb4, rangeW_below H3.out.2.1 hb4, (hb4.cell (p := ⟨w2.heap.size, 0, none⟩) (block_of_cell H3.out.2.2.1)).trans H3.out.2.2.1, (hb4.cell (p := ⟨w2.heap.size, 1, none⟩) (block_of_cell H3.out.2.2.2.1)).trans H3.out.2.2.2.1, (hb4.cell (p := ⟨w2.heap.size, 2, none⟩) (block_of_cell H3.out.2.2.2.2.1)).trans H3.out.2.2.2.2.1, H3.out.2.2.2.2.2.1.below hb4, H3.out.2.2.2.2.2.2.1.below hb4, below_thn H3.out.2.2.2.2.2.2.2 hb4 (Nat.le_refl _)⟩)
    clear hb4 c1
    go_wp2_with (first
    | ((with_reducible refine wpList_alloc_blk w4 rfl 23 rfl (ofK .u8 zer32) Try.zeroId ?_); intro w5 hb hbel hsz; have HAH6 := Lib.hid (And.intro hb hbel); clear hb hbel hsz)
    | ((with_reducible refine wpList_store_blk w5 rfl 23 (.tmp 7) (.tmp 15) rfl w4.heap.size 23 (ofK .u8 zer32) (ofK .u8 zer32) HAH6.out.1 rfl rfl rfl HZI.out (one_ofK _ _) ?_); intro w6 hb hc hs; have HBH6 := Lib.hid (show w6.rangeAt w4.heap.size 0 (ofK .u8 zer32) ∧ Below w4.heap.size w4 w6 from ⟨rangeW_blk hb, below_ch HAH6.out.2 hc (Nat.le_refl _) (fun j hj => by have : j = w4.heap.size := hj; omega)⟩); have H6 := Lib.hid (show w6.rangeAt w.heap.size 0 (ofK .u8 r) ∧ w6.rangeAt w1.heap.size 0 (ofK .u8 m) ∧ w6.cell? ⟨w2.heap.size, 0, none⟩ = some (.int .i64 n) ∧ w6.cell? ⟨w2.heap.size, 1, none⟩ = some (.slice co cl cc) ∧ w6.cell? ⟨w2.heap.size, 2, none⟩ = some (.slice po pl pc) ∧ SlD w6 (.slice co cl cc) ch ∧ SlD w6 (.slice po pl pc) pt ∧ w6.rangeAt w4.heap.size 0 (ofK .u8 zer32) ∧ Below w.heap.size w w6 from ⟨rangeW_below H4.out.1 HBH6.out.2, rangeW_below H4.out.2.1 HBH6.out.2, (HBH6.out.2.cell (p := ⟨w2.heap.size, 0, none⟩) (block_of_cell H4.out.2.2.1)).trans H4.out.2.2.1, (HBH6.out.2.cell (p := ⟨w2.heap.size, 1, none⟩) (block_of_cell H4.out.2.2.2.1)).trans H4.out.2.2.2.1, (HBH6.out.2.cell (p := ⟨w2.heap.size, 2, none⟩) (block_of_cell H4.out.2.2.2.2.1)).trans H4.out.2.2.2.2.1, H4.out.2.2.2.2.2.1.below HBH6.out.2, H4.out.2.2.2.2.2.2.1.below HBH6.out.2, HBH6.out.1, below_thn H4.out.2.2.2.2.2.2.2 HBH6.out.2 (Nat.le_refl _)⟩); clear hb hc hs))
    go_ret
    exact ⟨by rw [HVE.out]; rfl, H6.out.2.2.2.2.2.2.2.2⟩

end Go.Proofs.Ytkbhehnpgnilmaa

namespace Go.Proofs.Ytkbhehnpgnilmaa
open Go Go.RowKit
set_option linter.unusedSimpArgs false

theorem pkL_one {X : List Nat} (h : X.length = 8) : pkL 1 8 (fun _ => X) = X := by
  show [pkF 1 (fun _ => X.getD 0 0), pkF 1 (fun _ => X.getD 1 0), pkF 1 (fun _ => X.getD 2 0), pkF 1 (fun _ => X.getD 3 0), pkF 1 (fun _ => X.getD 4 0), pkF 1 (fun _ => X.getD 5 0), pkF 1 (fun _ => X.getD 6 0), pkF 1 (fun _ => X.getD 7 0)] = X
  rw [pk_one, pk_one, pk_one, pk_one, pk_one, pk_one, pk_one, pk_one]; exact list8 h
/-- one digest behind two bytes, reckoned -/
theorem dig2_one {X R : List Nat} (a c : Nat) (hX : All32 X) (_ : X.length = 8) (ha : a < 256) (hc : c < 256) (h : digP (MK 1) (ON 1) (pkF 1 (fun _ => a * 16777216 + c * 65536)) 16 16 32768 272 (H8P (ON 1)) (pkL 1 8 (fun _ => X)) (fun r => r) = R) : dig2 a c X = R := by
  rw [dig2_pk 1 a (fun _ => c) (fun _ => X) (fun _ => hX) ha (fun _ => hc)] at h
  rw [← h]
  exact (pkL_one (dig2_good a c X).1).symm
/-- one chain, walked by these steps -/
theorem chain_one {X R : List Nat} (c : Nat) (ns : List Nat) (hX : All32 X) (hc : c < 256) (hn : ∀ s ∈ ns, s < 256) (h : digP (MK 1) (ON 1) (pkF 1 (fun _ => 83 * 16777216 + c * 65536)) 16 16 32768 272 (H8P (ON 1)) (pkL 1 8 (fun _ => X)) (fun y => stepsP (MK 1) (ON 1) (pkF 1 (fun _ => 67 * 16777216 + c * 65536)) (H8P (ON 1)) ns y (fun r => r)) = R) :
    ns.foldl (fun x s => dig3 67 c s x) (dig2 83 c X) = R := by
  rw [dig2_pk 1 83 (fun _ => c) (fun _ => X) (fun _ => hX) (by omega) (fun _ => hc), stepsP_eq 1 67 (fun _ => c) (by omega) (fun _ => hc) _ ns hn _ (fun _ => (dig2_good _ _ _).2)] at h
  rw [← h]
  exact (pkL_one (foldl_dig3_good 67 c ns _ (dig2_good _ _ _)).1).symm
/-- the ends of a seed's chains, all lanes -/
theorem ends_one {X E : List Nat} (hX : All32 X) (h : digP (MK 67) (ON 67) (pkF 67 (fun i => 83 * 16777216 + i % 67 * 65536)) 16 16 32768 272 (H8P (ON 67)) (pkL 67 8 (fun _ => X)) (fun y => stepsP (MK 67) (ON 67) (pkF 67 (fun i => 67 * 16777216 + i % 67 * 65536)) (H8P (ON 67)) (List.range 15) y (fun r => r)) = E) : pkL 67 8 (fun i => endW X (i % 67)) = E := by
  rw [← h, dig2_pk 67 83 (fun i => i % 67) (fun _ => X) (fun _ => hX) (by omega) (fun i => by show i % 67 < 256; omega), stepsP_eq 67 67 (fun i => i % 67) (by omega) (fun i => by show i % 67 < 256; omega) _ (List.range 15) (by decide) _ (fun i => (dig2_good _ _ _).2)]
  rfl
def laneE (E : List Nat) (i : Nat) : List Nat := E.map (fun e => e / 2 ^ (64 * i) % 2 ^ 64)
theorem laneE_is {X E : List Nat} (hE : pkL 67 8 (fun i => endW X (i % 67)) = E) (i : Nat) (hi : i < 67) : endW X i = laneE E i := by
  have hg := endW_good X (i % 67)
  have e : endW X i = endW X (i % 67) := by rw [Nat.mod_eq_of_lt hi]
  rw [e, ← list8 hg.1]
  unfold laneE
  rw [← hE]
  show _ = [pkF 67 (fun i => (endW X (i % 67)).getD 0 0) / 2 ^ (64 * i) % 2 ^ 64, pkF 67 (fun i => (endW X (i % 67)).getD 1 0) / 2 ^ (64 * i) % 2 ^ 64, pkF 67 (fun i => (endW X (i % 67)).getD 2 0) / 2 ^ (64 * i) % 2 ^ 64, pkF 67 (fun i => (endW X (i % 67)).getD 3 0) / 2 ^ (64 * i) % 2 ^ 64, pkF 67 (fun i => (endW X (i % 67)).getD 4 0) / 2 ^ (64 * i) % 2 ^ 64, pkF 67 (fun i => (endW X (i % 67)).getD 5 0) / 2 ^ (64 * i) % 2 ^ 64, pkF 67 (fun i => (endW X (i % 67)).getD 6 0) / 2 ^ (64 * i) % 2 ^ 64, pkF 67 (fun i => (endW X (i % 67)).getD 7 0) / 2 ^ (64 * i) % 2 ^ 64]
  have hL : ∀ q, L64 (fun i => (endW X (i % 67)).getD q 0) := fun q i => Nat.lt_of_lt_of_le ((endW_good X (i % 67)).2.getD q) (by decide)
  rw [pk_get (hL 0) 67 i hi, pk_get (hL 1) 67 i hi, pk_get (hL 2) 67 i hi, pk_get (hL 3) 67 i hi, pk_get (hL 4) 67 i hi, pk_get (hL 5) 67 i hi, pk_get (hL 6) 67 i hi, pk_get (hL 7) 67 i hi]
/-- the steps that lead from the number 2 to what 3 asks -/
def nsA (i : Nat) : List Nat := if i = 1 then [0, 1, 3, 4, 5, 6, 7, 8, 9, 10, 11, 12, 13, 14] else if i = 66 then [0, 1, 2, 3, 4, 5, 6, 7, 8, 9, 10, 11, 12, 13, 13, 14] else List.range 15
def altW (X : List Nat) (i : Nat) : List Nat := (nsA i).foldl (fun x s => dig3 67 i s x) (dig2 83 i X)
theorem altW_good (X : List Nat) (i : Nat) : (altW X i).length = 8 ∧ All32 (altW X i) := foldl_dig3_good 67 i _ _ (dig2_good _ _ _)
def recW (X : List Nat) : List Nat := chainW H8 34 (shK 75 ((List.range 67).flatMap (altW X)))
theorem chain34 {f : Nat → List Nat} (hf : ∀ i, (f i).length = 8 ∧ All32 (f i)) {g : Nat → List Nat} (hg : ∀ i, i < 67 → f i = g i) {R : List Nat} (h : chainE ((List.range 34).map (fun j => ((shK 75 ((List.range 67).flatMap g)).drop (16 * j)).take 16)) H8 (fun r => r) = R) : chainW H8 34 (shK 75 ((List.range 67).flatMap f)) = R := by
  have e : (List.range 67).flatMap f = (List.range 67).flatMap g := by
    rw [List.flatMap_def, List.flatMap_def, List.map_congr_left (fun i hi => hg i (List.mem_range.1 hi))]
  have h2 := chainE_eq (fun r => r) 34 (shK 75 ((List.range 67).flatMap f)) H8 H8g (by rw [shK_length, flat_len (fun i => (hf i).1)]) (shK_32 _ _ (by omega) (flat_32 (fun i => (hf i).2) 67))
  rw [e] at h2 ⊢
  rw [← h2, h]
theorem key_one {X E R : List Nat} (hE : pkL 67 8 (fun i => endW X (i % 67)) = E) (h : chainE ((List.range 34).map (fun j => ((shK 75 ((List.range 67).flatMap (laneE E))).drop (16 * j)).take 16)) H8 (fun r => r) = R) : keyW X = R :=
  chain34 (endW_good X) (laneE_is hE) h
def altE (E A B : List Nat) (i : Nat) : List Nat := if i = 1 then A else if i = 66 then B else laneE E i
theorem rec_one {X E A B R : List Nat} (hE : pkL 67 8 (fun i => endW X (i % 67)) = E) (hA : altW X 1 = A) (hB : altW X 66 = B) (h : chainE ((List.range 34).map (fun j => ((shK 75 ((List.range 67).flatMap (altE E A B))).drop (16 * j)).take 16)) H8 (fun r => r) = R) : recW X = R :=
  chain34 (altW_good X) (fun i hi => by
    unfold altE
    by_cases h1 : i = 1
    · subst h1; rw [if_pos rfl]; exact hA
    · by_cases h2 : i = 66
      · subst h2; rw [if_neg (by decide), if_pos rfl]; exact hB
      · rw [if_neg h1, if_neg h2, ← laneE_is hE i hi]
        unfold altW nsA
        rw [if_neg h1, if_neg h2]
        rfl) h

/-! ### what two digests join to -/
/-- the words of sixteen words behind one byte p, and of what fills 65 bytes up -/
def shJ (p : Nat) : List Nat → List Nat
  | [] => [p * 16777216 + 8388608, 0, 0, 0, 0, 0, 0, 0, 0, 0, 0, 0, 0, 0, 0, 520]
  | y :: ys => (p * 16777216 + y / 256) :: shJ (y % 256) ys
theorem shJ_words : ∀ (ys : List Nat) (p : Nat), p < 256 → All32 ys → wordsB ((p : Int) :: (bytesN ys ++ 128 :: (List.replicate 54 0 ++ beF 520 8))) = shJ p ys
  | [], p, hp, _ => by
    show [(valL [(p : Int), 128, 0, 0]).toNat, 0, 0, 0, 0, 0, 0, 0, 0, 0, 0, 0, 0, 0, (valL [0, 0, 0, 0]).toNat, (valL [0, 0, 2, 8]).toNat] = _
    simp [valL, shJ]
    omega
  | y :: ys, p, hp, hy => by
    have h1 := hy y (by simp)
    have ih := shJ_words ys (y % 256) (by omega) (fun z hz => hy z (by simp [hz]))
    have e : beAt (y : Int) 4 3 = ((y % 256 : Nat) : Int) := by simp [beAt]
    show (valL [(p : Int), beAt (y : Int) 4 0, beAt (y : Int) 4 1, beAt (y : Int) 4 2]).toNat :: wordsB (beAt (y : Int) 4 3 :: (bytesN ys ++ 128 :: (List.replicate 54 0 ++ beF 520 8))) = _
    rw [w1 p y hp h1, e, ih]
    rfl
theorem shJ_length : ∀ (ys : List Nat) (p : Nat), (shJ p ys).length = ys.length + 16
  | [], _ => rfl
  | y :: ys, p => by show (shJ (y % 256) ys).length + 1 = _; rw [shJ_length ys, List.length_cons]
theorem shJ_32 : ∀ (ys : List Nat) (p : Nat), p < 256 → All32 ys → All32 (shJ p ys)
  | [], p, hp, _ => by
    intro x hx
    simp only [shJ, List.mem_cons, List.not_mem_nil, or_false] at hx
    omega
  | y :: ys, p, hp, hy => by
    have h1 := hy y (by simp)
    intro x hx
    rcases List.mem_cons.1 hx with rfl | hx
    · omega
    · exact shJ_32 ys _ (by omega) (fun z hz => hy z (by simp [hz])) x hx
def joinW (A B : List Nat) : List Nat := chainW H8 2 (shJ 78 (A ++ B))
theorem all32_app {A B : List Nat} (hA : All32 A) (hB : All32 B) : All32 (A ++ B) := fun x hx => by
  rcases List.mem_append.1 hx with h | h
  · exact hA x h
  · exact hB x h
theorem joinB_W {A B : List Nat} (hA : A.length = 8 ∧ All32 A) (hB : B.length = 8 ∧ All32 B) : joinB (bytesN A) (bytesN B) = bytesN (joinW A B) := by
  have hy : All32 (A ++ B) := all32_app hA.2 hB.2
  have hl : (A ++ B).length = 16 := by rw [List.length_append, hA.1, hB.1]
  have e0 : digB 78 [] [bytesN A, bytesN B] = (78 : Int) :: bytesN (A ++ B) := by
    unfold digB bytesN
    rw [List.flatMap_append]
    simp
  unfold joinB
  rw [e0]
  have hb : (bytesN (A ++ B)).length = 64 := by rw [bytesN_length, hl]
  have ha : AllB ((78 : Int) :: bytesN (A ++ B)) := by
    intro c hc
    rcases List.mem_cons.1 hc with rfl | hc
    · omega
    · exact bytesN_allB _ c hc
  have hp : padL ((78 : Int) :: bytesN (A ++ B)) = ((78 : Nat) : Int) :: (bytesN (A ++ B) ++ 128 :: (List.replicate 54 0 ++ beF 520 8)) := by
    unfold padL
    rw [List.length_cons, hb]
    rfl
  have hlen : (padL ((78 : Int) :: bytesN (A ++ B))).length / 64 = 2 := by rw [padL_length, List.length_cons, hb]
  rw [sumL_W ha, hlen, hp, shJ_words (A ++ B) 78 (by omega) hy]
  rfl
theorem join_one {A B R : List Nat} (hA : A.length = 8 ∧ All32 A) (hB : B.length = 8 ∧ All32 B) (h : chainE ((List.range 2).map (fun j => ((shJ 78 (A ++ B)).drop (16 * j)).take 16)) H8 (fun r => r) = R) : joinB (bytesN A) (bytesN B) = bytesN R := by
  have h2 := chainE_eq (fun r => r) 2 (shJ 78 (A ++ B)) H8 H8g (by rw [shJ_length, List.length_append, hA.1, hB.1]) (shJ_32 _ _ (by omega) (all32_app hA.2 hB.2))
  rw [joinB_W hA hB, ← h, h2]
  rfl
theorem leafS_W {X : List Nat} (hX : X.length = 8 ∧ All32 X) (i : Nat) (hi : i < 256) : leafS (bytesN X) i = bytesN (dig2 76 i X) := by
  unfold leafS
  rw [show digB 76 [(i : Int)] [bytesN X] = (76 : Int) :: (i : Int) :: bytesN X from by
    show (76 : Int) :: (((i : Int) % 256) :: (bytesN X ++ [])) = _
    rw [Int.emod_eq_of_lt (by omega) (by omega), List.append_nil]]
  exact sum2 76 i X (by omega) hi hX.1 hX.2
theorem leafK_one {L R : List Nat} (i : Nat) (hi : i < 256) (hL : dig2 76 i seedA = L) (hR : keyW L = R) : leafK idA i = bytesN R := by
  unfold leafK
  rw [← idA_W, leafS_W seedA_good i hi, hL, keyOf_W (by rw [← hL]; exact dig2_good _ _ _), hR]

/-! ### the signature of 2 by a seed, asked by 3 -/
theorem walkB_Wg {X : List Nat} (hX : X.length = 8 ∧ All32 X) (c a : Nat) (hc : c < 256) : ∀ k : Nat, a + k ≤ 15 → walkB (bytesN X) c a k = bytesN ((List.range k).foldl (fun x s => dig3 67 c (a + s) x) X) ∧ ((List.range k).foldl (fun x s => dig3 67 c (a + s) x) X).length = 8 ∧ All32 ((List.range k).foldl (fun x s => dig3 67 c (a + s) x) X)
  | 0, _ => ⟨rfl, hX⟩
  | k + 1, hk => by
    obtain ⟨h1, h2⟩ := walkB_Wg hX c a hc k (by omega)
    rw [List.range_succ, List.foldl_append]
    refine ⟨?_, dig3_good _ _ _ _⟩
    show stepB (walkB (bytesN X) c a k) c ((a : Int) + (k : Int)) = _
    rw [h1, show (a : Int) + (k : Int) = ((a + k : Nat) : Int) by push_cast; rfl]
    exact stepB_W h2 c (a + k) hc (by omega)
theorem digits_B : digitsL idB = [0, 3] ++ List.replicate 62 0 ++ [3, 11, 13] := by decide +kernel
theorem digits_M : digitsL idM = [0, 2] ++ List.replicate 62 0 ++ [3, 11, 14] := by decide +kernel
theorem digits_same : ∀ i : Fin 67, i.1 ≠ 1 → i.1 ≠ 66 → (digitsL idB).getD i.1 0 = (digitsL idM).getD i.1 0 := by
  rw [digits_B, digits_M]; decide +kernel
theorem fold_1 (f : Nat → List Nat → List Nat) (Y : List Nat) : (List.range 12).foldl (fun x s => f (3 + s) x) ((List.range 2).foldl (fun x s => f (0 + s) x) Y) = [0, 1, 3, 4, 5, 6, 7, 8, 9, 10, 11, 12, 13, 14].foldl (fun x s => f s x) Y := rfl
theorem fold_66 (f : Nat → List Nat → List Nat) (Y : List Nat) : (List.range 2).foldl (fun x s => f (13 + s) x) ((List.range 14).foldl (fun x s => f (0 + s) x) Y) = [0, 1, 2, 3, 4, 5, 6, 7, 8, 9, 10, 11, 12, 13, 13, 14].foldl (fun x s => f s x) Y := rfl
theorem recG_alt {X : List Nat} (hX : X.length = 8 ∧ All32 X) (i : Nat) (hi : i < 67) : recG idB (sigOf (bytesN X) idM) i = bytesN (altW X i) := by
  unfold recG sigOf
  rw [rowL_getD _ _ _ hi]
  unfold sigL altW nsA
  rw [startB_W hX i (by omega)]
  by_cases h1 : i = 1
  · subst h1
    rw [if_pos rfl, show (digitsL idM).getD 1 0 = 2 from by rw [digits_M]; rfl, show (digitsL idB).getD 1 0 = 3 from by rw [digits_B]; rfl]
    obtain ⟨e1, g1⟩ := walkB_Wg (dig2_good 83 1 X) 1 0 (by omega) 2 (by omega)
    obtain ⟨e2, _⟩ := walkB_Wg g1 1 3 (by omega) 12 (by omega)
    have e1' : walkB (bytesN (dig2 83 1 X)) ((1 : Nat) : Int) 0 2 = _ := e1
    rw [show Int.toNat 2 = 2 from rfl, show ((15 : Int) - 3).toNat = 12 from rfl, e1']
    exact e2.trans (congrArg bytesN (fold_1 (dig3 67 1) _))
  · by_cases h2 : i = 66
    · subst h2
      rw [if_neg (by decide), if_pos rfl, show (digitsL idM).getD 66 0 = 14 from by rw [digits_M]; rfl, show (digitsL idB).getD 66 0 = 13 from by rw [digits_B]; rfl]
      obtain ⟨e1, g1⟩ := walkB_Wg (dig2_good 83 66 X) 66 0 (by omega) 14 (by omega)
      obtain ⟨e2, _⟩ := walkB_Wg g1 66 13 (by omega) 2 (by omega)
      have e1' : walkB (bytesN (dig2 83 66 X)) ((66 : Nat) : Int) 0 14 = _ := e1
      rw [show Int.toNat 14 = 14 from rfl, show ((15 : Int) - 13).toNat = 2 from rfl, e1']
      exact e2.trans (congrArg bytesN (fold_66 (dig3 67 66) _))
    · rw [if_neg h1, if_neg h2, digits_same ⟨i, hi⟩ h1 h2]
      have hb := digit_bd isD_M i hi
      generalize (digitsL idM).getD i 0 = d at hb
      have h := walkB_add (bytesN (dig2 83 i X)) i 0 d.toNat (15 - d).toNat
      rw [show (0 : Int) + (d.toNat : Int) = d by omega, show d.toNat + (15 - d).toNat = 15 by omega] at h
      rw [h]
      exact walkB_W (dig2_good 83 i X) i (by omega) 15 (by omega)
theorem recB_alt {X : List Nat} (hX : X.length = 8 ∧ All32 X) : recB idB (sigOf (bytesN X) idM) = bytesN (recW X) := by
  unfold recB recW digB
  rw [recL_eq]
  unfold rowL
  have e : (List.range 67).map (recG idB (sigOf (bytesN X) idM)) = (List.range 67).map (fun i => bytesN (altW X i)) := List.map_congr_left fun i hi => recG_alt hX i (List.mem_range.1 hi)
  rw [e, List.map_nil, List.nil_append, bytesN_flat]
  exact sumK (flat_len (fun i => (altW_good X i).1) 67) (flat_32 (fun i => (altW_good X i).2) 67)

/-! ### reckoned -/
def g8 (l : List Nat) : Bool := l.length == 8 && l.all (· < 4294967296)
theorem g8_of {l : List Nat} (h : g8 l = true) : l.length = 8 ∧ All32 l := by
  simp only [g8, Bool.and_eq_true, beq_iff_eq, List.all_eq_true, decide_eq_true_eq] at h
  exact h
set_option maxRecDepth 1000000 in
theorem leaf_0 : dig2 76 0 seedA = [2909352594, 2690480680, 3164198717, 2905814359, 432360711, 3958115329, 644495206, 2929266823] := dig2_one 76 0 seedA_good.2 seedA_good.1 (by omega) (by omega) (by decide +kernel)
def ENDS0 : List Nat := [652586523412270160170310916637916165635904053268563722994130058013009485032807151118460423939484075804309107051096440904943165814512672222981438933956702871240564683144405568779788102136283244605262207562562987967285142447348414910638810378517379437243586075876413578286176617052326941989167761026420211750366680083915686264320484509699343105656433671855332826624631406050256196994207482617650772518538778314829117026037803018721491549728181542558886853017336434686895684408728495900590005185726528211033045111317848471330576703865750456973150467972538530973369920724469147016620072802898192496965468633563709194254412567696802484003533742762725367481105667622738185258723833494209513060404333224749788065145576574815804133443612015075143560739164437460506021190091790527873917541309337357449636192274274318837507472294937596304418679981198616994656210436134687135155837930910748839611091696385060856545234057829268098646139741369879758104704995367035591509486339710534124356457685352867365198526460650616327742091412995932859279301258694580324508413210689013397465384085782785488914876383125199327664086082452343195350179518834708911401158639003382194975402796670344406486206072243622667981792893173370899762813603857648991798874534629832024613311907234138968742281206609502004315, 1064211341512060521147749982993570014837702912073271728947199626269953404376939898175393151357804829726887165767448054561689653945111448816328054131393122149564926160984343767124744848554842346648703923086317277469824844069956379559651567673605735548511717052793586343868491530392201157578963297980855170800323026875347783234229988399736434050242503290612060014094334818835744924813632201214123216779134652283955274436969722409381090889360998087612829381952685401037387462161590094685578460177789221391965770318104841344044960704927376766689965377573750481627988580460539833041391213570879310017047646447161539340083457562252431678226363039091537614922101699641899974940449402904460462984074128923888212607081113271348348843910471747923317195080492229388467524698026332090177226300904976508343773065380047786794369845993446486061183778168826508178345084245243429640550399714647560819519286316839525151872186316872163423238208577922461299860224130564502983425136348681218948106122200517141776158621280404294826686792863198218422364884633124726215590076973718325615914861013930514875864369382377553389849297518645724821317204757729745973838889838529268511321868512852923081894715176443457800687678354053980453336207068417175344884707941675051393142529900967663674307351673895282139777, 681963541034566561941149882535599519396283345215700189186725989294375455789697844423494422182739240485087957114848315242427337077695594395864725660556439085264885548005367706917219058856110099274518042107871277975095190255371825083543118604299706151079329793932434762293916362799544452639606597927664114127833378457627778109730211726970604092252259981499478135224013689835376784253020617174561647658638055605158748404644942324524076658572620002966353226677535723371021471012247203376770871650333515877711347653232667640153434857373220623258442592506431763555897245461072418226652294599165286801003985915473381469994329771058333369217030314262407077943742522039195127647964756171166678783517696007593977237753378854507949824149399743593165268018397288747497647930721846364888756971619013180477521479825271947405619423207804471228830426524735770845975768254520434193807625868756852757538821661440286488851060646892238771437936879044515419371037188524507695103990190011558563529829205046904990862847447952310343876726946447658023433035128606454563167961660167140652310849336585782501372338523138940051959237537230219277273893925952605972780674525684217143863065704931310070664403253166593845496610048925144974904605110996830453118253704468303537751795121877339897838558943402920677467, 3828797260443245527100052123617222858771460356527222017842028125268111164626273580354128605727816201027007947351661385126670757410367516973064202983170541896574432984293975000703828197086435131043581712808168107590391328648496603915776105216880327705949761077564782560664621227357082190072568195805598061544420987845766193771814986183382882966237877608264922336321152647903349836810302027828781768024225160495460091457257504594453773915572594110032145921407873513894622489108236173528089956090305706594634953959013945911660808129583788292112705694264293481586193509851605711059273581172174042761931822378112084911973379957955100492492227795165798693122309498684781647088093771374987124322547925638336271069917427972631990077174820733992123303009196029342450221048029862159871015910661715128831199292569424359072937266365678286068656987944932264499456314348107856560412198052461336118044712721213050011538668468558117897642151180268586700458674331247402100581138207031174655502724987350501880357366954862949336004639808987565249335800868181957707118924458361124888680496373604322597594190047397830429183722897886339363119404228720948325371849082641626572687249178371314726458585467638273588294868714351966585270712552370152008103791581121802428771467021222835496220952659839005555, 942506551782749458749260157559364132531490019261989744816345335645407640427948265181217437883499763893195375453210907776543926946572822204279046064220660172066892893752413051397054944928399809203977897078122365005128107800940686708694523685583761848129597726181151285886175717270807407375808989942145093528358723794143240821800143281418539264255064360125714939098099710584679050347828264595854162578819936930352135081920464845949782683907688377136973737916435731486763469636276301055088956713229224772075022802574939895883122940308611457172784784701460188300526913863424516560302084868366958636453468635468139283861016269529500128353711140768533463616323235251747465767056926683253275139665539992383199144279503401319523869564428195095612602970063404226763689944372176292627622362677697361333136873919828118092701794078414058722178908123128766603686444860956982291826578825726632754139925902938051300692645381102131522006472070614713537329857690214395247540916904304265776938934457404557188796604999548261330419074778582869653942158036346494418281161995020291997102703924875598996187149977879557458178554630111870961281063542778682376916019896092647790296469622473376908612862168001953086077881583191823277827666789485075290838577837245557788887184105699807220771696836159188271591, 442342311517423284229904108184777939017350494796112592880197133742548747556026145915383286183268477665237439632077591756680819532183444779071203097736101408302937934628234510258963405076715163264776964055203740585070488197757071221325998937698546841027520366566573793076418186668076604527579144133661886327338536784918132906300608882493156285720512454656574007386642210921014298076563912054545318877883164371268444481887085655989851901995007036906855381247465233523834239019086528451418880110331806255741507106421856220379187225377067118056916116780940506049734998207851331024759788403490104492878789632536528253303650289129441277151256738067535219156444289413724155977322069497363474690347385493701626417761680295652979435974887233946468700470537173288393052969287365276514072338034631468496348383850206898766104579523294196994118293357941094968338358655553720278201705615705446699810596971800985628912713276993339058129319807142290106537514382050516206050234169173189691269019919673431034451796208468860777696206130089910603065412361145711101336212492755514782212140862458429247950126733330789614903196611615860892195175428022187360641131995501091635728397059212045834683844381933952352322738405689729416658225597582836446077824618305030737123422154397615609098519182362404167108, 1000204852013025514804389535155222548406465490893210865671603550456267803656291698069614005836327968674470400653908148924093099786904516961027950002887247498389578343837107129558799901263758234550699084218228105709482083407702146808837444725234901478323920676780888396373288913193596603727363895210207256182836222569083326281441810292563823286001022318540299884353802730419774885717191408481160699624697924158633149043162205035288792150538841027423244496522220986917508147167299845137059482423450246886117844344478309882036043504695894877972309220346007524739804927063256274916188299124607868160801241036981784786513125822498497521005013992566878964790454542832032046049421586151704054935378150730917543170558236259313587797654250448610666821461353693618350787493460659926794244197794921884344828581690777523773292574552072744843014962067139185399123689466526830817805163211530610650751814096967932706704656695963510056394814184440369232836408057471998409166573946570252319929544789547912976913466516854791812368308849078761918375215577476370430992204112686562395840072337238294933812535776357012126352896302404091307033430563942174450015092588981641514246018151946264781137853154544361065499360822420895632557203758803431944550707536222123119151693824575261291944247762338713744574, 94307360818307835246726043813460161705513871657401401621014724491562357583375806814522915680594675622991349373874231131930348523884487379419416557671209559780876407952696628529818449969373417947543388406679912915433563744042280404336700692139907080899017420103312637145965274655681627517263640187970770899458770537731482581088793102341864070682538773900544931042391255032270981857977885584896068981031238535178822658294845141005133344857275184845234848455661670490151316954737907244007580078267470644199229245364487858002922482359970347645247276884330744977730883392513155320400040663902966795879422494955146857120160478864483379262718467867095685795355592215700519075969920862530197859858169947521672274608739645567634390913369973461912769151987210265862873826672484154789849844923775458910649263955196300135642597158072962544331838006275289909150554913565953206356034770797254640000918602238245916136093936252810914181279748914103896116493452326526242506768282301103473885407964875721613804670697260362103395081485621248708318587591367710263703301369942958694024756612280376802373253241873787159389140761996899317946295678723100612211351769242150155606799773509225730422436524655475422731195671138441141519038823099444507946900422199564191606472739891040510921784967011357316893]
set_option maxRecDepth 1000000 in
theorem ends_0 : pkL 67 8 (fun i => endW [2909352594, 2690480680, 3164198717, 2905814359, 432360711, 3958115329, 644495206, 2929266823] (i % 67)) = ENDS0 := ends_one (g8_of (by decide +kernel)).2 (by decide +kernel)
set_option maxRecDepth 1000000 in
theorem key_0 : keyW [2909352594, 2690480680, 3164198717, 2905814359, 432360711, 3958115329, 644495206, 2929266823] = [856474239, 2359694652, 2594982445, 1133221815, 3778155391, 485978382, 3481062519, 597190758] := key_one ends_0 (by decide +kernel)
theorem leafK_0 : leafK idA 0 = bytesN [856474239, 2359694652, 2594982445, 1133221815, 3778155391, 485978382, 3481062519, 597190758] := leafK_one 0 (by omega) leaf_0 key_0
set_option maxRecDepth 1000000 in
theorem leaf_1 : dig2 76 1 seedA = [890406382, 2445924580, 2160921000, 3171462237, 1406101659, 1394194838, 919259539, 678038142] := dig2_one 76 1 seedA_good.2 seedA_good.1 (by omega) (by omega) (by decide +kernel)
def ENDS1 : List Nat := [376284773486442752316650519216964149531190218381769956860839142579599660324234327952693069478291072500339667979222457446349772832490807635942134024077136215358319357187263252208360906602731626114626238855265067125689910324860699805799395773579051560421321646427407556247330762019235777980108692820222850854640357200849081168575598339585428351614202079679844692664077969773641138229187816818453907488176680057771484471443466509628871426555039656379370839946418232398286309503372313099524225200799399944173250474971384160032124069258278449062486547783810841341234199179742408310182246449278173571746972286938989774163776892034727568517397936100214132920125789023530689761487628371185434640352416132076600424020671898786617507228667998535690728109746808347497276837301105981575026444414825343000128546998267691173706963109459552728997272891410350011272421750133593239618530543637555691703221943452162098759429206219050229318500263059261108014328828244208978203853878657502104234310144442164944657861037751230794649182541595524215100018051198524888749154485745351201466802728995503366977766316531185042331829194170273707885463678612569058021283344995453795905109094863264344316339162261398309468897665934635626369956095428179549557173080767611254414384663898199297757833639035386142590, 976079438559178952780504593484439159966092391648909515739113687666089733514736167863329420307304082583335010259560824678098678267861208139434401160479212505573401288120473546050453436682565312355461080604298969447794669842544325158681346391382756095838558043248301738213591320974337124368430051359983129319018981550530482554982162388924570634121523815984975642658973961594946007714381825377614560871960282808216263550146874993465404908210286680830564482349676222596529184277595401746788856018221230339716653959382678566072962158664850481679018915782308265677136228109268772038855387920681189293273078737742681862436355203505988101350794683955442116279709844562230161824461421256040717273473180906086128039610251661037841131753759282308695420704907275818020790742050369117325594600757259524061364570714070513462544563548440986643618306895033224537741188467893763028025462681385429852556655194582282979126050115511636093993074657510978654988650182547893402573073522718601080736619949301792990157688223820166958524249820272210252268523336310671003192049065589131255792741745522315843998949036281519987880642417769266355605154305352046432847368715996274635824137891591950003741973891589188979833848809175522504400175129273542835469397622139999896156174558710521924746216149279797380509, 579620045814689258478366692336422804394804946160690853962886500522599397851208826283437722381421290302304961252650806748503042889103294381471729351669641075965905609916471404678753257217118622350191419272679504906399174231655000082656385144433876204305434299848522328634234785910699453523568186611194034057861297890777425265011441999197498514614840415517842077079026702657329858566316431455474098661971353283885958458095733895413918143599293069137984561929706180234364756474705507223719895309157644471806648950768455137935311796495658734027553751878079205946226206900157970260401044566287933358951009150758883535310902739121865120400483098676207902512895147619357297476697305527316270368788312180239613758676581359584125665827863293553926783286848895714501230301420898483829159315553727805433584253473796101496898088862815069512994444408428879861774637043078530525377275935167254483033601835624458442784674676987961905281370655259611648825829319771666677787211387930422113778834202635942131787143117023931149959974305532850445079980679007460336310369497678643661023866240320967976876871329845273472931773060993397643221119185423459981230396207673465128922656011321169100945467589990340759991917350342537294611342037881135326911534071432518594622289804460664993236150888422947446245, 247967002766011355268214065706135124551393680396003157044536476758328185422138675057704284081370238252185972206522010306393201756448634429708302060526149879709134250243666031531658338359936682414369975050834579465057002480721906005583841857285226726548634283262282916207226918946607593917432189021137513159775992008497914200538242113157672166523851754810089089350888602892333670186585394365200418472435222312971177407955838909592012063802742858370587423300030483437966338296745988041916464858315255774404248180301094980104196506475788291581253377439572484131149270710807423518832433844045360855270091820637619414593867229954444191066136757370315151833904620907745415168357907100080614677808067019398578992585795104612973112261805850606653755245530295344296559595135925854769752046034593970411387173303088122958415781130341878981500636248400112587054872379990650817104345217523877869147901735770612384195287564084870850167140521439006222629255220255590590494162708665242963732178706149766977169913142424419652106623434769510361964480292574344191718212918129092047186716024660695417152345084040818155897498582173602077395180798044651130368034024504483761478221252253237540590517899700382425111142029397185485125959227247015780476046263584924151596235526112404366173918705527107645829, 1255601220757265471136023022190199354935900280586190613742294488921733593321034564393678537829569435070158171554896915784919538421865106548183013226707235972566686900231830002909331694616208980529043124093169479422360961849412707837784239933365295760393801683861548041132909641450982696727827188787555628840982116293170897700011214146537974918414991939827600836331286354961410308465213681114736454951318117531808122030493924542304303396727776344781900105774857946806329309542643442025422307299212737471092898272393568875228375989327050506352833409194620133857294097180370339542675043802196087533146492144556832683348668257575118940119172688669609915711440753818145136120777503817148996095680894118638176115887849628603280646283898539711771137493156510894256686760842940531496432965212962710572439523223027109270753121693132083930018820563415758330624054784024764837317223925332617266055316557444442578056710318289860778137382176759832140507786594559480136683496267431012574136533505470902912661439389981078374678789529629793208488474125485976495088877830910881328481332647809318382831985328572029901671465444373082428222033586817436821260767202951120549510971107067143289636570348604638957791382458246132027183142834269631087908384135449900893342928990463693497929824004221288598620, 183634268601082771850457902280954325663165975568312766468855276094310785029824971213869449113846801150164373326898909504031408783153214750887761495970777948696613112595131480833141869916205395895523609181700336866988675022085859594304579094929956738946245190598680266177835736121948864475191204186594399104561429080250965630687750015233316959282062795232008850922480980957025287720833864125449424746527382925208363432496637400576138773903766632138810719173962208665771155235073895936009088377794569844672318667885319478256680838904346060120749125009344614325579709701245770306087854301541884273417265925942354116452438724879847983618077181143117116183448676373747973729545422807706719935957555811404267243534549377274928498456233386280099910666068830780333933762968757321382752802599259096340752718230256774449450225165987379770802695013335197603598892743891885073518721597305882843292904061036121183064992224937225274372981190483755489523645765513275607948320939702517004594678608983257742938457038775175703749882876413307079825697968376582557606378116918720604132760439484601274612585665849973660684643221429553458967638344410632221350131684899418175481498112530058759921644758003930260305800990853642751851320786868042945445637061257457610935722328863123931336780019212248958297, 1221038120268387137127390575268371790408740827120807929171863132124024788480938875477134550431059116827116754122654077195133855028459929835495489670090165673986347976246917863904475578594948575934213093738500181736962222555880777220074330419985799499718914932225905493596857647397078061726091000947207842111209872952109232339299807319104795622730346396120584241201107305460376619424061089902875413356411311095004352514958944945076445972220922879879572623041425427997148967778923852625320534000279425263613237013424240443782680431857967349851440014385232559131948817156270565039779489760301897365898976407253061762914095783674177871155070060520779263779533233500566611044435957008062041696490041851480450641136027089103036774231101169246988874275526918032446127284844092243115884524822585116084522383936178594925000620957222188958717799877771643252179142704664216634593636061382082911560862676178894186126637372373061353025238039976579104647502699558407217134837351819443480378209822543887768498573956719456291361864097669644300768577955608630085360110090457571092404116122028112118433608471740730609606421857043675468482620580230490987273811052541558753581971293117267114469749978437362836172453458141736837047884001139298107168011880753727377469040916390791698729589394673552096858, 705767358641443503073836523083235095051728888814168335513733221070294553114011195512051589891754789529138670082628341953715449014896799357219526423361984895595176465141928215465925088226481064716951530583660864212658704592558423830984765942361280007715419034903953319257989672828369681179913522179368369836022787392466760326995020885899253685708026549812472897805282475704912846971167272811703527459453270674066475742821230164380440990791456719299841696289165066715077495241743558577071217608367808309638651155697279397096370638440536034684478335863428628285176239826615491076586925014510247832969058415931461874094066741209922658711468362962612364762374780767635050506323258252461965763332183176042982736569082528447959241233392779041028129808820669179626792257552523128840560247608120559286268308873333077728927890353225847668612582248152135231606710722390402147621747479412338138177597484430134864559942402084305340845532940245064739821879630832229489552474989753352577761262738312204610122172548613462084891549564939426678347863022815093421541884155152852478684844218003431337909908469173247158752444972176370428851430324707672814612773910153275641938881708540583698842394958834065697961982706307231746492683199275949933493648123584414788852691231698146270487234994602451132820]
set_option maxRecDepth 1000000 in
theorem ends_1 : pkL 67 8 (fun i => endW [890406382, 2445924580, 2160921000, 3171462237, 1406101659, 1394194838, 919259539, 678038142] (i % 67)) = ENDS1 := ends_one (g8_of (by decide +kernel)).2 (by decide +kernel)
set_option maxRecDepth 1000000 in
theorem key_1 : keyW [890406382, 2445924580, 2160921000, 3171462237, 1406101659, 1394194838, 919259539, 678038142] = [2660285101, 1711704176, 1273074314, 584578080, 3296311201, 4012353487, 55869014, 2311366563] := key_one ends_1 (by decide +kernel)
theorem leafK_1 : leafK idA 1 = bytesN [2660285101, 1711704176, 1273074314, 584578080, 3296311201, 4012353487, 55869014, 2311366563] := leafK_one 1 (by omega) leaf_1 key_1
set_option maxRecDepth 1000000 in
theorem leaf_2 : dig2 76 2 seedA = [1474763664, 2765639149, 326654974, 2638656615, 738888719, 2184143936, 1847455533, 1269950144] := dig2_one 76 2 seedA_good.2 seedA_good.1 (by omega) (by omega) (by decide +kernel)
def ENDS2 : List Nat := [1233325341031784286163102062998086390248280195206779158848410615324188497132107590291033386132380219514991374689940634663345619791902086096463014517688935590797678587784446295372086132551142788269835567295697556918731225188788257914863307681021966143196307654107436739548602388212590598947281802552117715141672477657194763499188805812825204189930140195350401034476293226671411218813633142784065855807147311530060860816374919238505113370621651082194332514697466775831957571646847815024102575768405848678757180844083086815787004462724014399578873113790127885011310093622373748395037658525421252905198515264891671758966449189348398082410186373003561400501282627494309907387868551520556642202413555514880441920546510515265756721523442967718014835016277823525643008963322843180796460111991811043072078092166565853575244727682858367410104847617781115267760578216641222905384171866769509003510723100141258688104486496181597233098732085868231452491148217130625802437706986589485819639448327532511968545723988002038287416064335022169076342571594978553917248771235011869765397435878468007685064849239764560378979166196867761063831458012708927763084332252272269194368440361642286006461584100682067331618295746195131407537757154687595855634507548737983544017781597189894338881135513523651520195, 1100654718136780564448714717172188761308167082364373134986623247834900041495390274767560260687232031732416021023880417429993189358230934829566236989115995773219069997173866694001168803660149135571977473400446197014369725971194177039183009643608797432024815522168651615538020984013867719199594851043035287835161216409565164247232546497784016392818344109379551406606441269213237601047195509924370929064298909029887003063041137226050715975724030032708450694491784935636266298596532360034936900606109277052740441810141093875783722817165712911996983320307893660507126630531121195309844064063154742468964985989587600814434062975237828844199185386115366376157712798135429661099943234249007373754869346651594845498602271182957163525126039168355831814784399242466079860329549636692909227677727942550919629981279639243670744753094626127210221383858300247911342129387914548036154431749718710965885721841200598892091569191074603181603351476332366857810457008344813662424550673240685899185384732579615069707391764849265237120201974621146827029388856517740842476015701041861656272019532326552504833862650654543811157544329844972461758820994751529685110459075555365186223942496409742463296972404483279146068516155628048349996339154601135621894227857769345529582625270894902098495168570042055991301, 987090264445107885582936963020147962562581298299152089640038479046015678903261584256001003585141669589129837154002424165442232336936101514475333696530139229807943498956565085288679455013084123950198934303918142738178534158211350011589111112474243900497376593829199780690459377462940896508472968103350681835066371804343298205742245976487826679227395346677030869513332709023282116825891235497014723148385463208699060606276754065876360978088066423645022623055153484918357551588556895464237639204032610724497905526152272178937878279113526881076036440303055006426126439939722034771101287177892184721691850156810500370636633336768872574615616771349930195360618107633426494048778723993201719100866439535774480926449229705088829743586846646499716289143412077651552113752577141664251509157722185800792751445275639625939835245995555998330617728048874506507904331205972275097694449081375752603977882467084862469377391924008617735406565724278338242540723361514872076678227000179475935083707955927837271994915203378333732638537884352922650925496717603501667295929820008699674913803416535726779846887841722706324919361116384046844915050714608096192136349036155861352765869190284380634713669216839021417697859474945200038157426193436530102446876000145711726033924920899962413037969557021090332293, 408323898297344864687859868043595921412589627991246158289185902264451241723376064403971124363850514305098975235978843179708230222731950441257589363774566590170850807989577564948486150030857900455485329553677843907245351529673354508765312147185151491271304575346240581599782808825026540801407385128236716015618567744120057334329325859617196373255575294546848922089218487612741969180690995506149736352608649079037722320126665127038645292060557176016775420986425896845208542050720232477469271087908683897122964697991329203310812237438563552813466865874350740199250861504570236901510775097824572916702520909625170774962923085694352375336966074508245959308955367445479440534004036889286015784606329440298868878057670830235638966366419283371560556847389291791464146527244236745828056553548582750196000553266124639491863452299222349527433150528725303839543301069440592973054484657064389229441804702718721933145873847581939723967298805419992287989492146610231680546286412313563231256477342054697436751231523556443588807150149973507158431597374516013575638183960300070713474334706886428063867237735999462565514518242618100421156937469552446031640043127992340170090212588242743801725896935082995476571207614923673558517412566814914426535700053321039603703202228297134740661893476519104905943, 540944774458600673008243984052941855695570981681604072124179272113771981060598983987717922149649657426192078077747995215164263798772016554208759974856351387081456620755224466306101124399767109956057464263734785809622721719788560566582980835110982000526881127499901129575426818481033200065974656661587107953810575497277786980303047334286905691871895398001110662202407814055133814535782369062806436299562791129885253437816798481357801344511355360810726818094993328450662111140633159982606025216064737086565181193310323580154628126755350242636777577868144892136151604682406779435590722573045052091990849320417587551160884971353178332944692479672032512225197980637634409635347556243118471311701650910020446220994849845384545899793739885708023978674095045194934401527592817746333258790158191734563528643144295252196612135958377422233349526800630235985471775278955268681309405890191118965971777409795318414131291718934345003923956528835311158278792892674894192849386900466919942877779687940102925234816688593623830900789213906078467157287893399508966772825978309188593253163778742879178569107761595156427363701442579570388936904735034149554552487213881311183964004706483706841759898109119384946821556608699694628572582878432893161968409343146741706900950283654453883416670667089373878405, 1326556041642117202793635716595251623332454068879132896810262741341089046499358378017386048681938134550485509691747552866115857592418288466157078356442477841294217416459391184843329876698301484811079196640302291174708675585814476844455656782247909140858103976522591546844349667609850144019656943677515786407313270496189499552936304717307248132579279919253652583764649763021981063050900389436349141304211299500830153430454307049278730248624029465694626350746505897183601278700068320016391590958690310294927576089010342007747662606858174821067169109975952925588429718639977085830078811441422271183911462954478600319571296702777639414544138645175299456181331348391956698133811304939492829384617960632750522001807093571052976557574874991851299039653431981156060151901007342301065724768691328214262946775756090464722953673999722080553103259464664955953557465114977616133463980813460424505485382626632389662710707672514901204266844128080941673234449428867850199059003603294988570888841761998529676127689189928804950581327967573078333250272999209417807981485580569332501331992514580505335144684616464911730487669016178049937222253754875079280931469742870149489417940719929242464610900091164664331833618988434419940686777874807708837041111358994817896110796439112667522479706425150566658718, 884754777518605127507667337900974114941483284481819531755118735067945685765212139185761115300360569004419786362874870800876533242971885180338975602223476632461810354398534302376879556516922928014745101804986013509609867444045052772713616609776459338591462555769891423857072330761741836526654143261741435380240232721492299684675126103218201853200336450999697973689776391041917983644464093088990778379166051261868425884107304207535216569587051976283722685313808048792684628914298632140070347518146095337986739231896961003137693984595279771014006817580069619414859336507927299275832839762972773468296031709811711528533211229553685961976067486381568751599383998222383928368924289722583231222109759159147453552612685000311676552905913914268618385519964300246433995331077137202803268791772242667113741059572229757870160832672338152388271198597889019738648303629427394692494567324038355828933044115783770165096107685374478433797127319894661510584625961351754260720383548856106412973082960283671049493560645992804771140715953590430758870558043611961341237851962248810156338664142105016243046698388722519013296456485110028869737995305232510229268686045484378853219436858593461376189236816608353954973548293635259991994895431901187564520226456436386839500795555192417208110465944036137998102, 538972696498713269359882538456602242706715051919809201924201339123543550959755614630269329473021825899202102782089228377329095615126960755482629129769272850344009213500064473656900275494921790946134771010698827462877341828493931180519782326480871916054027561922308852198873269051265112951681407770995515325167316402716538183487086387744655913536445344325091322172425839300106545507636933911651791446584288813743858543696522985734789572893094660411710374913571967388976193667271265160132874883920245577396691690892105661904169993146081302617570019540820420166223676530068895238255474774798732524736855354130944113844012846243034972447728239903229666984123472357533737272507157833709699865186557743783377559280784530597997589599774106471159831195760783138399515938282560484902741071233227784476663969569658012233006524741761165230440792131132181403145845217286583896847146964928548751435906023279402865695445286160512925103083405130833769946051312296870728687950899223894901703354550481452256211636527856812646286654148401896139935747911636689141731808238748018779153646113125293876505402914223973676917835218868455425169807176482166748794855660458566005028724703658817134397638373064022805931886491362877721697409168155948538793058206275660798248324123555342234118408761174626871832]
set_option maxRecDepth 1000000 in
theorem ends_2 : pkL 67 8 (fun i => endW [1474763664, 2765639149, 326654974, 2638656615, 738888719, 2184143936, 1847455533, 1269950144] (i % 67)) = ENDS2 := ends_one (g8_of (by decide +kernel)).2 (by decide +kernel)
set_option maxRecDepth 1000000 in
theorem key_2 : keyW [1474763664, 2765639149, 326654974, 2638656615, 738888719, 2184143936, 1847455533, 1269950144] = [3656277219, 4051211005, 904211131, 1644865611, 3053403762, 2078973547, 2147299780, 4092614436] := key_one ends_2 (by decide +kernel)
theorem leafK_2 : leafK idA 2 = bytesN [3656277219, 4051211005, 904211131, 1644865611, 3053403762, 2078973547, 2147299780, 4092614436] := leafK_one 2 (by omega) leaf_2 key_2
set_option maxRecDepth 1000000 in
theorem leaf_3 : dig2 76 3 seedA = [3245942096, 3127504866, 2583274064, 3497537893, 2075410854, 1628940147, 2207560904, 3315957898] := dig2_one 76 3 seedA_good.2 seedA_good.1 (by omega) (by omega) (by decide +kernel)
def ENDS3 : List Nat := [941670721789340125123551911446144078672338013237592241676212457214135925603687290838601364039425793415814402952135562393720340165598366871881969612953590744664683924846882258913387759007755962377153674017576572162930666899338477789024809032383764774920169771811937922526774936379778983456103946828521710701271426178957602055023522944669261852042915258576867764606409377251937299933697459798284196455807251647197803789401701049807792646597369864037305790809498385206944654198107376552758816751545996156892762808722581244519650205027320628571101736354655430349139453836303477962568132443185045621567275362428252210121359728025713658600893264597611476809298556385884607745634497361355726645978761684992582211516425887207123260819308778119330746385398239165823629410703051553275455939669244332541668355346754061132840595379923041416642664715322018167843338344720676777087926333948413920624291557197439355142289549222102732050747007173635695246739089931097042543219956561574210717774922890009753910228606545388220005324509453279738203008944270927743078162995428462450700059889225267834092597529335004313419649886664921971268488508448357989534163444967866774939266280383175849045836308432842399275074856286341750073730365598359218669332425337382989540337086996754262012446356761922693465, 243680196089309753946008707236140731412943412248313743210809016765082888245346272309969889461870499414995959871797736383351622719990768246647124195980728433240592027644499225645006559169193364084718099629953102798606381897092441350880523616224821893583359876590512802104061060258751649595718479007707311058001189662133492664531202442263421028651202652579515179913364342528070185890370125618117752976560758984408019978169283445962384774100479787230867877667975402538088255162053986884469382931375716078335642691073092950947522190124128189758156449456632226662059416875635586832675972987479565635791503420129815582944271416825748101401188486187250241446582685857654898728491586098391911228097053660771025008098369868025565255798879210133553034950820366506358970052834745154899181552992888833375303687258972229320100998506419597598575106897671666965288551226508920379752357232920174113095725312159210503055494012425823108252493752677953211008982366909755467953793549339989862115971253063967845259253306644989603753876171545356064889866526046011092000423653820613092936273286741633024504933345300661899763565901135772976624663734892546645714087782366328857255972244306847390412644371601422994934603375835655751447383029477780858496669769181873255641800820832319646488019544947976806235, 1398877191669164338027712374775976833101454868612115535369513992913938793479710672429722575739952096881438904817692279314864488144385245260006695083087195261562628092934676655053617437102410510949780767151691727844957949750092577087414454274841856923158974241035728032452009516977369884110911396514451100729421542229173603141980082157572758929154070411656691966506820184109295397365201225652000545364092248898006667971684264026042942358540884767325152443746108640333171590347139411595201063614870748787781257075929901540365897131063754644938315400410647701348004658243593294582139551656055512809488748765169417723617771431594288150859725229687994039320110714452014610349310207629626766053790004705773461104091920427018440769310091164693856677964157660624100076904205816230046077127986186826860980541331154369129463325475397112714776754896930585159129598791302261607152343363038217791718434246152753687006832241647026671541141152622475380212385686209696964307799990412802601986900587307008834674663690563975035422752476592521717162420952594167609021780133028234649732599656178999000968125799997906503011409347931004111757173890709846941743611771014181771239400327710770162521844684966461922456868733205532662848341520856992404941309783395687351760448719181980340994582252425905326824, 337924306174062896034130048751970453600738831982087957011767137059225735508533105733400337633214267896045348937343337807541983713409770708350825939754373413532631921394357447880486123089900491614817761267231275465994523905837535185256815064774630070817704960897302063501986047052943476340178347227793463126768083220084378145362140862336483804343642506952216304199136246283737140858526760807806080425188741887513205535177704796234610844728491379096896713240212011910677251991323896460748175525047810906904257204396237293278153415913347889375412675108518774291156696789154824239482344338391403821690207527067471049912421695057506322295623740647899417806826953306332129112986691613438078076916036400935275521662487770925844921151170089680633486988382135186323515222177587532077137418106142197785644304504170356932428811746885658524257596630233597309536244893173774414895043017138370885073498393064657178631708076545160599956436450248661243301306553254273584957787079355270315256444384301877797447745443188328964091664287238385038849590128438737046934859215290442880944775374957853635453005448894390056620061777131985698782556771261666985941919596991986135897770351446680643499472307755388171636890628062510505999371819450580185835011671428607198509779526206027373239633118970499962389, 773091413209489354907042360774326437825384830165800543908387821468667115599737790033258166175484976504843562589121432213183289231809863407322638502494016405373834470452432341470776094729896714525051853387173238441428553106854746012166352178578310664778981385410382325790743020237363277483125681174074637118779086367733984846928631368214269122113531169948455730583799668886563263114264741134673937786597250474216214915249861315146515339257888777105405221364848586568888944714833098186530228810002111206815931245582555892427513508348795277585803341225957985888082986232573727161776853492411115190361823256044357343856673372103540198557270148065475276954327650782774560940803784098199397616436838261736942474864910991628338550800724372467323387910750185384931061758566777738982160250903364799038794165329280267814064575545592017241935099774608418577625085552242512524808477757421193704111502351703057943044829262934928778667616170068504934543116790386657935220197019098616849464049031511026302075749733016924088324948468066880643485252195245387663240842314379150994818564600042799148696679322965689239272856949611175830374746670759807042496653093682646253447028246836780120984284114262166089321925394417106284408059448069254893901291980125810447007428798484603453664581448306201676271, 1461195551476052881155901313980600890341007710029676514311275850628358040559968291571360101355045213465451609512845007752232640890539768587946478524605927593410952422378491077086297397675277077192500035959814401842860434221982220746808378955423063588463273546178942192413440946971146948095127797832576330654781899116512606628799438727518176465457194309788996391520576017357601163498405447163775238834126500272008916309190105029232069341951234276262536803943837252915087561291655112120812891388262626363736510764890922097522710521088320293693869894632897058444554007886324631505829806420103278877141956466539035598083307258373754880790296258189591873819367500901838146166633564960468988736925457679197793105335291849162168168919801718490661380894067112681043905943301177530042187064002794976321730110918848032414913095946475500241175698794382484803114145757175322426850393503166279776389171013966121478844243430209156237802663835997903706064643452267022070691124638227071643192890911758671280810066087379537797958268181825274073074314546706495039338749606950087717524339765500764173771914286733193075757664768426628919924187366551390065588345299517105622299974600458127891526024310832183931838281990923517414128109311559342827494144665673529104205124012428869659829042071458068753048, 1167826106927127663871093400588918327745631624187073600929749534709786745437492694212574604787938672004145054366074156162241554619691233330542259586528130803415511606478242419307532625473071285919479302049185214692137852923240074291297622292112021541630191394418177433162975046826567458457658845710048778634699396299394278538330267683010872500200397652417557679477222857211387311381549845321667167756488431984239226487236059050545099424835764420235317876948689207261835702725898867925749644367158873426608246995305185937591196475222838751343350769866448584418730608298019472799618028519439953674874973758419504236035895382962836145012084380510152219063483576282502217934229768464598233832272131920590661996661094612819923420574303260066807767583998758719043061329730909575874932166081278034385293877843245669423280041924437717983506450647134769891034121335808324250174857051806516898923598333081425238843553156800491033286980542671607045665700677937396044642855618575882399789642246713666752292488775423158081970978326727353103369429059445381449625159823094558423936865285431087050881418381399556537767111802455393546154968768819127793386226080179598535268239699500575357958979760345940058001641963922192423510101168450379859833967593432889362014107891102576878912210280573987256347, 1103469957726374313759515559112712453025894615735001823031197173626222841292402763022539506950158004445694735343971127811159647853049525202439510782285722801354873125276927534503879267991543322381175609531116571602561337062658908130112983872653613984664159458302882765877061471017769927090833951529825324097730876135455838677282553942795724762792318164352222769464123053560136452549633350165180254878936377762075062574313559159169532509333153011293149171493296584226803251683013718770619815353117430700858611236845087317482019769434057069641936466077895312746040869828343547845731696559709629695708510112564432578271738262190555165379102855756826598392845588826799397325570276475218400670568665512762399694161337064555434823214356069480454361461990695130070498164876391663208181018437551212501157748082032147730584150559340377826572266932717164124438588460889738386041860975353329679730378387639175983860375378582774210024748126395078729336708776626491698098921877799599916609689592277217108213283029640395903613409083281190603232538147369035005109108502412823369212352653584222447531647039784137632822046863349537377113005374593659753562916193795747088223245821234461669781746188021558854417354593315446301684598677980003311022833720283212991709612674713139968157565018702156557914]
set_option maxRecDepth 1000000 in
theorem ends_3 : pkL 67 8 (fun i => endW [3245942096, 3127504866, 2583274064, 3497537893, 2075410854, 1628940147, 2207560904, 3315957898] (i % 67)) = ENDS3 := ends_one (g8_of (by decide +kernel)).2 (by decide +kernel)
set_option maxRecDepth 1000000 in
theorem key_3 : keyW [3245942096, 3127504866, 2583274064, 3497537893, 2075410854, 1628940147, 2207560904, 3315957898] = [1963880303, 3940338267, 2765412137, 3837352861, 2785896219, 1640667376, 3990837883, 3276214484] := key_one ends_3 (by decide +kernel)
theorem leafK_3 : leafK idA 3 = bytesN [1963880303, 3940338267, 2765412137, 3837352861, 2785896219, 1640667376, 3990837883, 3276214484] := leafK_one 3 (by omega) leaf_3 key_3
set_option maxRecDepth 1000000 in
theorem leaf_4 : dig2 76 4 seedA = [1145128933, 3669636861, 3255313306, 2626145870, 531994823, 751185365, 2608582320, 1397438957] := dig2_one 76 4 seedA_good.2 seedA_good.1 (by omega) (by omega) (by decide +kernel)
def ENDS4 : List Nat := [1291327178823273294499930195462123749178260342585503904541162452079344111515467658177921533704725132146611553872237200705363501015475944739774274766123741120973316559297760583243609217851720536628548925946533974333171017224300560881407953595826550522846587936140633720628866164281019752278923803787650345085082941078875486302718576000153119242856351543691601337086798339628864986949050454330842299404474790817349462277931657824168245461354481865817179301060162158791103452124699911068111060539120849738074988902690056891370671487260214966854882704028463472406367465896326260069924879752156857036921470581851538075058747495861700758005232594217296667032391719232978782917836478130735613731783444798784853667898706527003962130939380061271055546082069406366038768196189050476685188124278948124672887118343089488158675137852429249810698712207860809958425975263642113921103459926266087031211609277454155150914802705475793849392247426607456596549153410473427876021470977693544042335382856695511412957620151891377792356503249357070145559476157256817041114129897805255122309693545282786860081701390968010227230608333747124449356527305390909594201462311866068271157071259974915662971088415767981243528431471738589179018564590810002531826828267561262693397481565341339785641347776094549658370, 1044582565241729532654664782616832305009057362086959975349617290720290606076241481066623624405765147533796182548562417825029571617932609843883662831248274577753222008498564034807663772226943815632407871337460602376394599441130616278688750881338029461316594008788447504947922153367644981091930280382542645718193005201677748683585070171074599099868534826172967757580237736217665313643989717731292945172645135348323736259378201598577112306221217077119414882509489559689134353544671060451497441405174112008776477073279083615470042025680830269551096327855013124841147763704926911013077191463998398328094068506350893049396615112772229207413164765214763017192238009139973992506215899799991646207985252483520700613451548778750824189474604783689791971864495043222056233507426650807114288766523708195694634161083252958416710759522707989889646031998964670846890896944078865425352747668684519729962328924844927458563263257530905219070250418946202536596994282550196054475863334091730239041411941758600184095514358897710876094995466275900755077722762485706290293218009823455876143789805828096173088659508431405298872444519327870715305967952559143251314094444169939641002014216847026968888571862665871473757374061841648114909257543852035447682265102950299514058611649981836080011788979521034248596, 989824005949442138850140351136349233437223502848983254492682868259047444702872377663758855366444744321782182204742284845377000697839766057641772942666064496829907490433842882631642632862154580787112199347200035596177128881248005449596220038806908397160217365399397151174477494506422181896818425685952028256727427128999981212056031031580885077669932616537015169808040021229496663999244099286344248355936148208267604482688620560497008697976265469675098349262105130091789894179995069750054221754119317457976976072839797423813441598817367036743001510886690730637306528937562803381454001049453719767091520628351252762475032407365232323175651643858892150930516848276449877542352997876888422685003635775632645557369728263040021414745380192015755247512554590135639653037610581581417951935756028119623916116341864523323195851110650698932957205351796315824752392416865596517953655412639967375912410488729709910069024780731933899725268073621576016137471885309262900773361133489950723275103361918474936017040517242200447408304406044693851169941373587747393963244672535077219546422873062956547625679703271038131701653187603862427428308160466374393716332378940531749523049413422503804007164827332286021307784918089436512632681780780334160250317713684086106604950678169924884560060184611860339915, 1269253179594719307144943073896894155460950144563769310899749921665164569217633769296584203905513174791030893596824506823777501011092612604197216852234142839102117740050497962646720242099225899960516076023930633591933560728171602423208821697476720921742815947727018335303648712703492998192212307828874424127028848607521954683359782713528718378436597098771528689197575052571739157785422173194621735553841781360559574854884314035173688475624285205243244952150628094534608010399299535772857528299069697912713604347015176876761649277846371358409475117821080773650285867069549566163326189149478028757033934209681206639344734407907387629788498018854010269049444535875697918983418209739061871259438026933115831961367020335486284832763562994918859944724121889898543635223396250346590918376737767580605030308465570118690496940239126209058719569716401965790565293520054884337977889848180755696807142310739685155276743782029626783461236540064870645964010855288154823260487078194251247412075596653298579743085474612204265800430181458546825749920771446721220036499606273853151250375003389167334561950535946354830032381329345682310401994347063031584968481100701542300112117218269652996761165508378053651310341529598315550220788937931961623412924516549902507257053500465120777689073990252696722834, 284172462639780108538594298595596310364289719756231575060364900442847565657021736249902980686699487648699127496575208735409838426782581846038554302183941599255609377774588706888741099974981075461635079418746601937084074074150292798354127762440261738900817775795157711000678001590820178680370013235888356746915231513739912216999457579127425119845759453130328429574631680523311396558149022145539920995378302055519824720958987338502686015972302848505920129487189530739432764431240442527169046129569931778115305790082052764204507805791971561875425611894531657997527171804218470933734066471634739889271166206773365930441702379400374565093075560165576353118738776976793542512593082880000966352825494900955348535543721901465894579609134024762478807975643170857045394864729969165707924049162241323391825183437436203317155137365411019880056245003598594689254569469451533219536005286897909011431419918391324094469737968674173859032305750536949767137424160089142944077405440137148408132171898857056539289806867941238879864382825491781113977588910941084009000284775082146310056214974325947881620136102870236716253838290207554297407977846916373235471721435169598178572787782697425407610678226132653213550803110363124624574821731496911959572603276442401025220280238485390740623532727086299102064, 714488855328064173921880738315755128162359799633504262716931614627812630991927604929538830377812420768267253428676672068090002715825057466702523555013989944804273709780093767949095460378592305431687872141693365158796897107260955070308040615312441192086032891684188968835654721872538464880662185802819183786830684300472765803883442444392045694377851968257144350379862106191045435388041059903850135318817938748336017310892779142556195229053545586517285715337264130535105955745771035132373373386649116132825865368918786212116708561013475031373173323114431175922409719885684592239826693649847428969001857320726476971305870675206358181027542676759246626995867584865383652302234312546745084300665177895014172948601581230681844482163575570296466407111527464736068273009225374863410451901462187054457409728674086540659125905371569318244088000493710917241698288232741782764254407345471608983511472173718996972107597153236608066273942884638155108414744066638664878771933166463512363573809005011401617878741058455585539225538914648104439676697989958158463630982912885461740809084633395576755499640844124332524271289657250568246897362005446292820233593321000354131085661698358530386670247348045095037730063663210271412956740233598848240418042348265440891057891899169450587248670851463815158418, 409895079328182411117683213783837840312817680667877546172239301128110708149825289358134092304147071946811909729147750818615962736920762083532178147142828969304178652769503649959657355337632212799731749374692447149497076374200626752763168043510978340949107200021219118059433250539560003484974260700853566012858575212518909540516684374670794889310565331045196515944983776952456947387770659521609658657143329611452891729998781674021303815886103591390415671759088483479470302268956618475559397891246197587356891047984092921306206530616947057635708700121616450551139437612105961672512678986792557851242037406350195968766088111642229479631414821301604360373311865735151315143237054322263067502742807631503138352481075461905709383066886947463938479450841399560918621198038504486901575125773031911897613154293223215876380597468185223174876745754686037574264640933193779952650560049060946292849479427490175081146557552155842420862759468574691747708385607988473885462904450029294809244507866479153643919763820180852860219600124852886813610160487442669132830712484971014277407009619758893763073764888179023069161494999058969434354435649148861307653786978066456982813978647545868836596305841985282373317617470245733758465558534040801760963983659818528347652517417787477657209992914515895317235, 570203521024112579595652510378116646442064399395788451792906629694298791128993967012436362927032120253815101593346753712890641875808320120533524222797542856980253493425493332405858743295713631846465372094332073387602576457405553871659294809746284958356869140239418328703750988717952080444637251232682363400065158330877841470294246524626967348318686349360122180704433589569357484252648104403515361800675910655477359922873056118478297121378356040803577121234191105285808964692046489972191763005767135557327797154735648804016296826019583856764943533839131800414801533010536690102202022267129118585591008457317680124203045599157471666171260559933692572566885640925665959834788985900808534486348708275678551590178944464722723893101747692465247265688469434586874610439181270989146959241604060356200046541332712977484643169279520811249571478982208060837249188520138201712652958664025106286569944914760614249632644234386758238920289027502017257283436668865404606322798459030473818968717744173125458323162463808893456769288982786295518312541916441470901163507613855419971231710881079005811080132645066236494446726084521839783897414518278904361704201738483474035355752057538356705902063996584183905271566159134766842372212620167625606192020854817437878759195316897365454094908913157843892477]
set_option maxRecDepth 1000000 in
theorem ends_4 : pkL 67 8 (fun i => endW [1145128933, 3669636861, 3255313306, 2626145870, 531994823, 751185365, 2608582320, 1397438957] (i % 67)) = ENDS4 := ends_one (g8_of (by decide +kernel)).2 (by decide +kernel)
set_option maxRecDepth 1000000 in
theorem key_4 : keyW [1145128933, 3669636861, 3255313306, 2626145870, 531994823, 751185365, 2608582320, 1397438957] = [999055042, 895100825, 3269661927, 676325617, 33304442, 3993703458, 1517422541, 2052727904] := key_one ends_4 (by decide +kernel)
theorem leafK_4 : leafK idA 4 = bytesN [999055042, 895100825, 3269661927, 676325617, 33304442, 3993703458, 1517422541, 2052727904] := leafK_one 4 (by omega) leaf_4 key_4
set_option maxRecDepth 1000000 in
theorem leaf_5 : dig2 76 5 seedA = [4291944919, 4115442869, 712752512, 3327259975, 992113290, 24830850, 1154308279, 3721540064] := dig2_one 76 5 seedA_good.2 seedA_good.1 (by omega) (by omega) (by decide +kernel)
def ENDS5 : List Nat := [506748083066432354146159834122534564924310526916363965777063457911840725203529372258539339452553125253055727930423934365417851068428695808581966468844746767219824449549751244997259202836007568295745990341496884475048083125037849429915987615447279327613183771193564848898877420037715654376025418815528469848980182001195654909668590056826943353498183504680070906488034317331861427077032467037609238063612444528127964889284884744466064482005111716240123461039148619326800378033660347484760253325219542190862886250873020319392865003224848091035966400240994362874811802294583477348183287367487769565251736814745958350436465394961387424898340710823761579010959187344666086379238023832543287162806849300059160753852185784981395836676410473057667084917445545515706119423516501787153026102560059025598687589025689789063067869964723305320598940201095613903825662459936937532391165478855110998251155040024471524801874734042287007506063473444957201837012977262086465466638170727183175897154083369111642191270351885195256283216228329980797105519266024104211027310946536303437039423729785322784058320835969739590405265839889774820988663076902939135660647800432299721187570257767272048489583279669837674460507777605913136229872590522166077275947981341800311543758789247865643776062103418769054032, 44667889655732652876619481152451927832324756768019608948454744819211006192625324524876487157327607248569082377203116508893247123498625831136110903677022579549809125543569558864806225408114584542802991670326648683700400161742463997889648446397097605858239281479199735125776528154864592777614607718110369191757657456531339913220478949456174193273676031303755785878165790468829162683545444616348654079189502508809429707609590270481047506725256024298785104288771392547563126308414756110627313233780837174032481732910221877171179860922067726431662804622707794336246295026436634315281983452798184844662650655944089341266664488302929364129246718845137207986127915442982631211419244526393984041980109156587557864547785663360441728059582984575507315039592296271925140383395130319523872979541226041045439952996424072675271036846453370622021377644510030978224051412779900352168545665526260144454083684585059191346968538789427891471005030809585740050337742183433707333504533234613282155273352254428331341878758035542956353174286235054188346997659851293419819339101744433165019927880416838050850894398084910417249032194131820248135270558221166218279633495017225403034356202878535514942007750975377942662471502605489232667292687723323392736294257474229172965837124684210097010965592072588688669, 420629269391762905684804492849423284010443605919182362834471239334288815484942946474207171674317839935775457822703736187408846395436939267039866228160927160693013721788485578086497382803170299951790336369651418960646292565672274019169422658904013691684498303458676393355205691909511569121011794636084948505221566263365851515911639321815269821619836743599932667937428245700392557488696510494190411238749378645783201990424939066385992774796958910770314731329990456870211057918162545427032760558405549472520296883593917271478620558992041954141787456506970523121888998479041253856412087090359808475696942719089100636665371510114340943139631926026527943731941969449662332365154752763919643747865908916907995423902483013849905036904628816439962503814345632865922732883918864093840338648625518932698367403963574265297319233313334300770853190422865819838694103279434608057227593942008748609235929600691670070470829887701436042731061513735338698121198546501559591511294720733374601798640586485336429858207265443432088260883089156752224456364261141412075364620835667589633807434563170096224125630049856574482934138898395866013905285170223247848808471587041473528291748702377818451665939800793650489390519109254916819253464161154731345102835970147162085607264920021419155016319056787433962927, 891986238004849918247939128745029768998555020779187725955135539242823388051113916851805792283675573389257657518072446500863080079907296857671985747119301128008196815657678152678672109705895143015029319584615307385506625149675280928215706600144696561710241160689086022576567856180490690656611644185250747722841180248989198347544396816007428547883718473940420183359584704254020709035345530229368831645001853656975135410236726252751134027905979132971938338335142798937730054608581004269529943606070532144540260589144855749614880533319953660105073482062650076035816028086557232424112909654555287071675349253797057245309700976615687228203008423152476582197135587179721512991388217974970210541967808833080242483313107053387470959677053701628526065862479992011401195268203190944244980737130981769681039330412525201016024053923722998208621297356993825907184976363102200714037258775656787996269933411631858235977370644699784802797701416316353005043250490512307291221160956079563660374400874572807592075070283921432115688325586650342924691257134985347838655795400842119260686105500465033599379819353766052623280902378079379435310961335892597493556656761986816744023714537004225677394523460373603887051252547646832277438760194969586937573704039433292326290264545178993744035052219277877618688, 1031019846953343564339497567021327405335176256524914058164063794470829429245421196240589405685418974746292728161371961069292603936822624393570973230886696013877471340930295783082632127436329543393135367200173472811064747212846425459763779222494610434374107745202378750054426297281292549420661688911522177718595954753344759091702224777630448911659229605791046171504601736214101104704492333759386759532175714807649246514974787534226918381569279304635005581079515427473932138431658286338766021800411996305989705745009260904592282632381097167685668669888368605997034171812058263844389624691331694032869967284118372632308224619872054855406877954625325132017992702326380896998752559441861946604957775782880254315708786067724960299225991066051352475090384458055253328246912973912216729348183017640397611910962099901741888109394381003308701446596592606466631748169569054556397171433285520887858019897014754601838290427000481826941736700733255137754740575010549684315766603487891877822746652444922260363529428375549417436571317693932928295550119949519526168776270789242655816454789881296580301012524471061402477073228986204422038597628047780559427909210237889895432629834077314098892254187835811289800019891375359615641018065452028883352034113027229822053712868935212862628615366318800748329, 354193930685310147137370058176976808434701150269120963941477756915632743404996911826318924263244743137369306380273526234103641883185246562931692704706247467346180589832069851573183326231438455280517616704001845340796439605423010008750524747188800593339563004666069336223306840678892379383819754613997931472072233985203788350340724358615082710641721852284541423901223688745153672778380324944400469276128306227201013865573677140384848633078249544978523767379956290751406440691864786497254668630640370166272561472022119229281315167333305821190627053240249103263720220529247941579616064405450515369242793494410292080505887399140698505913570805053286907627268084416257144910633760662524247723005671747170511590990470198950123286465313989331467676030560339643282585046950229977309194258412068922263249153994236769631700714557029921728959161121812944627536195355841407101997400038133382906707503840881486336964437621760072461345247436279476322586054878414469399333033894950889978234158967592639332400514872060496523789584832949549085729090340925402845387607300387008732576021094214877021408561909717638037146236760550425013756146924035121718166578936047199573086775355233432559482746683086507388024052391022388070114104123989419535848334063673176411922255908282395414002247537361934442661, 1318885898046616858581280281049283342689546629622633756670586248114589963261634347960139607461649103384057045918161139016154486905604598366117080979004494806632908964562096640376313937889816077879621252403488162005360658235498369259161004296391181166457801236344525074435040021569841000118012037362572851949744368749417767395882210124391286769596271291268977327080969421516122533542122555805684343345560400035622905126283820413351892973652914538201421335914482849873458417799879195013677672375404628358110224992156071851433575887860416234405833893398266711488688910733083677551939401207995769201191579718230799742696279192575493990547772296519560736389660803191910361969695868175331959501226713978645764389551784196392409612989215359375362322165731143477447400558129222414002093918868390751959200775989754727375781877822057109478827139599137905921013181365235466577737007995680218707010463869194908672895771843904924977010895433386004465898439670583272464850304603300334237460227090136225236039044449236736801831556937012831154270967990696579981682975047137213638543737588121053306831915757249529618060728944400114838584079720052264120860941125662918211683277087183608127656825621204683477356941117332721991749160625506881792846361638403314305920203355876175570033415541345094452100, 1094796777340341329704022709755180980143534514421968122047932100275394973107379015842827506287757641401140766911647961838051583645204637793156007771790075386021827942087230510477189670793627208154688807225390355945290995550576362857754211736797002195059154984171315055565046768829023865585300608247820486728900854297789199635081307114338673377070539956581009806957221006091509604729819087717284621549447342214526192680488759531257043934626201389852136281521286256130539059960274114121677461692362433938166832776843343284449617638015318037020486641729622005926719444041828193424788424275460076043625499138775818934457289948036891086285429630497019040697261927019074313083641111846838281799811546065911299973009900981475191752175671490770003540651058070488768944679016153037990222924106495262576573065830887432026792138554287040492185412977313205207532756876532138305371823632074159586686328581298416416666611376670146367473187159312930373119339774010844825914872169100738511436126582324618257813865199388517210977015145675259803371915082940648865047807284075724415714302954504648029168776835686060329814910793983260815444894869978609595629349017909802060245386124709926900111754677150399748586754254059253501058782447167063780919942943679548032926414078766958033489385534310829834639]
set_option maxRecDepth 1000000 in
theorem ends_5 : pkL 67 8 (fun i => endW [4291944919, 4115442869, 712752512, 3327259975, 992113290, 24830850, 1154308279, 3721540064] (i % 67)) = ENDS5 := ends_one (g8_of (by decide +kernel)).2 (by decide +kernel)
set_option maxRecDepth 1000000 in
theorem key_5 : keyW [4291944919, 4115442869, 712752512, 3327259975, 992113290, 24830850, 1154308279, 3721540064] = [1021205161, 512974439, 86230015, 3362582844, 1725396827, 3004160305, 1627414013, 860088621] := key_one ends_5 (by decide +kernel)
theorem leafK_5 : leafK idA 5 = bytesN [1021205161, 512974439, 86230015, 3362582844, 1725396827, 3004160305, 1627414013, 860088621] := leafK_one 5 (by omega) leaf_5 key_5
set_option maxRecDepth 1000000 in
theorem leaf_6 : dig2 76 6 seedA = [3103030295, 3281045313, 4158201458, 3061384106, 2649589386, 3793470706, 2426789533, 3455777119] := dig2_one 76 6 seedA_good.2 seedA_good.1 (by omega) (by omega) (by decide +kernel)
def ENDS6 : List Nat := [275512001203404602265891455633213902375845068908252515237634829538463926480672672598159597486958803138155446295782937238469071685005746667312050489192136749457081320010475186152816081072113074822042644065625723514959895563467480298997736241408340358351546448206348440955178841228660141110175194412066190739877434869971241876204158252513739704658252641266008040786607507802224854698191911184682402200449844392122464978681703814392352907857782455468392151855335544521924378966722144899649742341155986448543245719585297255424368585211798075501955218996741008722421819902823914702355236544841776971934872014077438636501785779093762311042315397475016061880018661554581534551530763437169246529347103993975789758668206012487224083580108098138410336992808790531302786059368524263824419601376218037202275251554488090252569511299132790903427000268458990742529177025678632494676725419307805978950048778560186539080076672660746290334722485882586610693425730058836478506502754123897650271681955159037049603795969506136675411492379029408253540953830392419384861934970513233016986540261438192850942667493178013395656058933116101256605711147358010624367501417654455046334056096721812008998079742730984899980605398320172808404213777246173312457826594805067509734867146819544049078581100401663541307, 738786920109720916955611695039440466268833917550717624070085286080370975462890931939471743116647486284582269605575864470484182974787066094070153935493179042205801274588302910965002103156824717878046420311163535571147729356427348208416011735292842376665469299385236671596470879110811632258798084618767764262263617148683860826666721940022616259204168758887558047519950205014914559915752214700445070159049204153517983903124337329906294778469457049821639484785632641983243997778501335217037569503453142251547658430509973893560697270847612868175263359695521358962023074742609744532621497480514864178547597098797351263907535246574862254476601896847124636070138141395902661166246052450652534715328726895138455016482803529520723072913166788383025469133041341695137906921706586201139840268570921866547186503125714469781584160002603815948359195812901644979553817545156010175803816827156650118807781486097174201658526714826353249784344999155566693527726148032033756905420761804426062906100542210322441432293342508388496733752361709515144942748279845848290010602703473638071872809865149301156343612038419378303065928557993246625838733350593810174448436845410032449268274490364504668286736173785256786394173434819862582145343108871794940812482562334160866875142859801607567649083441980680499563, 1482682031113876523207977166520009318137658808596084895261578860399711843089026062387370459333797968160051145742001750697492887641636963919995746952514619179042233598842697418180100352888951468661533828240467971097986748998599324334581991618754509629094399850407826322664027320402466568359305923663190472514161006042426183255449078509565655585044331841378867385534954947172164536023488134547841034028668995646569421288740881894976588738685654626194373645722785011282683975292716506938181921795956173818329591709212674242669001707551530713571173275866966758301379550942037659995612413205761106808792988170973388929686919518614592784059660496510741195236073138207814508199159124670439313718919938801593812843432125326596080248123922994670824936419237516991580587320855790741946171210493676723508519644237387703282571482425709308586573468071586014466994057859671311535688697571775324482962220378660328300264539539711409219399910234935676696332808225705148725572679810857120493096987646396757120310012845105166260699423431665991471869772465167208819464973978994986403288653167219329557264741035752040981530022696447787171839160420992813253486349039909133889193279272680308017119684898426676428046417400066110758881129648831780330304820307624208570448654467717146808566646197601573014643, 402371328572315935064218775782230125620918897315481323794352164647249395118314028656373557195969620439427668767249527128548760393367335747876112947978659933279528351700728813937281655252418515040855121051712889478342022344312466449546062967375449384199292867310146880985671895807317806785807211785087404093144321419290422347432799026109910924540521180340244323842508099347966153444684072467881823870748269324383016271963684217696447746655126321228362240288096008150180280102253643928426479286612139870460915079420928667342652017581500649429903999160246272764531706016052633089009317230472051765733536241932844200154497714045010791639460972184393324928274426043620059418579681304630575705410946502286339462392460300204582874866537516932362855274941967030275797675974951438890437055241434727640336142270147692522074484684923219318852604708499683415034147019526487646239192947192570849418460301675070463995821897318556794917274990861671194951535136777570232198167910950731837439041202503847754603399175930684700503751509481017068873456418886572041507401830802280503443091238402161334559979409809561062644526445933712619929255891978602032916052279625835572439198257476294966316161872117357477349049149584212063773953870087694311292829018715451557117222202318253794620177780444780342715, 403342704635052733345741210217981453259698328020384265017346904852419155855715497165830960338156027457379145408412986061178663799846712266879611916567452105543164965098412564501281478793637798507886772447326147131582232182508991006668040427414685283637634121195230278178080784185377125116899437265905418910841542949754406962136191115992106668638792454067117608692635207189477707634135846524923401469617930702988905668129921533101931555688872976590401581329991024886948564265506230248005141148598046709689511299657265974863279597183047228824297429157796937463562874856725610477445835167565995176532638472160451887285619108052465749255732580150889643275776123308779138140150226427505059694687898323320083371013463294043672233456642991854411847032098379775800020853461929780409745660404457916440906392185175013110168035593602242307228179376870570164215567455515847039312510400735564004346470824061403678628765408441853202845224268692844731324554117675766400762391371405561316862383460719547546035000948412338571908307179812315589601800257573659871468878401118451779467055786167460663532159815855536688424729039038616098132342032811537169600054249601977070737323691411730320673633646334524366040487560539937433045383075851418245414758044104121399809510747680333639561817074578937772479, 188343164651607057633117971444895129424431250585074299528785348657422061371475951338874296219601666236263738456911085114611885291571847992041458530077739321070507009828060002949786062898782037417716234463783198119029479100761606387378715407842415402426572986422469378129471500050829897606130691108300205138147493687897524396678743714210341839278421136256251188122390553892764860642127163673064149342868158702321433359662437895602636467805246007634192318039100170637713827266618058901335034784757830981493653311976931532674618932672221587522855649409936518667096364427164044359880926348939370837145496049390394685628545440867278410141660597433450596440797105678636888546277923725822622364385982951781838617188316227968522653577430300150039233415982577359340544711507260852214111695645830082462467481984849390770479732611563039748421226621134606637279611085147319600291219317515600991238013347066611048814839771878459890428077983027629787119999637261950344625382157076046732538392155636886553535851899668914987890845002435451002545580375055617360262952178746262979864731730600026459342802988137184885261936267243973116101811457912043800948728047847384197999283826872950346670111257805607727522851574377405905756892488515743461910313174045307335517660916636242472836641674743282795585, 277507903605079649927489455055788036050196488950356969066660107827233819118134598259577604790612324532246261864989111456488280542532874177215334816769064195608276851559741510186793128949076344382478530713165544213377393614876133359885457155523124682696778882400256312122648702877923236137489101010932053051281563707190526039087756752003298408292411926903210910137796386285687844643289590479443423617373935310780254181619187155083340749997641969360277990587529351371443013616279166422418589010240233162772950267377838829405294443080252385332073482587723700864955792184785084412429099441079972539699619264065050798024012137150110555804883054409681348173716756193676834325905432797084930455286918906264924190884108171917017462066481099010716889927870176961157064400668386312834805200387238835616189427452227555929605289199925467039652845048403229194239432733350826159549879112157123521303807005509342063689787946968005801563063972220544597341652213713768000650586788816702278698545273699266837533557603064486390473483177307799365447211107458799423134631417522162328760336176828571645392651577256004753259172127827133437690684742019337501677704439350729061013583689372926429114958889382723170476858594831009249293121107942023754148777614605123762218553140055097478760931280564749144018, 1487584906339476747802503777106621588254447253566169872769577242800174725336546731806398316960172077360741701573384173624547605059334302995021943357200974307773628215555754870977626142711741114296674656178749772586137352350641329950743589597719747886517263786637115860241846584028508112940674409893287021003997019994515854306269086701101442957718992282768970454189138223113395555764897623611801140087063299247824479488403283294034825952369554343654601770401593378356061058420012687199447450420340016203710657143099550358597213920755639885736063050070293277897659455186080504556498555340452981230928401533704114146227478013390845712520326340268287276450220029652884066064572186737440235098892509217383985104822517244026600802556621909031477111066069334395629181586059433337934113931728659165282704576705603223592895159368116580259270247101249855089452508953443599327347606261117461014689916340803534375976934051792810775377291602846713880187499049288467199438501039210035863817230212809816135146039941229447737332961670690682951552524575911130900142267554195443780993157680217433506278814879767334192117037462268914347452520435288947157380389896740356877359077386659687254833084904727617131933993143235855833732494599322359622043544680759020361744764607135756075380406121354945525751]
set_option maxRecDepth 1000000 in
theorem ends_6 : pkL 67 8 (fun i => endW [3103030295, 3281045313, 4158201458, 3061384106, 2649589386, 3793470706, 2426789533, 3455777119] (i % 67)) = ENDS6 := ends_one (g8_of (by decide +kernel)).2 (by decide +kernel)
set_option maxRecDepth 1000000 in
theorem key_6 : keyW [3103030295, 3281045313, 4158201458, 3061384106, 2649589386, 3793470706, 2426789533, 3455777119] = [556738311, 3492513727, 274599518, 3743694588, 1105729962, 1083183485, 674974714, 2617019888] := key_one ends_6 (by decide +kernel)
theorem leafK_6 : leafK idA 6 = bytesN [556738311, 3492513727, 274599518, 3743694588, 1105729962, 1083183485, 674974714, 2617019888] := leafK_one 6 (by omega) leaf_6 key_6
set_option maxRecDepth 1000000 in
theorem leaf_7 : dig2 76 7 seedA = [3529745368, 1866434133, 2553251366, 3503781141, 1787092433, 1109362317, 3436511020, 3965753388] := dig2_one 76 7 seedA_good.2 seedA_good.1 (by omega) (by omega) (by decide +kernel)
def ENDS7 : List Nat := [752321255050336785129097233777335188996590669600004110811099098777048805611337153501332243685968016984357204745722706716065285220860709982442019506414531065482466958553266009203414735125110610863333469412567270055935143604462655136272882312775751471096830570739443109535387262133136968014810530649478554089722685804998058347978817756974785126028822867388116300215831313496614175339170573297204324730775238047174535356366237058022525674108078309978692429099375603553755997220641499963772324123752094218338600555364856805334732083639305294889469888269755138905564171174890159892468551909800953781710863743019208841099920603527504814825070377611124380588258975443999427061231921160460016951877463527060363496674685274146541915502969798062315697156014407534659029370867252153766351140289495303082182948450278070020666704400255163781245887763807008933174533293626701251621266543510045969023521955937106673991678787056960489048553687806037277428318080653313125868820062094593313136317922117868626474953883090160403818142394968537346073639723153554458379898022174579959445087791580748099490831032474967790170300623584710325715071104315822093607429866653897058289083585210851225782499969617899955190271515817590646676020414492126111249442531215722709772557216233334035878709903168028537483, 432596131766144199886758447960551007428963024297764626138538361982043855060567245397553722977600504478832202634461467580933057216381249264199647709635223248093901736130806593224011866143402457867392812532149526868573901977690637316528776908924333406344161055946361151582679427826918832918478317490174293392015374235824715057755164933573641262164940990841049282856147412198943439450259607054441532471149274771141591254230534294173680218989453557935470840818551347917922637351056852877803932966289445238100102287424263957977465473487044355034456344020148872037262806258316578524785456786059938560104517650053950119977422144655366551865095413874413143778102867170693978844550701446747087773906011119807083837365652292967156719340686374972228198395840066771277322556940943379028647926524149465928316950841316623882311373085420464037514128308863032389057308121865023964020744082294170076965102779629560972031366366638212804630964977461047993451868461883491989173435607887314359113710265141961099556819366184844477178549250724550991007450394220085161990771890500803880832280598710701886400601091862829033361431881532132782845327909589226535478874287332391811734142411080660088458912462793234315433311685250700541304727490945471976228264498846297490478667394403167441472022528502127945018, 825478587970203963293419595326252939487357862525794516541442457157673529468072657422320127605725244501791653098888957353648278503542257977732190581627697056441001743206216835329185173731952366176002144626529261565816175897593867401531253284713386490065312321314903611845368814452947446003326211531079960708183348845024099858548899360803750784285126591275946197362934930196668648260640585293210983725189916948627267782549817732337324141470201545353213953597274156864315998225449127393415441684361154397351327475616003352286809277288300489073251703463397285058913605606701517328484793500761482653898142170964509847838803931910364626611360818931738929230294296709232491181421646281799308951610010572176644212196577785181738512908095517027914335707607461994902942619384782687409201785772348109587746416450812436024014483044215323771693028497049216964234555806891497203430799244259373963089347371720531668364970560101042739949103082762986560222578769583213793031307818788600547301953046999565636904332406206134794886969151965193325695992731830604734125460835236147197497106736639933191933641580927998909056572521811215197271705643219360031154666612015014636064362190019897509714734454268774973066477472158265236336213559133338120191521209173377159498585701308134768966979295313253440881, 1278774264962356660104152915174837758452266941322259002760780163549277987003428286219105851868796270233217224658219169613501637107039970764491511804733140774725634080766601737415257583482761785951823019397852293116857567859788818988553646792630305123760977078714528756955840205736862151923952489162189190909113948923891763159333060657442026944108314097115184229864791247129966866131807052898771532838175869275657092339743053412735839256087787137801784304593199024225995777717050894954993503930991344184110411675561918977538633534802256731149340762302612301927972268835192834190167798949755535212796526132483305745791228369339450742496516340394240829829370638813087535318809731140495578500764570603986422502249192622510129032175327859680948831131562855365871338593519439234941759287197981906732529363013950387408173151465401675915854324465316182676983623076450977824626718061828729878186521143787455694618398862351386794323060355072004249275837597068946480628136029921363982715282453713983034599036101398311746623240742027417214647162820579172842567983012620365907213913895213640923928646215619673273695133693489519972835282384767819128211582866037296280551036636688092443899079302804286991561627429938018917816263402940820184018953632287277551403175115124193657246396622592753513621, 1227435404377494528236895983341763488881654645599125538694267132507886959488116498108582601922839909663169967244353183222250925021741986322221479462557749807760335402414013191949082213989757390954481828907708890500247951694218646751165660268900879828691375579550746054344149009876980347605609850370134249215657678785481930833281652815918784982384793981868215484876923036146299711130869250773486576509961159454649631064009317264012484693846036800290255932477454233624878437356634443227735901995735868782693757646198898426110571262273992206867776906081776435167203598698573407496554434045969724573587317879965045511397785330481075255899060025814649561653224799865227217945890935600710052109542589753943053929184177717394162306390184891489977141801478585012418716223999110635806778582907146048489016997779172444937916583627689953386920224512619086121803998708659984132938282512337201575190516672392805999911777916553010237657588318034253786784707245599980165241199033600367787495990742786352419752129233783206057217920430600166205302241181142959605001681624429662555103639567097884614472428617440911875560551698010798414003129660110280949499802416126913630568654427200964454230804620391710230203215548105583623861517734907812982092967926611124276933503135244645491107462513026001871377, 823096239390574991667239762232135290857103618744677780230942630398530636609928549340049827925083577406125257425444907767158600731394464066317343651831955921315333386245646898574435824618035686927315236228106875294336902473583161789843704607788426010290446662101350724862426333213084427842453556616378379083018806659976510336534210906329957178710953051838694428796048486991343433698525379004228889254990767673944805122621514992396216819991063958549890547456493824828206455218197147261970249844065254272300280964663033509513515753186779062185871228756894204441384762998730570547465191289733964313043363936892370162580874498664238612831516593674270222188688810483432920065196103184366906613355206023213069694711834383912953702188848637369153024425671511685132091591378335321968856269389879808090929169795367780209095309389325701683204294350050317756385071386493558469778633361456759629508878070664989784101208839782095449743809141238876687186977942480090847190050313089403138450977497984191737181730048060178728401539820014754889494552370992462310059206438181701313841666446282646758856083944601715956338521743151040338851536885482043837190931333214960141260341680677172373484855430895513851363749307576662725892950559166972980981563598406339862717520423284130969800023502271590454305, 1209636417948659464376920821456649512349014194289491816813407644108386440766896862592723009092815514668441566379815189901558226768456405049500544143540944368096647088736109274982822329400505714072006329108532631023092012911826964619376112475184695641286726685354605959861138810484322884339432927100490902464438209673552526945331995864444882509432657701499796843081913481591710384153912497479903903930253211447278473997638832796273613924482350298443852797997863815525374694546077404365955353101576514859765688171012790160865927701810635470081530547901713532967538985732390421218932710192806494374725503521719468913405716549499873243104042000840726527586677558563518907784969400946774025898242395075264504028311296559443302020227073626475513643411946216435839045547461830184509358518541495801824761726732723080593537245875441640979535551196087730031158289585653536224672929754975002971403133813481147660017119043203397522470207806326754181663433326033450911597974811106731420952453633583573080724240884875651263096827471074618434347979137841144667852676826970783320521992119654774499880822661803182682325085695449736250154689138298660306086897787877897510760987518955159272285163309844931346479279209368315789308740079370986287494269560787401655273724103370516153785878863569792374390, 1388145577096046492299138772078371459001119254446301398501366654970948557146577788442023778664956557238607874856099640405790513209445815904579865412607825434973754445230745201076912316589690701769789234919564930710390506612753891230827095858872887734789089905385273829895416575266346951097677642431342228272930012184706630844972824338271720271050951206916669625884498082703302048325382708591438907624916252907186917299776178712261993409284796957413729965572707320705115353104315230977772221991220168300051907302997994117214716846770730875766707322023655666828773694671927622089524489197481047891978175607570159187125164270986347458799440377277682231248974374962974436511491570749031237164010067713721401537587486252475500609794874604758755202603243577753469098109122412267100238882659251919758102708869711955158890545099208491380898702728738794046091896071619097805981089021725178102801955617322383086019731290608815235912794969588072207308616418367829335767884280410515652234747928965281690608586604852644764697999630982224490679289266411446280857123816451209909955871615948002847951348123310319448609252370237946113666430082874878143111269483700820080649490614841514340223779180790178953463362613342876735997753742002758742640334965227636176537469233936308195124843565757663451510]
set_option maxRecDepth 1000000 in
theorem ends_7 : pkL 67 8 (fun i => endW [3529745368, 1866434133, 2553251366, 3503781141, 1787092433, 1109362317, 3436511020, 3965753388] (i % 67)) = ENDS7 := ends_one (g8_of (by decide +kernel)).2 (by decide +kernel)
set_option maxRecDepth 1000000 in
theorem key_7 : keyW [3529745368, 1866434133, 2553251366, 3503781141, 1787092433, 1109362317, 3436511020, 3965753388] = [789051640, 933367969, 1009558041, 3686992773, 3877757709, 3381540867, 1156976278, 1899805610] := key_one ends_7 (by decide +kernel)
theorem leafK_7 : leafK idA 7 = bytesN [789051640, 933367969, 1009558041, 3686992773, 3877757709, 3381540867, 1156976278, 1899805610] := leafK_one 7 (by omega) leaf_7 key_7
set_option maxRecDepth 1000000 in
theorem alt_1 : altW [4291944919, 4115442869, 712752512, 3327259975, 992113290, 24830850, 1154308279, 3721540064] 1 = [2297454381, 2643215310, 2723507670, 1764274941, 2476363954, 3652579743, 1896366360, 758341360] := chain_one 1 _ (g8_of (by decide +kernel)).2 (by omega) (by decide) (by decide +kernel)
set_option maxRecDepth 1000000 in
theorem alt_66 : altW [4291944919, 4115442869, 712752512, 3327259975, 992113290, 24830850, 1154308279, 3721540064] 66 = [1129609718, 651748663, 2966163644, 3710678878, 4151237880, 4246097121, 3870194707, 2989311204] := chain_one 66 _ (g8_of (by decide +kernel)).2 (by omega) (by decide) (by decide +kernel)
set_option maxRecDepth 1000000 in
theorem rec_5 : recW [4291944919, 4115442869, 712752512, 3327259975, 992113290, 24830850, 1154308279, 3721540064] = [3149650239, 3475888100, 1681369057, 1501459387, 4069757574, 2999944109, 790932502, 139778246] := rec_one ends_5 alt_1 alt_66 (by decide +kernel)
theorem recB_5 : recB idB (sigOf (leafS idA 5) idM) = bytesN [3149650239, 3475888100, 1681369057, 1501459387, 4069757574, 2999944109, 790932502, 139778246] := by
  rw [← idA_W, show ((5 : Int)) = ((5 : Nat) : Int) from rfl, leafS_W seedA_good 5 (by omega), leaf_5, recB_alt (g8_of (by decide +kernel)), rec_5]
set_option maxRecDepth 1000000 in
theorem join_01 : joinB (bytesN [856474239, 2359694652, 2594982445, 1133221815, 3778155391, 485978382, 3481062519, 597190758]) (bytesN [2660285101, 1711704176, 1273074314, 584578080, 3296311201, 4012353487, 55869014, 2311366563]) = bytesN [1067867880, 2812738060, 1029414656, 556298650, 422583332, 369901877, 2727684738, 4239780578] := join_one (g8_of (by decide +kernel)) (g8_of (by decide +kernel)) (by decide +kernel)
set_option maxRecDepth 1000000 in
theorem join_23 : joinB (bytesN [3656277219, 4051211005, 904211131, 1644865611, 3053403762, 2078973547, 2147299780, 4092614436]) (bytesN [1963880303, 3940338267, 2765412137, 3837352861, 2785896219, 1640667376, 3990837883, 3276214484]) = bytesN [3935130982, 2424897840, 3598944809, 1953047202, 1860521392, 1939765202, 741311555, 4141643460] := join_one (g8_of (by decide +kernel)) (g8_of (by decide +kernel)) (by decide +kernel)
set_option maxRecDepth 1000000 in
theorem join_45 : joinB (bytesN [999055042, 895100825, 3269661927, 676325617, 33304442, 3993703458, 1517422541, 2052727904]) (bytesN [1021205161, 512974439, 86230015, 3362582844, 1725396827, 3004160305, 1627414013, 860088621]) = bytesN [436717298, 2402178313, 2191102610, 3517801634, 550543976, 3369074499, 430487975, 3332688356] := join_one (g8_of (by decide +kernel)) (g8_of (by decide +kernel)) (by decide +kernel)
set_option maxRecDepth 1000000 in
theorem join_67 : joinB (bytesN [556738311, 3492513727, 274599518, 3743694588, 1105729962, 1083183485, 674974714, 2617019888]) (bytesN [789051640, 933367969, 1009558041, 3686992773, 3877757709, 3381540867, 1156976278, 1899805610]) = bytesN [495467101, 2364196584, 1940143607, 384515838, 1114815094, 616319994, 2736424409, 3181632091] := join_one (g8_of (by decide +kernel)) (g8_of (by decide +kernel)) (by decide +kernel)
set_option maxRecDepth 1000000 in
theorem join_4x : joinB (bytesN [999055042, 895100825, 3269661927, 676325617, 33304442, 3993703458, 1517422541, 2052727904]) (bytesN [3149650239, 3475888100, 1681369057, 1501459387, 4069757574, 2999944109, 790932502, 139778246]) = bytesN [120933288, 503739709, 3500600696, 4065346443, 1192432437, 2423618970, 731378199, 2864302177] := join_one (g8_of (by decide +kernel)) (g8_of (by decide +kernel)) (by decide +kernel)
set_option maxRecDepth 1000000 in
theorem join_0123 : joinB (bytesN [1067867880, 2812738060, 1029414656, 556298650, 422583332, 369901877, 2727684738, 4239780578]) (bytesN [3935130982, 2424897840, 3598944809, 1953047202, 1860521392, 1939765202, 741311555, 4141643460]) = bytesN [1106023210, 4216343627, 525058330, 561185416, 309553352, 2906544080, 1875285779, 3738211304] := join_one (g8_of (by decide +kernel)) (g8_of (by decide +kernel)) (by decide +kernel)
set_option maxRecDepth 1000000 in
theorem join_4567 : joinB (bytesN [436717298, 2402178313, 2191102610, 3517801634, 550543976, 3369074499, 430487975, 3332688356]) (bytesN [495467101, 2364196584, 1940143607, 384515838, 1114815094, 616319994, 2736424409, 3181632091]) = bytesN [2500828654, 1248761762, 2573725260, 2167490234, 1316357915, 1136721864, 2166744994, 1194155998] := join_one (g8_of (by decide +kernel)) (g8_of (by decide +kernel)) (by decide +kernel)
set_option maxRecDepth 1000000 in
theorem join_4x67 : joinB (bytesN [120933288, 503739709, 3500600696, 4065346443, 1192432437, 2423618970, 731378199, 2864302177]) (bytesN [495467101, 2364196584, 1940143607, 384515838, 1114815094, 616319994, 2736424409, 3181632091]) = bytesN [1447245782, 2937142138, 717797161, 2944501886, 2501911755, 3597592758, 724577198, 892259811] := join_one (g8_of (by decide +kernel)) (g8_of (by decide +kernel)) (by decide +kernel)
set_option maxRecDepth 1000000 in
theorem join_r : joinB (bytesN [1106023210, 4216343627, 525058330, 561185416, 309553352, 2906544080, 1875285779, 3738211304]) (bytesN [2500828654, 1248761762, 2573725260, 2167490234, 1316357915, 1136721864, 2166744994, 1194155998]) = bytesN [2002793325, 1987834909, 1457380280, 1671219234, 3794316889, 883849696, 1270921322, 3413377330] := join_one (g8_of (by decide +kernel)) (g8_of (by decide +kernel)) (by decide +kernel)
set_option maxRecDepth 1000000 in
theorem join_x : joinB (bytesN [1106023210, 4216343627, 525058330, 561185416, 309553352, 2906544080, 1875285779, 3738211304]) (bytesN [1447245782, 2937142138, 717797161, 2944501886, 2501911755, 3597592758, 724577198, 892259811]) = bytesN [1941185721, 3432673102, 1980462344, 282522136, 1495393179, 45068665, 3128175370, 2085989767] := join_one (g8_of (by decide +kernel)) (g8_of (by decide +kernel)) (by decide +kernel)
theorem climb5 (a b c d : List Int) : climbM d 5 [a, b, c] = joinB c (joinB (joinB a d) b) := by simp [climbM]
theorem root_far : climbM (recB idB (sigOf (leafS idA 5) idM)) 5 (pathM idA 5) ≠ rootM idA := by
  have hr : rootM idA = bytesN [2002793325, 1987834909, 1457380280, 1671219234, 3794316889, 883849696, 1270921322, 3413377330] := by
    unfold rootM
    rw [show rowM idA 3 = pairsM (pairsM (pairsM (rowM idA 0))) from rfl, row0, leafK_0, leafK_1, leafK_2, leafK_3, leafK_4, leafK_5, leafK_6, leafK_7]
    simp only [pairsM, List.getD_cons_zero]
    rw [join_01, join_23, join_45, join_67, join_0123, join_4567, join_r]
  have hp : pathM idA 5 = [bytesN [999055042, 895100825, 3269661927, 676325617, 33304442, 3993703458, 1517422541, 2052727904], bytesN [495467101, 2364196584, 1940143607, 384515838, 1114815094, 616319994, 2736424409, 3181632091], bytesN [1106023210, 4216343627, 525058330, 561185416, 309553352, 2906544080, 1875285779, 3738211304]] := by
    unfold pathM
    rw [show rowM idA 2 = pairsM (pairsM (rowM idA 0)) from rfl, show rowM idA 1 = pairsM (rowM idA 0) from rfl, row0, leafK_0, leafK_1, leafK_2, leafK_3, leafK_4, leafK_5, leafK_6, leafK_7]
    simp only [pairsM]
    rw [join_01, join_23, join_45, join_67, join_0123, join_4567]
    rfl
  rw [hr, hp, recB_5]
  rw [climb5, join_4x, join_4x67, join_x]
  intro h
  exact absurd (bytesN_inj _ _ (g8_of (by decide +kernel)).2 (g8_of (by decide +kernel)).2 h) (by decide)

end Go.Proofs.Ytkbhehnpgnilmaa

namespace Go.Proofs.Ytkbhehnpgnilmaa
open Go Go.RowKit
set_option linter.unusedSimpArgs false

/-- a signature by a leaf leads to the root -/
theorem verM_sign {s m : List Int} (hm : IsD m) (n : Nat) (hn : n < 8) : verM (rootM s) m n (sigOf (leafS s n) m) (pathM s n) = true := by
  rw [verM_ok ⟨by omega, sigOf_length _ _, rfl⟩, rec_sig hm, Int.toNat_natCast]
  exact decide_eq_true (leads s n hn)
theorem isD_rootM {s : List Int} (hs : IsD s) : IsD (rootM s) := by
  have h3 := rowM_length s 3 (by omega)
  have get : ∀ l : List (List Int), (∀ x ∈ l, IsD x) → 0 < l.length → IsD (l.getD 0 []) := fun l hl h0 => by
    cases l with
    | nil => simp at h0
    | cons a l => exact hl a (by simp)
  exact get _ (rowM_D hs 3) (by rw [h3]; decide)
theorem pathM_6 (s : List Int) : ∃ l, pathM s 6 = leafK s 7 :: l := by
  unfold pathM
  rw [row0]
  exact ⟨_, rfl⟩
theorem wake_far : verM (rootM idA) idB 5 (sigOf (leafS idA 5) idM) (pathM idA 5) = false := by
  rw [verM_ok ⟨by omega, sigOf_length _ _, rfl⟩, show Int.toNat 5 = 5 from rfl]
  exact decide_eq_false root_far

theorem wpList_build_id {ops : Array Oper} {rest : List Oper} {o : Oper} {a : Act} {w : World} {Q : Exit → Act → World → Prop} (b : Int) (x : List Int) (hx : ∀ w, (Instr.build 23 #[(0, .int .u8 b)]).run Try.prog w = .ok (.agg (ofK .u8 x).toArray) w) (hgd : Region.wanted o (yielded ops a.tmps) = true) (ho : o.op = .build 23 #[(0, .const (.int .u8 b))])
    (h : wpList Try.prog ops Q rest (a.put o.dst (.agg (ofK .u8 x).toArray)) w) : wpList Try.prog ops Q (o :: rest) a w :=
  wpList_build_want hgd 23 _ ho #[(0, .int .u8 b)] (by simp [Act.eval]) _ hx h
theorem quiet_build_id {o : Oper} {a : Act} {C : World → Prop} {K : Act → Prop} (b : Int) (x : List Int) (hx : ∀ w, (Instr.build 23 #[(0, .int .u8 b)]).run Try.prog w = .ok (.agg (ofK .u8 x).toArray) w) (ho : o.op = .build 23 #[(0, .const (.int .u8 b))]) (h : K (a.put o.dst (.agg (ofK .u8 x).toArray))) : o.quiet Try.prog a C K :=
  ⟨_, fun w _ => by
    unfold Oper.quietAt
    rw [exec_build ho (vs := #[(0, .int .u8 b)]) (by simp [Act.eval]) (hx w)]
    exact ⟨rfl, rfl⟩, h⟩

set_option maxRecDepth 100000 in
set_option maxHeartbeats 2000000 in
theorem wakes8_any (w : World) : Calls Try.prog 65 #[] w (fun e w' => e = .returned (.bool true) ∧ Below w.heap.size w w') := by
  have hv1 := verM_sign (s := idA) isD_M 5 (by omega)
  have hv2 := wake_far
  have hD5 := sigOf_D (isD_leafS isD_A 5) idM
  have hP5 := isD_pathM isD_A (n := 5) (by omega)
  have hs0 := sign8_ok idA idM 5 w isD_A isD_M (by omega)
  have e5 : ((5 : Nat) : Int) = 5 := rfl
  rw [e5] at hv1 hs0
  generalize sigOf (leafS idA 5) idM = ch at hv1 hv2 hD5 hs0
  generalize pathM idA 5 = pt at hv1 hv2 hP5 hs0
  obtain ⟨rt, hrt⟩ : ∃ rt, rootM idA = rt := ⟨_, rfl⟩
  rw [hrt] at hv1 hv2
  have hrD : IsD rt := by rw [← hrt]; exact isD_rootM isD_A
  have HV := Lib.hid (And.intro hv1 (And.intro hv2 (And.intro hD5 (And.intro hP5 (And.intro hrt hrD)))))
  have HS0 := Lib.hid hs0
  obtain ⟨y, hy⟩ : ∃ y, leafS idA 7 = y := ⟨_, rfl⟩
  have hyD : IsD y := by rw [← hy]; exact isD_leafS isD_A _
  have HYD := Lib.hid hyD
  have HYI := Lib.hid (infoD HYD.out)
  have HYL := Lib.hid (lenD HYD.out isD_zer)
  have HYE := Lib.hid hy
  obtain ⟨k, hk⟩ : ∃ k, keyOf y = k := ⟨_, rfl⟩
  have hkD : IsD k := by rw [← hk]; exact isD_key hyD
  have HKD := Lib.hid hkD
  have HKI := Lib.hid (infoD HKD.out)
  have HKL := Lib.hid (lenD HKD.out isD_zer)
  have HKE := Lib.hid hk
  have he := fun w => eq_ids w k k true hkD hkD (decide_eq_true rfl)
  clear hv1 hv2 hD5 hP5 hs0 e5 hrt hrD hy hyD hk hkD
  go_enter Try.func65, Try.ntmps65
  go_wp2_with (first
    | (with_reducible refine wpList_build_id 1 idA Try.buildA rfl rfl ?_)
    | (with_reducible refine wpList_build_id 2 idM Try.buildM rfl rfl ?_))
  refine HS0.out.mono ?_
  rintro e w1 ⟨so, sc, po, pc, rfl, hc1, hp1, hb1⟩
  obtain ⟨cl, hcl⟩ : ∃ k, ch.length = k := ⟨_, rfl⟩
  obtain ⟨pl, hpl⟩ : ∃ k, pt.length = k := ⟨_, rfl⟩
  have HCL := Lib.hid (And.intro hcl hpl)
  rw [hcl] at hc1 ⊢
  rw [hpl] at hp1 ⊢
  have H1 := Lib.hid (show SlD w1 (.slice so cl sc) ch ∧ SlD w1 (.slice po pl pc) pt ∧ Below w.heap.size w w1 from ⟨hc1, hp1, hb1⟩)
  clear hc1 hp1 hb1 HS0 hcl hpl
  go_wp2_with (first
    | ((with_reducible refine wpList_alloc_blk w1 rfl 90 rfl (sgC 0 (.slice none 0 0) (.slice none 0 0)) Try.zeroSg ?_); intro w2 hb hbel hsz; have HA2 := Lib.hid (And.intro hb hbel); clear hb hbel hsz)
    | ((with_reducible refine wpList_store_blk w2 rfl 90 (.tmp 1) (.tmp 11) rfl w1.heap.size 90 (sgC 0 (.slice none 0 0) (.slice none 0 0)) (sgC 5 (.slice so cl sc) (.slice po pl pc)) HA2.out.1 rfl rfl rfl (sgC_info _ _ _) (sgC_one _ _ _ _ _ _ _) ?_); intro w3 hb hc hs; have HB3 := Lib.hid (show w3.rangeAt w1.heap.size 0 (sgC 5 (.slice so cl sc) (.slice po pl pc)) ∧ Below w1.heap.size w1 w3 from ⟨rangeW_blk hb, below_ch HA2.out.2 hc (Nat.le_refl _) (fun j hj => by have : j = w1.heap.size := hj; omega)⟩); have H3 := Lib.hid (show SlD w3 (.slice so cl sc) ch ∧ SlD w3 (.slice po pl pc) pt ∧ w3.rangeAt w1.heap.size 0 (sgC 5 (.slice so cl sc) (.slice po pl pc)) ∧ Below w.heap.size w w3 from ⟨H1.out.1.below HB3.out.2, H1.out.2.1.below HB3.out.2, HB3.out.1, below_thn H1.out.2.2 HB3.out.2 (Nat.le_refl _)⟩); clear hb hc hs)
    | (with_reducible refine wpList_build_id 1 idA Try.buildA rfl rfl ?_))
  refine (path_ok idA 6 w3 isD_A (by omega)).mono ?_
  rintro e w4 ⟨qo, qc, rfl, hown, hb4⟩
  have hq : SlD w4 (.slice qo 3 qc) (pathM idA 6) := SlD.of_owns hown rfl (isD_pathM isD_A (by omega))
  obtain ⟨a1, c1, e1, _, _, hcell⟩ := id hq
  obtain ⟨qg, qf, e2, _⟩ := hcell (by show 0 < 3; omega)
  simp only [Value.slice.injEq] at e1
  rw [← e1.1] at e2
  subst e2
  clear e1 hcell
  have hr0 : w4.rangeAt qg qf (ofK .u8 k) := by
    obtain ⟨rest, e⟩ := pathM_6 idA
    have e7 : leafK idA 7 = k := by
      unfold leafK
      rw [show ((7 : Nat) : Int) = 7 from rfl, HYE.out, HKE.out]
    rw [e7] at e
    rw [e] at hq
    exact hq.at0
  have H4 := Lib.hid (show SlD w4 (.slice so cl sc) ch ∧ SlD w4 (.slice po pl pc) pt ∧ w4.rangeAt w1.heap.size 0 (sgC 5 (.slice so cl sc) (.slice po pl pc)) ∧ w4.rangeAt qg qf (ofK .u8 k) ∧ Below w.heap.size w w4 from ⟨H3.out.1.below hb4, H3.out.2.1.below hb4, rangeW_below H3.out.2.2.1 hb4, hr0, below_thn H3.out.2.2.2 hb4 (Nat.le_refl _)⟩)
  clear hown hb4 hr0 hq
  go_wp2_with (with_reducible refine wpList_build_id 1 idA Try.buildA rfl rfl ?_)
  refine (seed_ok idA 7 w4 isD_A (by omega) (by omega)).mono ?_
  rw [HYE.out]
  rintro e w5 ⟨rfl, hb5⟩
  have H5 := Lib.hid (show SlD w5 (.slice so cl sc) ch ∧ SlD w5 (.slice po pl pc) pt ∧ w5.rangeAt w1.heap.size 0 (sgC 5 (.slice so cl sc) (.slice po pl pc)) ∧ w5.rangeAt qg qf (ofK .u8 k) ∧ Below w.heap.size w w5 from ⟨H4.out.1.below hb5, H4.out.2.1.below hb5, rangeW_below H4.out.2.2.1 hb5, rangeW_below H4.out.2.2.2.1 hb5, below_thn H4.out.2.2.2.2 hb5 (Nat.le_refl _)⟩)
  clear hb5
  go_wp2_with (first
    | ((with_reducible refine wpList_alloc_blk w5 rfl 23 rfl (ofK .u8 zer32) Try.zeroId ?_); intro w6 hb hbel hsz; have HAH7 := Lib.hid (And.intro hb hbel); clear hb hbel hsz)
    | ((with_reducible refine wpList_store_blk w6 rfl 23 (.tmp 5) (.tmp 21) rfl w5.heap.size 23 (ofK .u8 zer32) (ofK .u8 y) HAH7.out.1 rfl rfl HYL.out HYI.out (one_ofK _ _) ?_); intro w7 hb hc hs; have HBH7 := Lib.hid (show w7.rangeAt w5.heap.size 0 (ofK .u8 y) ∧ Below w5.heap.size w5 w7 from ⟨rangeW_blk hb, below_ch HAH7.out.2 hc (Nat.le_refl _) (fun j hj => by have : j = w5.heap.size := hj; omega)⟩); have H7 := Lib.hid (show SlD w7 (.slice so cl sc) ch ∧ SlD w7 (.slice po pl pc) pt ∧ w7.rangeAt w1.heap.size 0 (sgC 5 (.slice so cl sc) (.slice po pl pc)) ∧ w7.rangeAt qg qf (ofK .u8 k) ∧ w7.rangeAt w5.heap.size 0 (ofK .u8 y) ∧ Below w.heap.size w w7 from ⟨H5.out.1.below HBH7.out.2, H5.out.2.1.below HBH7.out.2, rangeW_below H5.out.2.2.1 HBH7.out.2, rangeW_below H5.out.2.2.2.1 HBH7.out.2, HBH7.out.1, below_thn H5.out.2.2.2.2 HBH7.out.2 (Nat.le_refl _)⟩); clear hb hc hs))
  try simp only [Act.put, List.setIfInBounds_toArray, List.set_cons_zero, List.set_cons_succ]
  have C1 := Lib.hid (fun q => key_any y (grew w7 q) HYD.out)
  rw [HKE.out] at C1
  have C2 := Lib.hid (fun q => root_any idA (grew w7 q) isD_A)
  rw [HV.out.2.2.2.2.1] at C2
  have C3 := Lib.hid (fun q => verify8_any rt idM 5 so po sc pc ch pt (grew w7 q) HV.out.2.2.2.2.2 isD_M (by rw [HCL.out.1]; exact H7.out.1.below (below_grew w7 q)) (by rw [HCL.out.2]; exact H7.out.2.1.below (below_grew w7 q)) HV.out.2.2.1 HV.out.2.2.2.1)
  rw [HV.out.1, HCL.out.1, HCL.out.2] at C3
  have C4 := Lib.hid (fun q => verify8_any rt idB 5 so po sc pc ch pt (grew w7 q) HV.out.2.2.2.2.2 isD_B (by rw [HCL.out.1]; exact H7.out.1.below (below_grew w7 q)) (by rw [HCL.out.2]; exact H7.out.2.1.below (below_grew w7 q)) HV.out.2.2.1 HV.out.2.2.2.1)
  rw [HV.out.2.1, HCL.out.1, HCL.out.2] at C4
  refine wp_region_grew (by kernel_rfl) (by kernel_rfl) ?_
  repeat (first | go_big_quiet_skip | (go_big_quiet_want; (first | (refine quiet_load_mid 23 (.tmp 40) rfl qg qf rfl (ofK .u8 k) _ (fun w' hw' => rangeAt_grew H7.out.2.2.2.1 w' hw') Try.underlying23 rfl HKI.out ?_; go_simp; go_big_quiet_on) | (refine quiet_load_mid 23 (.tmp 5) rfl w5.heap.size 0 rfl (ofK .u8 y) _ (fun w' hw' => rangeAt_grew H7.out.2.2.2.2.1 w' hw') Try.underlying23 rfl HYI.out ?_; go_simp; go_big_quiet_on) | (refine quiet_load_mid 90 (.tmp 1) rfl w1.heap.size 0 rfl (sgC 5 (.slice so cl sc) (.slice po pl pc)) _ (fun w' hw' => rangeAt_grew H7.out.2.2.1 w' hw') Try.underlying90 rfl (sgC_info _ _ _) ?_; go_simp; go_big_quiet_on) | ((with_reducible refine quiet_build_id 1 idA Try.buildA rfl ?_); go_simp; go_big_quiet_on) | ((with_reducible refine quiet_build_id 2 idM Try.buildM rfl ?_); go_simp; go_big_quiet_on) | ((with_reducible refine quiet_build_id 3 idB Try.buildB rfl ?_); go_simp; go_big_quiet_on) | (go_big_quiet_op; (first | go_big_quiet_on | (apply Exists.intro; refine ⟨fun _ => ?_, ?_⟩; (focus (first | (go_at_call 61; with_reducible exact calls_grew (C1.out _)) | (go_at_call 79; with_reducible exact calls_grew (C2.out _)) | (go_at_call 75; with_reducible exact calls_grew (C3.out _)) | (go_at_call 75; with_reducible exact calls_grew (C4.out _)))); go_big_quiet_on))))))
  refine wpQuiet_nil ?_
  intro w9 hw9
  obtain ⟨q, rfl⟩ := hw9
  go_wp2_with fail
  go_ret
  exact ⟨rfl, below_thn H7.out.2.2.2.2.2 (below_grew w7 q) (Nat.le_refl _)⟩

end Go.Proofs.Ytkbhehnpgnilmaa
