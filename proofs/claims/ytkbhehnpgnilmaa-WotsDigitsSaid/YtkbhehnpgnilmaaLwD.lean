/-
  Law 06: WotsDigits, walked. Conditions: bytes.
-/
import Derived.Test.YtkbhehnpgnilmaaLwZ
namespace Go.Proofs.Ytkbhehnpgnilmaa
open Go Go.RowKit
set_option linter.unusedSimpArgs false

set_option maxRecDepth 100000 in
set_option maxHeartbeats 4000000 in
theorem wotsDigits_walk (v : Value) (r : List (List Int)) (w : World) (hv : SlD w v r) (hr : NilC v ∧ ∀ x ∈ r, IsD x) :
    Calls Try.prog 11 #[v] w (TrueP w) := by
  obtain ⟨ao, cp, rfl, hcp, hcp2, hcell⟩ := hv
  have HV := Lib.hid (And.intro hcell hr.2)
  obtain ⟨n, hnl⟩ : ∃ n, r.length = n := ⟨_, rfl⟩
  rw [hnl] at hcp ⊢
  have HN := Lib.hid hnl
  have hn63 : n ≤ 9223372036854775807 := by omega
  clear hr hcell hnl
  go_enter Try.func11, Try.ntmps11
  go_wp2_with fail
  refine (wakes6_any w).mono ?_
  rintro e w3 ⟨rfl, hb3⟩
  have H3 := Lib.hid hb3
  clear hb3
  go_wp2_with fail
  go_loopw [12] (fun c wr => ∃ k : Nat, k ≤ 20 ∧ k ≤ n ∧ c = .int .i64 k ∧ Hid (Below w.heap.size w wr)) (fun c _ => 20 - (intOf c).toNat)
  case atStart => exact ⟨0, by omega, by omega, rfl, H3⟩
  case round =>
    obtain ⟨k, hk, hkn, rfl, HR⟩ := hrel
    clear H3
    by_cases hlt : k < n
    · have hk32 : (k : Int) < n := by omega
      have hk0 : (0 : Int) ≤ (k : Int) := by omega
      have hka : k < r.length := by rw [HN.out]; exact hlt
      obtain ⟨ag, ago, rfl, hca⟩ := HV.out.1 (by omega)
      have HC := Lib.hid (rangeW_below (hca k hka) HR.out)
      have hmD := HV.out.2 _ (List.getElem_mem hka)
      generalize r[k] = m at HC hmD
      have HMD := Lib.hid hmD
      have HMI := Lib.hid (infoD HMD.out)
      have HML := Lib.hid (lenD HMD.out isD_zer)
      clear hca hmD hka
      by_cases h20 : k = 20
      · subst h20
        go_wp2_with (first
    | (with_reducible refine wpList_load_any rfl 23 (.tmp 15) rfl ag (ago + 20 * 32) rfl (ofK .u8 m) _ HC.out Try.underlying23 rfl HMI.out ?_)
    | ((with_reducible refine wpList_alloc_blk wr rfl 23 rfl (ofK .u8 zer32) Try.zeroId ?_); intro w4 hb hbel hsz; have HA := Lib.hid (And.intro hb hbel); clear hb hbel hsz)
    | ((with_reducible refine wpList_store_blk w4 rfl 23 (.tmp 4) (.tmp 16) rfl wr.heap.size 23 (ofK .u8 zer32) (ofK .u8 m) HA.out.1 rfl rfl HML.out HMI.out (one_ofK _ _) ?_); intro w5 hb hc hs; have HB := Lib.hid (below_ch HA.out.2 hc (Nat.le_refl _) (fun j hj => by have : j = wr.heap.size := hj; omega)); clear hb hc hs))
        go_ret
        exact ⟨rfl, below_thn HR.out HB.out (Nat.le_refl _)⟩
      · have hk20 : ((k : Int) == 20) = false := by simp; omega
        have hk19 : k < 20 := by omega
        clear h20
        go_wp2_with (first
    | (with_reducible refine wpList_load_any rfl 23 (.tmp 15) rfl ag (ago + k * 32) rfl (ofK .u8 m) _ HC.out Try.underlying23 rfl HMI.out ?_)
    | ((with_reducible refine wpList_alloc_blk wr rfl 23 rfl (ofK .u8 zer32) Try.zeroId ?_); intro w4 hb hbel hsz; have HA := Lib.hid (And.intro hb hbel); clear hb hbel hsz)
    | ((with_reducible refine wpList_store_blk w4 rfl 23 (.tmp 4) (.tmp 16) rfl wr.heap.size 23 (ofK .u8 zer32) (ofK .u8 m) HA.out.1 rfl rfl HML.out HMI.out (one_ofK _ _) ?_); intro w5 hb hc hs; have HB := Lib.hid (show w5.rangeAt wr.heap.size 0 (ofK .u8 m) ∧ Below w.heap.size w w5 from ⟨rangeW_blk hb, below_thn HR.out (below_ch HA.out.2 hc (Nat.le_refl _) (fun j hj => by have : j = wr.heap.size := hj; omega)) (Nat.le_refl _)⟩); clear hb hc hs))
        have HS0 := Lib.hid (rangeW_below HB.out.1 (Below.refl _ w5).drew)
        have HB0 := Lib.hid (show Below w.heap.size w w5.drew from HB.out.2.drew)
        refine wp_region_takes (fun w' => w'.rangeAt wr.heap.size 0 (ofK .u8 m)) [0, 2] 4 (by kernel_rfl) rfl (by kernel_rfl) (by kernel_rfl) HS0.out ?_
        generalize w5.drew = v0 at HS0 HB0 ⊢
        clear HA HB HC HR
        iterate 2 (refine' HeldL.run ?_ ?_ ?_ ?_; rotate_left 2; (simp only [List.getElem?_toArray, List.getElem?_cons_zero, List.getElem?_cons_succ]; rfl); rfl; (rintro w' k0; exact exec_load_mid rfl rfl k0 Try.underlying23 rfl HMI.out); simp only [Act.put, List.setIfInBounds_toArray, List.set_cons_zero, List.set_cons_succ])
        refine' wpAnyH_one 1 (by kernel_rfl) ?_ ?_; rotate_left; (simp only [List.getElem?_toArray, List.getElem?_cons_zero, List.getElem?_cons_succ]; rfl)
        try simp only [Act.put]
        go_wp2_with fail
        refine (digits_any m v0 HMD.out).mono ?_
        rintro e v1 ⟨dao1, dcp1, rfl, hown, hb⟩
        obtain ⟨_, _, hdv, _, _, hdc⟩ := (Sl.of_owns hown).nums
        rw [digitsL_length HMD.out] at hdv
        simp only [Value.slice.injEq, true_and] at hdv
        obtain ⟨hdv1, hdv2⟩ := hdv
        rw [← hdv1] at hdc
        obtain ⟨dg1, dgo1, rfl, _, hdcell⟩ := hdc (by rw [digitsL_length HMD.out]; omega)
        have HD1 := Lib.hid (show ∀ i (hi : i < (digitsL m).length), v1.cell? ⟨dg1, dgo1 + i, none⟩ = some (.int .i64 (digitsL m)[i]) from hdcell)
        have HDB1 := Lib.hid hb
        clear hown hb hdv1 hdv2 hdc hdcell
        try go_wp2_with fail
        have HS1 := Lib.hid (rangeW_below HS0.out HDB1.out)
        refine QK.normal ⟨HS1.out, ?_⟩
        refine' wpAnyH_one 3 (by kernel_rfl) ?_ ?_; rotate_left; (simp only [List.getElem?_toArray, List.getElem?_cons_zero, List.getElem?_cons_succ]; rfl)
        try simp only [Act.put]
        go_wp2_with fail
        refine (rdigits_any m v1 HMD.out).mono ?_
        rintro e v2 ⟨dao2, dcp2, rfl, hown, hb⟩
        obtain ⟨_, _, hdv, _, _, hdc⟩ := (Sl.of_owns hown).nums
        rw [digitsL_length HMD.out] at hdv
        simp only [Value.slice.injEq, true_and] at hdv
        obtain ⟨hdv1, hdv2⟩ := hdv
        rw [← hdv1] at hdc
        obtain ⟨dg2, dgo2, rfl, _, hdcell⟩ := hdc (by rw [digitsL_length HMD.out]; omega)
        have HD2 := Lib.hid (show ∀ i (hi : i < (digitsL m).length), v2.cell? ⟨dg2, dgo2 + i, none⟩ = some (.int .i64 (digitsL m)[i]) from hdcell)
        have HDB2 := Lib.hid hb
        clear hown hb hdv1 hdv2 hdc hdcell
        try go_wp2_with fail
        have HS2 := Lib.hid (rangeW_below HS1.out HDB2.out)
        refine QK.normal ⟨HS2.out, ?_⟩
        refine wpAnyH_takes (fuel := 0) (by kernel_rfl) noPanic_any HS2.out [4, 5] _ _ (by kernel_rfl) ?_
        try simp only [Act.put]
        iterate 2 (refine' HeldL.run ?_ ?_ ?_ ?_; rotate_left 2; (simp only [List.getElem?_toArray, List.getElem?_cons_zero, List.getElem?_cons_succ]; rfl); rfl; (rintro w' k0; go_simp; with_reducible rfl); simp only [Act.put, List.setIfInBounds_toArray, List.set_cons_zero, List.set_cons_succ])
        refine wpAnyH_done (by kernel_rfl) ?_ _
        refine NoPanic.normal ?_
        have HE := Lib.hid (show (∀ i (hi : i < (digitsL m).length), v2.cell? ⟨dg1, dgo1 + i, none⟩ = some (.int .i64 (digitsL m)[i])) ∧ (∀ i (hi : i < (digitsL m).length), v2.cell? ⟨dg2, dgo2 + i, none⟩ = some (.int .i64 (digitsL m)[i])) ∧ Below w.heap.size w v2 from ⟨fun i hi => (HDB2.out.cell (p := ⟨dg1, dgo1 + i, none⟩) (block_of_cell (HD1.out i hi))).trans (HD1.out i hi), HD2.out, below_thn (below_thn HB0.out HDB1.out (Nat.le_refl _)) HDB2.out (Nat.le_refl _)⟩)
        clear HD1 HD2 HDB1 HDB2 HS0 HS1 HS2 HB0
        go_wp2_with fail
        go_loopw [30] (fun c wr => ∃ i : Nat, i ≤ 67 ∧ c = .int .i64 i ∧ Hid (Below v2.heap.size v2 wr)) (fun c _ => 67 - (intOf c).toNat)
        case atStart => exact ⟨0, by omega, rfl, Lib.hid (Below.refl _ _)⟩
        case round =>
          obtain ⟨i, hi, rfl, HT⟩ := hrel
          by_cases hil : i < 67
          · have hi0 : (0 : Int) ≤ (i : Int) := by omega
            have hi1 : (i : Int) < 67 := by omega
            have hid : i < (digitsL m).length := by rw [digitsL_length HMD.out]; exact hil
            have hx := (HT.out.cell (p := ⟨dg1, dgo1 + i, none⟩) (block_of_cell (HE.out.1 i hid))).trans (HE.out.1 i hid)
            have hy := (HT.out.cell (p := ⟨dg2, dgo2 + i, none⟩) (block_of_cell (HE.out.2.1 i hid))).trans (HE.out.2.1 i hid)
            generalize (digitsL m)[i] = d at hx hy
            have HS := Lib.hid (show wr.drew.cell? ⟨dg1, dgo1 + i, none⟩ = some (.int .i64 d) ∧ wr.drew.cell? ⟨dg2, dgo2 + i, none⟩ = some (.int .i64 d) from ⟨hx, hy⟩)
            have HT2 := Lib.hid (show Below v2.heap.size v2 wr.drew from HT.out.drew)
            clear hx hy hid
            go_wp2_with fail
            refine wp_region_takes (fun w' => w'.cell? ⟨dg1, dgo1 + i, none⟩ = some (.int .i64 d) ∧ w'.cell? ⟨dg2, dgo2 + i, none⟩ = some (.int .i64 d)) [0, 1, 2, 3, 4, 5, 6, 7, 8] 0 (by kernel_rfl) rfl (by kernel_rfl) (by kernel_rfl) HS.out ?_
            generalize wr.drew = v9 at HS HT2 ⊢
            iterate 9 (refine' HeldL.run ?_ ?_ ?_ ?_; rotate_left 2; (simp only [List.getElem?_toArray, List.getElem?_cons_zero, List.getElem?_cons_succ]; rfl); rfl; (rintro w' ⟨k0, k1⟩; go_simp; with_reducible rfl); simp only [Act.put, List.setIfInBounds_toArray, List.set_cons_zero, List.set_cons_succ])
            refine wpAnyH_done (by kernel_rfl) ?_ _
            refine NoPanic.normal ?_
            go_wp2_with fail
            go_roundw
            case rel => exact ⟨i + 1, by omega, by go_num, HT2⟩
            case measure => simp [intOf]; omega
          · obtain rfl : i = 67 := by omega
            go_wp2_with fail
            go_roundw
            case rel => exact ⟨k + 1, by omega, by omega, by go_num, Lib.hid (below_thn HE.out.2.2 HT.out (Nat.le_refl _))⟩
            case measure => simp [intOf]; omega
    · obtain rfl : k = n := by omega
      go_wp2_with fail
      go_ret
      exact ⟨rfl, HR.out⟩

end Go.Proofs.Ytkbhehnpgnilmaa
