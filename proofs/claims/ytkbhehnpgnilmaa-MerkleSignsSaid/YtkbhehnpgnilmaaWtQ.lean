/-
  Reference 06: Same; package wots: Recover and Verify of any row; law 06: wakes. Walked. Conditions: bytes.
-/
import Derived.Test.YtkbhehnpgnilmaaWtM
import Derived.Test.YtkbhehnpgnilmaaWtL2
import Derived.Test.YtkbhehnpgnilmaaWtF
import Derived.Test.YtkbhehnpgnilmaaWtP
namespace Go.Proofs.Ytkbhehnpgnilmaa
open Go Go.RowKit
set_option linter.unusedSimpArgs false

set_option maxRecDepth 100000 in
set_option maxHeartbeats 2000000 in
theorem same_any (va vb : Value) (a b : List (List Int)) (w : World) (ha : SlD w va a) (hb : SlD w vb b) (hA : ∀ x ∈ a, IsD x) (hB : ∀ x ∈ b, IsD x) :
    Calls Try.prog 60 #[va, vb] w (fun e w' => e = .returned (.bool (decide (a = b))) ∧ Below w.heap.size w w') := by
  obtain ⟨ao, ac, rfl, hac, hac2, haa⟩ := ha
  obtain ⟨bo, bc, rfl, hbc, hbc2, hbb⟩ := hb
  have HS := Lib.hid (And.intro haa (And.intro hbb (And.intro hA hB)))
  obtain ⟨na, hna⟩ : ∃ n, a.length = n := ⟨_, rfl⟩
  obtain ⟨nb, hnb⟩ : ∃ n, b.length = n := ⟨_, rfl⟩
  rw [hna] at hac ⊢
  rw [hnb] at hbc ⊢
  have HN := Lib.hid (And.intro hna hnb)
  clear haa hbb hA hB hna hnb
  by_cases hl : na = nb
  · subst hl
    have hna63 : na ≤ 9223372036854775807 := by omega
    go_enter Try.func60, Try.ntmps60
    go_wp2_with fail
    go_loopw [5, 13] (fun _ i wr => ∃ k : Nat, k ≤ na ∧ i = .int .i64 k ∧ Hid (a.take k = b.take k ∧ Below w.heap.size w wr)) (fun _ i _ => na - (intOf i).toNat)
    case atStart => exact ⟨0, by omega, rfl, Lib.hid ⟨by simp, Below.refl _ _⟩⟩
    case round =>
      obtain ⟨k, hk, rfl, HR⟩ := hrel
      by_cases hlt : k < na
      · have hk32 : (k : Int) < na := by omega
        have hk0 : (0 : Int) ≤ (k : Int) := by omega
        have hka : k < a.length := by rw [HN.out.1]; exact hlt
        have hkb : k < b.length := by rw [HN.out.2]; exact hlt
        obtain ⟨ag, ago, rfl, hca⟩ := HS.out.1 (by omega)
        obtain ⟨bg, bgo, rfl, hcb⟩ := HS.out.2.1 (by omega)
        have hxa := rangeW_below (hca k hka) HR.out.2
        have hyb := rangeW_below (hcb k hkb) HR.out.2
        have hxD := HS.out.2.2.1 _ (List.getElem_mem hka)
        have hyD := HS.out.2.2.2 _ (List.getElem_mem hkb)
        have hta : a.take (k + 1) = a.take k ++ [a[k]] := by rw [List.take_succ_eq_append_getElem hka]
        have htb : b.take (k + 1) = b.take k ++ [b[k]] := by rw [List.take_succ_eq_append_getElem hkb]
        have hne : a[k] ≠ b[k] → a ≠ b := fun h e => h (by subst e; rfl)
        generalize a[k] = x at hxa hxD hta hne
        generalize b[k] = y at hyb hyD htb hne
        obtain ⟨q, hq⟩ : ∃ q, decide (x = y) = q := ⟨_, rfl⟩
        have he := fun w => eq_ids w x y q hxD hyD hq
        have HIX := Lib.hid (infoD hxD)
        have HIY := Lib.hid (infoD hyD)
        have HT := Lib.hid (And.intro hta (And.intro htb (And.intro hne hq)))
        have HC := Lib.hid (And.intro (rangeW_below hxa (Below.refl _ wr).drew) (rangeW_below hyb (Below.refl _ wr).drew))
        have HD := Lib.hid (show Below w.heap.size w wr.drew from HR.out.2.drew)
        clear hca hcb hxa hyb hxD hyD hta htb hne hq
        go_wp2_with fail
        refine wp_region_takes (fun w' => w'.rangeAt ag (ago + k * 32) (ofK .u8 x) ∧ w'.rangeAt bg (bgo + k * 32) (ofK .u8 y)) [0, 1, 2, 3, 4, 5, 6, 7, 8] 0 (by kernel_rfl) rfl (by kernel_rfl) (by kernel_rfl) HC.out ?_
        generalize wr.drew = v0 at HC HD ⊢
        iterate 3 (refine' HeldL.run ?_ ?_ ?_ ?_; rotate_left 2; (simp only [List.getElem?_toArray, List.getElem?_cons_zero, List.getElem?_cons_succ]; rfl); rfl; (rintro w' ⟨k0, k1⟩; go_simp; with_reducible rfl); simp only [Act.put, List.setIfInBounds_toArray, List.set_cons_zero, List.set_cons_succ])
        refine' HeldL.run ?_ ?_ ?_ ?_; rotate_left 2; (simp only [List.getElem?_toArray, List.getElem?_cons_zero, List.getElem?_cons_succ]; rfl); rfl; (rintro w' ⟨k0, k1⟩; exact exec_load_mid rfl rfl k0 Try.underlying23 rfl HIX.out); simp only [Act.put, List.setIfInBounds_toArray, List.set_cons_zero, List.set_cons_succ]
        iterate 3 (refine' HeldL.run ?_ ?_ ?_ ?_; rotate_left 2; (simp only [List.getElem?_toArray, List.getElem?_cons_zero, List.getElem?_cons_succ]; rfl); rfl; (rintro w' ⟨k0, k1⟩; go_simp; with_reducible rfl); simp only [Act.put, List.setIfInBounds_toArray, List.set_cons_zero, List.set_cons_succ])
        refine' HeldL.run ?_ ?_ ?_ ?_; rotate_left 2; (simp only [List.getElem?_toArray, List.getElem?_cons_zero, List.getElem?_cons_succ]; rfl); rfl; (rintro w' ⟨k0, k1⟩; exact exec_load_mid rfl rfl k1 Try.underlying23 rfl HIY.out); simp only [Act.put, List.setIfInBounds_toArray, List.set_cons_zero, List.set_cons_succ]
        refine' HeldL.run ?_ ?_ ?_ ?_; rotate_left 2; (simp only [List.getElem?_toArray, List.getElem?_cons_zero, List.getElem?_cons_succ]; rfl); rfl; (rintro w' ⟨k0, k1⟩; go_simp; with_reducible rfl); simp only [Act.put, List.setIfInBounds_toArray, List.set_cons_zero, List.set_cons_succ]
        refine wpAnyH_done (by kernel_rfl) ?_ _
        refine NoPanic.normal ?_
        cases q
        · go_wp2_with fail
          go_ret
          have hxy : x ≠ y := by have := HT.out.2.2.2; simpa using this
          exact ⟨by rw [decide_eq_false (HT.out.2.2.1 hxy)]; rfl, HD.out⟩
        · go_wp2_with fail
          go_roundw
          case rel =>
            have hxy : x = y := by have := HT.out.2.2.2; simpa using this
            exact ⟨k + 1, by omega, by go_num, Lib.hid ⟨by rw [HT.out.1, HT.out.2.1, HR.out.1, hxy], HD.out⟩⟩
          case measure => simp [intOf]; omega
      · obtain rfl : k = na := by omega
        go_wp2_with fail
        go_ret
        have h1 := HR.out.1
        rw [List.take_of_length_le (by rw [HN.out.1]; exact Nat.le_refl _), List.take_of_length_le (by rw [HN.out.2]; exact Nat.le_refl _)] at h1
        exact ⟨by rw [decide_eq_true h1]; rfl, HR.out.2⟩
  · have hl' : ((na : Int) == (nb : Int)) = false := by simp; omega
    have HR := Lib.hid (show decide (a = b) = false from decide_eq_false (fun e => hl (by rw [← HN.out.1, ← HN.out.2, e])))
    clear hl
    go_enter Try.func60, Try.ntmps60
    go_wp2_with fail
    go_ret
    exact ⟨by rw [HR.out]; rfl, Below.refl _ _⟩

/-- what Recover answers of any row -/
def recV (m : List Int) (s : List (List Int)) : List Int := if s.length = 67 then recB m s else zer32
def recE (s : List (List Int)) : Int := if s.length = 67 then 0 else 3
def verL (key m : List Int) (s : List (List Int)) : Bool := decide (recE s = 0) && decide (recV m s = key)
theorem isD_recV {m : List Int} {s : List (List Int)} (hs : ∀ x ∈ s, IsD x) : IsD (recV m s) := by
  unfold recV
  split
  · exact isD_rec hs (by assumption)
  · exact isD_zer
theorem recover_any (m : List Int) (vs : Value) (s : List (List Int)) (w : World) (hm : IsD m) (hs : SlD w vs s) (hD : ∀ x ∈ s, IsD x) : Calls Try.prog 62 #[.agg (ofK .u8 m).toArray, vs] w (DigP w (recV m s) (recE s)) := by
  unfold recV recE
  by_cases hl : s.length = 67
  · rw [if_pos hl, if_pos hl]
    exact recover_ok m vs s w hm hs hl hD
  · rw [if_neg hl, if_neg hl]
    obtain ⟨ao, c, rfl, _⟩ := hs
    exact recover_bad m ao s.length c w hl
theorem verify_any (key m : List Int) (vs : Value) (s : List (List Int)) (w : World) (hk : IsD key) (hm : IsD m) (hs : SlD w vs s) (hD : ∀ x ∈ s, IsD x) :
    Calls Try.prog 64 #[.agg (ofK .u8 key).toArray, .agg (ofK .u8 m).toArray, vs] w (fun e w' => e = .returned (.bool (verL key m s)) ∧ Below w.heap.size w w') :=
  verify_of key m vs (recV m s) (recE s) _ w hk (isD_recV hD) rfl (fun w1 hb => recover_any m vs s w1 hm (hs.below hb) hD) hm
theorem verL_67 {key m : List Int} {s : List (List Int)} (h : s.length = 67) : verL key m s = decide (recB m s = key) := by unfold verL recE recV; rw [if_pos h, if_pos h]; simp

theorem Try.buildA (w : World) : (Instr.build 23 #[(0, .int .u8 1)]).run Try.prog w = .ok (.agg (ofK .u8 idA).toArray) w := by kernel_rfl
theorem Try.buildB (w : World) : (Instr.build 23 #[(0, .int .u8 3)]).run Try.prog w = .ok (.agg (ofK .u8 idB).toArray) w := by kernel_rfl
theorem Try.buildM (w : World) : (Instr.build 23 #[(0, .int .u8 2)]).run Try.prog w = .ok (.agg (ofK .u8 idM).toArray) w := by kernel_rfl

set_option maxRecDepth 100000 in
set_option maxHeartbeats 2000000 in
theorem wakes6_any (w : World) : Calls Try.prog 48 #[] w (fun e w' => e = .returned (.bool true) ∧ Below w.heap.size w w') := by
  go_enter Try.func48, Try.ntmps48
  go_wp2_with (with_reducible refine wpList_build_want rfl 23 #[] rfl #[] rfl (.agg (ofK .u8 zer32).toArray) (Try.buildId _) ?_)
  refine (digits_any zer32 w isD_zer).mono ?_
  rintro e w3 ⟨dao, dcp, rfl, hown, hb3⟩
  obtain ⟨dao', dcp', hdv, _, _, hdc⟩ := (Sl.of_owns hown).nums
  rw [digitsL_length isD_zer] at hdv
  obtain ⟨rfl, rfl⟩ : dao = dao' ∧ dcp = dcp' := by simpa using hdv
  obtain ⟨dg, dgo, rfl, _, hdcell⟩ := hdc (by rw [digitsL_length isD_zer]; omega)
  have h0 : w3.cell? ⟨dg, dgo, none⟩ = some (.int .i64 0) := (hdcell 0 (by rw [digits_zer]; simp)).trans (by simp [digits_zer])
  have h64 : w3.cell? ⟨dg, dgo + 64, none⟩ = some (.int .i64 3) := (hdcell 64 (by rw [digits_zer]; simp)).trans (by simp [digits_zer])
  have h65 : w3.cell? ⟨dg, dgo + 65, none⟩ = some (.int .i64 12) := (hdcell 65 (by rw [digits_zer]; simp)).trans (by simp [digits_zer])
  have h66 : w3.cell? ⟨dg, dgo + 66, none⟩ = some (.int .i64 0) := (hdcell 66 (by rw [digits_zer]; simp)).trans (by simp [digits_zer])
  have H3 := Lib.hid hb3
  clear hown hdv hdc hdcell hb3
  go_wp2_with (first
    | (with_reducible refine wpList_build_want rfl 23 _ rfl #[(0, .int .u8 1)] rfl (.agg (ofK .u8 idA).toArray) (Try.buildA _) ?_)
    | (with_reducible refine wpList_build_want rfl 23 _ rfl #[(0, .int .u8 2)] rfl (.agg (ofK .u8 idM).toArray) (Try.buildM _) ?_))
  refine (sign_any idA idM w3 isD_A isD_M).mono ?_
  rintro e w4 ⟨sao, scp, rfl, hown, hb4⟩
  have H4 := Lib.hid (show SlD w4 (.slice sao 67 scp) (sigOf idA idM) ∧ Below w.heap.size w w4 from ⟨SlD.of_owns hown (sigOf_length _ _).symm (sigOf_D isD_A _), below_thn H3.out hb4 (Nat.le_refl _)⟩)
  clear hown hb4 h0 h64 h65 h66 H3
  go_wp2_with (with_reducible refine wpList_build_want rfl 23 _ rfl #[(0, .int .u8 1)] rfl (.agg (ofK .u8 idA).toArray) (Try.buildA _) ?_)
  refine (key_any idA w4 isD_A).mono ?_
  rintro e w5 ⟨rfl, hb5⟩
  have H5 := Lib.hid (show SlD w5 (.slice sao 67 scp) (sigOf idA idM) ∧ Below w.heap.size w w5 from ⟨H4.out.1.below hb5, below_thn H4.out.2 hb5 (Nat.le_refl _)⟩)
  clear hb5 H4
  go_wp2_with (with_reducible refine wpList_build_want rfl 23 _ rfl #[(0, .int .u8 2)] rfl (.agg (ofK .u8 idM).toArray) (Try.buildM _) ?_)
  refine (verify_any (keyOf idA) idM _ (sigOf idA idM) w5 (isD_key isD_A) isD_M H5.out.1 (sigOf_D isD_A _)).mono ?_
  rw [verL_67 (sigOf_length _ _), rec_sig isD_M, decide_eq_true rfl]
  rintro e w6 ⟨rfl, hb6⟩
  have H6 := Lib.hid (show SlD w6 (.slice sao 67 scp) (sigOf idA idM) ∧ Below w.heap.size w w6 from ⟨H5.out.1.below hb6, below_thn H5.out.2 hb6 (Nat.le_refl _)⟩)
  clear hb6 H5
  go_wp2_with (with_reducible refine wpList_build_want rfl 23 _ rfl #[(0, .int .u8 3)] rfl (.agg (ofK .u8 idB).toArray) (Try.buildB _) ?_)
  refine (key_any idB w6 isD_B).mono ?_
  rintro e w7 ⟨rfl, hb7⟩
  have H7 := Lib.hid (show SlD w7 (.slice sao 67 scp) (sigOf idA idM) ∧ Below w.heap.size w w7 from ⟨H6.out.1.below hb7, below_thn H6.out.2 hb7 (Nat.le_refl _)⟩)
  clear hb7 H6
  go_wp2_with (with_reducible refine wpList_build_want rfl 23 _ rfl #[(0, .int .u8 2)] rfl (.agg (ofK .u8 idM).toArray) (Try.buildM _) ?_)
  refine (verify_any (keyOf idB) idM _ (sigOf idA idM) w7 (isD_key isD_B) isD_M H7.out.1 (sigOf_D isD_A _)).mono ?_
  rw [verL_67 (sigOf_length _ _), rec_sig isD_M, decide_eq_false key_AB]
  rintro e w8 ⟨rfl, hb8⟩
  have H8 := Lib.hid (below_thn H7.out.2 hb8 (Nat.le_refl _))
  clear hb8 H7
  go_wp2_with fail
  go_ret
  exact ⟨rfl, H8.out⟩

end Go.Proofs.Ytkbhehnpgnilmaa
