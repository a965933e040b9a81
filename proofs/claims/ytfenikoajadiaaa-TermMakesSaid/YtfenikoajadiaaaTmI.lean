/-
  Layer 5: the reference's Size, Right, walked. Conditions: none.
-/
import Derived.Test.YtfenikoajadiaaaTmH
import Derived.Test.YtfenikoajadiaaaTmG
namespace Go.Proofs.Ytfenikoajadiaaa
open Go Go.RowKit
set_option linter.unusedSimpArgs false
set_option linter.unusedVariables false


def sizeR (t : Tm) (most deep : Int) : Int × Bool := if (walkM t (61 - deep) most).1 = true then (most - (walkM t (61 - deep) most).2, true) else (0, false)
theorem sizeR_top (t : Tm) : sizeR t 1200 60 = (sizeT t, decide (sizeT t ≠ 0)) := by
  unfold sizeR
  rw [show (61 : Int) - 60 = 1 by rfl]
  by_cases h : (walkM t 1 1200).1 = true
  · have h2 := sizeT_ok.2 h
    rw [if_pos h, decide_eq_true h2]
    unfold sizeT; rw [if_pos h]
  · have h2 : ¬ sizeT t ≠ 0 := fun e => h (sizeT_ok.1 e)
    rw [if_neg h, decide_eq_false h2]
    unfold sizeT; rw [if_neg h]

set_option maxRecDepth 100000 in
set_option maxHeartbeats 8000000 in
theorem rsize_any : ∀ (t : Tm) (cs : List Value) (F : Nat → Prop) (most deep : Int) (w : World), TmC F w cs t → 0 ≤ most → most ≤ 1200 → 0 ≤ deep → deep ≤ 60 →
    Calls Try.prog 21 #[.agg cs.toArray, .int .i64 most, .int .i64 deep] w (fun e w' => e = .returned (.tuple #[.int .i64 (sizeR t most deep).1, .bool (sizeR t most deep).2]) ∧ Below w.heap.size w w') := by
  refine Tm.ind fun k u n s ks ih cs F most deep w ht hm0 hm1 hd0 hd1 => ?_
  obtain ⟨ao, c, rfl, hmc, hcm, hsl⟩ := ht.shape
  simp only [Tm.k, Tm.u, Tm.n, Tm.s, Tm.ks] at hmc hsl ⊢
  have HIH := Lib.hid ih
  obtain ⟨R, hR⟩ : ∃ R, sizeR (.mk k u n s ks) most deep = R := ⟨_, rfl⟩
  rw [hR]
  obtain ⟨W1, hW⟩ : ∃ W1, walkM (.mk k u n s ks) (61 - deep) most = W1 := ⟨_, rfl⟩
  have HR := Lib.hid (show (if W1.1 = true then (most - W1.2, true) else (0, false)) = R from by rw [← hR, ← hW]; rfl)
  obtain ⟨d1, hd⟩ : ∃ x, 61 - deep + 1 = x := ⟨_, rfl⟩
  have HD := Lib.hid (show 61 - (deep - 1) = d1 from by omega)
  have HW := Lib.hid (show (if most - 1 < 0 ∨ 60 < 61 - deep ∨ plainB k u n s ks.length = false then (false, most - 1) else walkL ks d1 (most - 1)) = W1 from by rw [← hW, walkM, hd])
  obtain ⟨m, hm⟩ : ∃ m, ks.length = m := ⟨_, rfl⟩
  have HM := Lib.hid hm
  rw [hm] at hsl hmc ⊢
  have hm63 : m ≤ 9223372036854775807 := by unfold maxLen at hcm; omega
  have H0 := Lib.hid (show SlT F w (.slice ao m c) ks ∧ Below w.heap.size w w from ⟨hsl, Below.refl _ _⟩)
  clear ht hR hW hd hm ih hsl hmc hcm
  by_cases h1 : most < 1
  · have e1 : decide (most < 1) = true := by simpa using h1
    have HE := Lib.hid (show R = (0, false) from by rw [← HR.out, show W1 = (false, most - 1) from by rw [← HW.out]; exact if_pos (.inl (by omega))]; rfl)
    clear h1
    go_enter Try.func21, Try.ntmps21
    go_wp2_with (first
    | ((with_reducible refine wpList_box_blk w rfl 24 (.tmp 0) rfl (tmC k u n s (.slice ao m c)) rfl ?_); intro a1 hb hbel hsz; have HA1 := Lib.hid (show SlT F a1 (.slice ao m c) ks ∧ Below w.heap.size w a1 ∧ Blk a1 w.heap.size 24 (tmC k u n s (.slice ao m c)) from ⟨H0.out.1.below hbel, below_thn H0.out.2 hbel (Nat.le_refl _), hb⟩); clear hb hbel hsz))
    refine bodyPost_ret (results_tmp2 Try.results21 _ _ _) rfl ?_
    exact ⟨by rw [HE.out]; rfl, HA1.out.2.1⟩
  have e1 : decide (most < 1) = false := by simpa using h1
  by_cases h2 : deep < 1
  · have e2 : decide (deep < 1) = true := by simpa using h2
    have HE := Lib.hid (show R = (0, false) from by rw [← HR.out, show W1 = (false, most - 1) from by rw [← HW.out]; exact if_pos (.inr (.inl (by omega)))]; rfl)
    clear h1 h2
    go_enter Try.func21, Try.ntmps21
    go_wp2_with (first
    | ((with_reducible refine wpList_box_blk w rfl 24 (.tmp 0) rfl (tmC k u n s (.slice ao m c)) rfl ?_); intro a1 hb hbel hsz; have HA1 := Lib.hid (show SlT F a1 (.slice ao m c) ks ∧ Below w.heap.size w a1 ∧ Blk a1 w.heap.size 24 (tmC k u n s (.slice ao m c)) from ⟨H0.out.1.below hbel, below_thn H0.out.2 hbel (Nat.le_refl _), hb⟩); clear hb hbel hsz))
    refine bodyPost_ret (results_tmp2 Try.results21 _ _ _) rfl ?_
    exact ⟨by rw [HE.out]; rfl, HA1.out.2.1⟩
  have e2 : decide (deep < 1) = false := by simpa using h2
  obtain ⟨pb, hpb⟩ : ∃ b, plainB k u n s m = b := ⟨_, rfl⟩
  have HPB := Lib.hid (show plainB k u n s ks.length = pb from by rw [HM.out]; exact hpb)
  have C1 := Lib.hid (fun w => rone_any k u n s ao m c w)
  rw [hpb] at C1
  have HN12 := Lib.hid (And.intro h1 h2)
  clear hpb h1 h2
  go_enter Try.func21, Try.ntmps21
  go_wp2_with (first
    | ((with_reducible refine wpList_box_blk w rfl 24 (.tmp 0) rfl (tmC k u n s (.slice ao m c)) rfl ?_); intro a1 hb hbel hsz; have HA1 := Lib.hid (show SlT F a1 (.slice ao m c) ks ∧ Below w.heap.size w a1 ∧ Blk a1 w.heap.size 24 (tmC k u n s (.slice ao m c)) from ⟨H0.out.1.below hbel, below_thn H0.out.2 hbel (Nat.le_refl _), hb⟩); clear hb hbel hsz)
    | ((with_reducible refine wpList_load_want ?_ 24 (.tmp 3) rfl w.heap.size 0 rfl (tmC k u n s (.slice ao m c)) _ (rangeW_blk HA1.out.2.2) Try.underlying24 rfl (tmC_info _ _ _ _ _) ?_); focus rfl))
  refine Calls.mono (C1.out a1) ?_
  rintro e' a2 ⟨rfl, hb⟩
  have HA2 := Lib.hid (show SlT F a2 (.slice ao m c) ks ∧ Below w.heap.size w a2 ∧ Blk a2 w.heap.size 24 (tmC k u n s (.slice ao m c)) from ⟨HA1.out.1.below hb, below_thn HA1.out.2.1 hb (Nat.le_refl _), HA1.out.2.2.below hb HA1.out.2.2.lt⟩)
  clear hb C1
  cases pb
  · skip
    have HE := Lib.hid (show R = (0, false) from by rw [← HR.out, show W1 = (false, most - 1) from by rw [← HW.out]; exact if_pos (.inr (.inr HPB.out))]; rfl)
    go_wp2_with fail
    refine bodyPost_ret (results_tmp2 Try.results21 _ _ _) rfl ?_
    exact ⟨by rw [HE.out]; rfl, HA2.out.2.1⟩
  have HL := Lib.hid (show walkL ks d1 (most - 1) = W1 from by rw [← HW.out]; exact (if_neg (by intro hx; have a1 := HN12.out; rcases hx with hx | hx | hx; omega; omega; rw [HPB.out] at hx; cases hx)).symm)
  have hb1 : 1 ≤ most := by have a1 := HN12.out; omega
  have hb2 : 1 ≤ deep := by have a1 := HN12.out; omega
  go_wp2_with fail
  go_loopw [8, 9] (fun q i wr => ∃ (j : Nat) (nn : Int), q = .int .i64 nn ∧ i = .int .i64 j ∧ j ≤ m ∧ 1 ≤ nn ∧ nn ≤ most ∧ Hid (walkL (ks.drop j) d1 (most - nn) = W1) ∧ Hid (SlT F wr (.slice ao m c) ks ∧ Below w.heap.size w wr ∧ Blk wr w.heap.size 24 (tmC k u n s (.slice ao m c)))) (fun _ i _ => m - (intOf i).toNat)
  case atStart => exact ⟨0, 1, rfl, rfl, Nat.zero_le _, by omega, by omega, Lib.hid (by rw [List.drop_zero]; exact HL.out), HA2⟩
  case round =>
    clear HA2 HL
    obtain ⟨j, nn, rfl, rfl, hj, hn1, hn2, HQ, HZ⟩ := hrel
    have c4 := HZ.out.2.2.cell 4
    simp only [tmC, List.getElem?_cons_zero, List.getElem?_cons_succ] at c4
    by_cases hlt : j < m
    · have hjk : j < ks.length := by rw [HM.out]; exact hlt
      have hjz : (j : Int) < (m : Int) := by omega
      have hj0 : (0 : Int) ≤ (j : Int) := by omega
      obtain ⟨b, o, csj, rfl, -, -, hra, htm⟩ := HZ.out.1.get hjk
      have HMEM := Lib.hid (List.getElem_mem hjk)
      have HDR := Lib.hid (List.drop_eq_getElem_cons hjk)
      generalize ks[j] = kj at htm HMEM HDR
      obtain ⟨aj, cj, rfl, -, -, -⟩ := htm.shape
      have HRA := Lib.hid hra
      have HTM := Lib.hid htm
      have HQ2 := Lib.hid (show walkL (kj :: ks.drop (j + 1)) d1 (most - nn) = W1 from by rw [← HDR.out]; exact HQ.out)
      clear hra htm hjk
      go_wp2_with (first
    | (with_reducible refine wpList_load_any rfl 24 (.tmp 34) rfl b (o + j * 5) rfl (tmC kj.k kj.u kj.n kj.s (.slice aj kj.ks.length cj)) _ HRA.out Try.underlying24 rfl (tmC_info _ _ _ _ _) ?_))
      have hx := HIH.out kj HMEM.out _ F (most - nn) (deep - 1) wr HTM.out (by omega) (by omega) (by omega) (by omega)
      obtain ⟨W2, hw2⟩ : ∃ W2, walkM kj d1 (most - nn) = W2 := ⟨_, rfl⟩
      have HW2 := Lib.hid hw2
      rw [show sizeR kj (most - nn) (deep - 1) = (if W2.1 = true then (most - nn - W2.2, true) else (0, false)) from by unfold sizeR; rw [HD.out, hw2]] at hx
      clear hw2
      obtain ⟨rb, l2⟩ := W2
      cases rb
      · rw [if_neg (by simp)] at hx
        refine Calls.mono hx ?_
        clear hx
        rintro e' b1 ⟨rfl, hb⟩
        have HB1 := Lib.hid (show SlT F b1 (.slice (some ⟨b, o, none⟩) m c) ks ∧ Below w.heap.size w b1 ∧ Blk b1 w.heap.size 24 (tmC k u n s (.slice (some ⟨b, o, none⟩) m c)) from ⟨HZ.out.1.below hb, below_thn HZ.out.2.1 hb (Nat.le_refl _), HZ.out.2.2.below hb HZ.out.2.2.lt⟩)
        clear hb c4
        have HE := Lib.hid (show R = (0, false) from by rw [← HR.out, ← HQ2.out, walkL_cons, HW2.out]; rfl)
        go_wp2_with fail
        refine bodyPost_ret (results_tmp2 Try.results21 _ _ _) rfl ?_
        exact ⟨by rw [HE.out]; rfl, HB1.out.2.1⟩
      · rw [if_pos rfl] at hx
        have hbd := walkM_bd kj d1 (most - nn) (by rw [HW2.out])
        rw [HW2.out] at hbd
        have hb3 : 0 ≤ l2 := hbd.1
        have hb4 : l2 < most - nn := hbd.2
        clear hbd
        refine Calls.mono hx ?_
        clear hx
        rintro e' b1 ⟨rfl, hb⟩
        have HB1 := Lib.hid (show SlT F b1 (.slice (some ⟨b, o, none⟩) m c) ks ∧ Below w.heap.size w b1 ∧ Blk b1 w.heap.size 24 (tmC k u n s (.slice (some ⟨b, o, none⟩) m c)) from ⟨HZ.out.1.below hb, below_thn HZ.out.2.1 hb (Nat.le_refl _), HZ.out.2.2.below hb HZ.out.2.2.lt⟩)
        clear hb c4
        have HQ3 := Lib.hid (show walkL (ks.drop (j + 1)) d1 (most - (nn + (most - nn - l2))) = W1 from by have h := HQ2.out; rw [walkL_cons, HW2.out] at h; rw [show most - (nn + (most - nn - l2)) = l2 by omega]; exact h)
        go_wp2_with fail
        go_roundw
        case rel => exact ⟨j + 1, nn + (most - nn - l2), rfl, by go_num, by omega, by omega, by omega, HQ3, HB1⟩
        case measure => simp [intOf]; omega
    · have hge : ¬ (j : Int) < (m : Int) := by omega
      have HE := Lib.hid (show R = (nn, true) from by rw [← HR.out, ← HQ.out, List.drop_of_length_le (by rw [HM.out]; omega), walkL]; simp; omega)
      go_wp2_with fail
      refine bodyPost_ret (results_tmp2 Try.results21 _ _ _) rfl ?_
      exact ⟨by rw [HE.out]; rfl, HZ.out.2.1⟩


set_option maxRecDepth 100000 in
theorem rright_any (t : Tm) (cs : List Value) (F : Nat → Prop) (w : World) (ht : TmC F w cs t) :
    Calls Try.prog 17 #[.agg cs.toArray] w (fun e w' => e = .returned (.bool (decide (sizeT t ≠ 0))) ∧ Below w.heap.size w w') := by
  obtain ⟨ao, c, rfl, -, -, -⟩ := ht.shape
  have HT := Lib.hid ht
  obtain ⟨b, hb⟩ : ∃ b, decide (sizeT t ≠ 0) = b := ⟨_, rfl⟩
  obtain ⟨x, hx⟩ : ∃ x, sizeT t = x := ⟨_, rfl⟩
  have HS := Lib.hid (show sizeR t 1200 60 = (x, b) from by rw [sizeR_top, hb, hx])
  rw [hb]
  clear ht hb hx
  generalize t.ks.length = m at HT ⊢
  generalize t.k = k at HT ⊢
  generalize t.u = u at HT ⊢
  generalize t.n = n at HT ⊢
  generalize t.s = s at HT ⊢
  have H0 := Lib.hid (Below.refl w.heap.size w)
  go_enter Try.func17, Try.ntmps17
  go_wp2_with (first
    | ((with_reducible refine wpList_box_blk w rfl 24 (.tmp 0) rfl (tmC k u n s (.slice ao m c)) rfl ?_); intro a1 hb hbel hsz; have HA1 := Lib.hid (show Below w.heap.size w a1 ∧ Blk a1 w.heap.size 24 (tmC k u n s (.slice ao m c)) from ⟨below_thn H0.out hbel (Nat.le_refl _), hb⟩); clear hb hbel hsz)
    | (with_reducible refine wpList_load_any rfl 24 (.tmp 1) rfl w.heap.size 0 rfl (tmC k u n s (.slice ao m c)) _ (rangeW_blk HA1.out.2) Try.underlying24 rfl (tmC_info _ _ _ _ _) ?_))
  have hx := rsize_any t _ F 1200 60 a1 (HT.out.below HA1.out.1) (by omega) (by omega) (by omega) (by omega)
  rw [HS.out] at hx
  refine Calls.mono hx ?_
  clear hx
  rintro e' a2 ⟨rfl, hb⟩
  have HB := Lib.hid (below_thn HA1.out.1 hb (Nat.le_refl _))
  clear hb
  go_wp2_with fail
  go_ret
  exact ⟨rfl, HB.out⟩


end Go.Proofs.Ytfenikoajadiaaa
