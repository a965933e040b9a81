/-
  Layer 5: the reference's Kids, User, Num, One, walked. Conditions: none.
-/
import Derived.Test.YtfenikoajadiaaaTmE
namespace Go.Proofs.Ytfenikoajadiaaa
open Go Go.RowKit
set_option linter.unusedSimpArgs false
set_option linter.unusedVariables false


set_option maxRecDepth 100000 in
set_option maxHeartbeats 1000000 in
theorem ruser_any (k : Int) (w : World) : Calls Try.prog 50 #[.int .i64 k] w (fun e w' => e = .returned (.bool (hasB k 2)) ∧ w = w') := by
  rcases kind_cases k with rfl | rfl | rfl | rfl | rfl | rfl | rfl | rfl | hk
  iterate 8 (focus (go_enter Try.func50, Try.ntmps50; go_wp2_with fail; go_ret; exact ⟨rfl, rfl⟩))
  · rw [hasB_none hk]
    obtain ⟨h1, h2, h3, h4, h5, h6, h7, h8⟩ := hk
    have e2 : (k == 2) = false := by simpa using h2
    have e3 : (k == 3) = false := by simpa using h3
    have e7 : (k == 7) = false := by simpa using h7
    have e8 : (k == 8) = false := by simpa using h8
    clear h1 h2 h3 h4 h5 h6 h7 h8
    go_enter Try.func50, Try.ntmps50
    go_wp2_with fail
    go_ret
    exact ⟨rfl, rfl⟩


set_option maxRecDepth 100000 in
set_option maxHeartbeats 1000000 in
theorem rnum_any (k : Int) (w : World) : Calls Try.prog 51 #[.int .i64 k] w (fun e w' => e = .returned (.bool (hasB k 4)) ∧ w = w') := by
  rcases kind_cases k with rfl | rfl | rfl | rfl | rfl | rfl | rfl | rfl | hk
  iterate 8 (focus (go_enter Try.func51, Try.ntmps51; go_wp2_with fail; go_ret; exact ⟨rfl, rfl⟩))
  · rw [hasB_none hk]
    obtain ⟨h1, h2, h3, h4, h5, h6, h7, h8⟩ := hk
    have e2 : (k == 2) = false := by simpa using h2
    have e3 : (k == 3) = false := by simpa using h3
    have e7 : (k == 7) = false := by simpa using h7
    have e8 : (k == 8) = false := by simpa using h8
    clear h1 h2 h3 h4 h5 h6 h7 h8
    go_enter Try.func51, Try.ntmps51
    go_wp2_with fail
    go_ret
    exact ⟨rfl, rfl⟩


/-- how many kids, by the reference -/
def kidsZ (k : Int) : Int := if k < 1 ∨ 8 < k then -1 else kidsN k
set_option maxRecDepth 100000 in
set_option maxHeartbeats 1000000 in
theorem rkids_any (k : Int) (w : World) : Calls Try.prog 68 #[.int .i64 k] w (fun e w' => e = .returned (.int .i64 (kidsZ k)) ∧ w = w') := by
  rcases (show k = 1 ∨ k = 2 ∨ k = 3 ∨ k = 4 ∨ k = 5 ∨ k = 6 ∨ k = 7 ∨ k = 8 ∨ k < 1 ∨ 8 < k by omega) with rfl | rfl | rfl | rfl | rfl | rfl | rfl | rfl | hk | hk
  iterate 8 (focus (go_enter Try.func68, Try.ntmps68; go_wp2_with fail; go_ret; exact ⟨rfl, rfl⟩))
  · have e1 : decide (k < 1) = true := by simpa using hk
    have HK := Lib.hid (show kidsZ k = -1 from if_pos (.inl hk))
    clear hk
    go_enter Try.func68, Try.ntmps68
    go_wp2_with fail
    go_ret
    exact ⟨by rw [HK.out]; rfl, rfl⟩
  · have e1 : decide (k < 1) = false := by simp; omega
    have e2 : decide (8 < k) = true := by simpa using hk
    have HK := Lib.hid (show kidsZ k = -1 from if_pos (.inr hk))
    clear hk
    go_enter Try.func68, Try.ntmps68
    go_wp2_with fail
    go_ret
    exact ⟨by rw [HK.out]; rfl, rfl⟩
def oneX (b0 c1 c2 bT c3 bU l1 l6 u0 n0 bN ge le : Bool) : Bool := !b0 && (!c1 && (!c2 && (!(bT && c3) && ((if bU = true then !(l1 || l6) else !u0) && (n0 || (bN && (ge && le)))))))
def oneB (k u n : Int) (s : ByteArray) (l : Nat) : Bool :=
  oneX (decide (kidsZ k < 0)) ((l : Int) != kidsZ k) (decide (64 < (s.size : Int))) (k != 1) (!s.toList.isEmpty) (hasB k 2) (decide (u < 1)) (decide (6 < u)) (u != 0) (n == 0) (hasB k 4) (decide (0 < n)) (decide (n ≤ 65535))
theorem oneB_eq (k u n : Int) (s : ByteArray) (l : Nat) : oneB k u n s l = plainB k u n s l := by
  rw [Bool.eq_iff_iff, plainB_iff]
  unfold oneB oneX
  have h1 : hasB k 1 = true ↔ k = 1 := by unfold hasB; simp
  have hz : kidsZ k < 0 ↔ ¬ (1 ≤ k ∧ k ≤ 8) := by unfold kidsZ; split <;> omega
  have hz2 : (1 ≤ k ∧ k ≤ 8) → kidsZ k = kidsN k := fun h => if_neg (by omega)
  simp only [Bool.and_eq_true, Bool.or_eq_true, Bool.not_eq_true', decide_eq_false_iff_not, decide_eq_true_eq, bne_eq_false_iff_eq, beq_iff_eq, Bool.and_eq_false_imp, bne_iff_ne, Bool.not_eq_false', isEmpty_size]
  constructor
  · rintro ⟨a1, a2, a3, a4, a5, a6⟩
    have hk : 1 ≤ k ∧ k ≤ 8 := by by_cases h : 1 ≤ k ∧ k ≤ 8; exact h; exact (a1 (hz.2 h)).elim
    refine ⟨hk, by rw [hz2 hk] at a2; omega, by omega, ?_, ?_, ?_⟩
    · by_cases h : k = 1
      · exact .inl (h1.2 h)
      · exact .inr (a4 h)
    · split at a5
      · rename_i h; rw [if_pos h]; simp at a5; omega
      · rename_i h; rw [if_neg h]; simpa using a5
    · split
      · rename_i h; omega
      · rename_i h
        rcases a6 with h6 | h6
        · exact h6
        · exact (h h6.1).elim
  · intro h
    have hk := h.pk
    refine ⟨fun h0 => hz.1 h0 hk, by rw [hz2 hk, h.pl], by have := h.ps; omega, fun hn => ?_, ?_, ?_⟩
    · rcases h.pt with h2 | h2
      · exact (hn (h1.1 h2)).elim
      · exact h2
    · have h5 := h.pu
      split at h5
      · rename_i hh; rw [if_pos hh]; simp; omega
      · rename_i hh; rw [if_neg hh]; simpa using h5
    · have h6 := h.pn
      split at h6
      · rename_i hh
        by_cases h0 : n = 0
        · exact .inl h0
        · exact .inr ⟨hh, by omega, by omega⟩
      · exact .inl h6

set_option maxRecDepth 100000 in
set_option maxHeartbeats 8000000 in
theorem rone_any (k u n : Int) (s : ByteArray) (ao : Option Addr) (l c : Nat) (w : World) :
    Calls Try.prog 53 #[.agg (tmC k u n s (.slice ao l c)).toArray] w (fun e w' => e = .returned (.bool (plainB k u n s l)) ∧ Below w.heap.size w w') := by
  obtain ⟨R, hR⟩ : ∃ R, plainB k u n s l = R := ⟨_, rfl⟩
  rw [hR]
  rw [← oneB_eq] at hR
  have HK := Lib.hid (rkids_any k)
  have HU := Lib.hid (ruser_any k)
  have HN := Lib.hid (rnum_any k)
  unfold oneB at hR
  obtain ⟨b0, hb0⟩ : ∃ x, (decide (kidsZ k < 0)) = x := ⟨_, rfl⟩
  obtain ⟨c1, hc1⟩ : ∃ x, ((l : Int) != kidsZ k) = x := ⟨_, rfl⟩
  obtain ⟨c2, hc2⟩ : ∃ x, (decide (64 < (s.size : Int))) = x := ⟨_, rfl⟩
  obtain ⟨bT, hbT⟩ : ∃ x, (k != 1) = x := ⟨_, rfl⟩
  obtain ⟨c3, hc3⟩ : ∃ x, (!s.toList.isEmpty) = x := ⟨_, rfl⟩
  obtain ⟨bU, hbU⟩ : ∃ x, (hasB k 2) = x := ⟨_, rfl⟩
  obtain ⟨l1, hl1⟩ : ∃ x, (decide (u < 1)) = x := ⟨_, rfl⟩
  obtain ⟨l6, hl6⟩ : ∃ x, (decide (6 < u)) = x := ⟨_, rfl⟩
  obtain ⟨u0, hu0⟩ : ∃ x, (u != 0) = x := ⟨_, rfl⟩
  obtain ⟨n0, hn0⟩ : ∃ x, (n == 0) = x := ⟨_, rfl⟩
  obtain ⟨bN, hbN⟩ : ∃ x, (hasB k 4) = x := ⟨_, rfl⟩
  obtain ⟨ge, hge⟩ : ∃ x, (decide (0 < n)) = x := ⟨_, rfl⟩
  obtain ⟨le, hle⟩ : ∃ x, (decide (n ≤ 65535)) = x := ⟨_, rfl⟩
  rw [hb0, hc1, hc2, hbT, hc3, hbU, hl1, hl6, hu0, hn0, hbN, hge, hle] at hR
  have HR := Lib.hid hR
  clear hR
  rw [hbU] at HU
  rw [hbN] at HN
  clear hbU hbN
  generalize kidsZ k = kz at HK hb0 hc1
  have Eb0 := Lib.hid hb0
  clear hb0
  have Ec1 := Lib.hid hc1
  clear hc1
  have Ec2 := Lib.hid hc2
  clear hc2
  have EbT := Lib.hid hbT
  clear hbT
  have Ec3 := Lib.hid hc3
  clear hc3
  have El1 := Lib.hid hl1
  clear hl1
  have El6 := Lib.hid hl6
  clear hl6
  have Eu0 := Lib.hid hu0
  clear hu0
  have En0 := Lib.hid hn0
  clear hn0
  have Ege := Lib.hid hge
  clear hge
  have Ele := Lib.hid hle
  clear hle
  have H0 := Lib.hid (Below.refl w.heap.size w)
  go_enter Try.func53, Try.ntmps53
  have eb0 := Eb0.out
  cases b0
  · skip
    have ec1 := Ec1.out
    cases c1
    · skip
      have ec2 := Ec2.out
      cases c2
      · skip
        have ebT := EbT.out
        cases bT
        · skip
          go_wp2_with (first
    | ((with_reducible refine wpList_box_blk w rfl 24 (.tmp 0) rfl (tmC k u n s (.slice ao l c)) rfl ?_); intro a1 hb hbel hsz; have HA1 := Lib.hid (show Below w.heap.size w a1 ∧ Blk a1 w.heap.size 24 (tmC k u n s (.slice ao l c)) from ⟨below_thn H0.out hbel (Nat.le_refl _), hb⟩); have c0 := HA1.out.2.cell 0; have c1' := HA1.out.2.cell 1; have c2' := HA1.out.2.cell 2; have c3' := HA1.out.2.cell 3; have c4 := HA1.out.2.cell 4; simp only [tmC, List.getElem?_cons_zero, List.getElem?_cons_succ] at c0 c1' c2' c3' c4; clear hb hbel hsz))
          have C1 := Lib.hid (fun x => show Calls Try.prog 68 #[.int .i64 k] (grew a1 x) (fun e w' => e = .returned (.int .i64 kz) ∧ w' = grew a1 x) from (HK.out (grew a1 x)).mono fun _ _ ⟨he, hm⟩ => ⟨he, hm.symm⟩)
          have d0 := fun q => cell_grew c0 q
          replace c3' := fun q => cell_grew c3' q
          replace c4 := fun q => cell_grew c4 q
          refine wp_region_grew (by kernel_rfl) (by kernel_rfl) ?_
          repeat (first | go_big_quiet_skip | (go_big_quiet_want; go_big_quiet_op; (first | go_big_quiet_on | (apply Exists.intro; refine ⟨fun _ => ?_, ?_⟩; (focus (go_at_call 68; with_reducible exact calls_grew_same (C1.out _))); go_big_quiet_on))))
          refine wpQuiet_nil ?_
          intro w2 hw2
          obtain ⟨x2, rfl⟩ := hw2
          have HB := Lib.hid (below_thn HA1.out.1 (below_grew a1 x2) (Nat.le_refl _))
          replace c0 := cell_grew c0 x2
          replace c1' := cell_grew c1' x2
          replace c2' := cell_grew c2' x2
          clear c3' c4 d0 C1
          generalize grew a1 x2 = w2 at HB c0 c1' c2' ⊢
          go_wp2_with fail
          refine (HU.out w2).mono ?_
          rintro e' w' ⟨rfl, rfl⟩
          cases bU
          · skip
            go_wp2_with fail
            refine (HU.out w2).mono ?_
            rintro e' w' ⟨rfl, rfl⟩
            have eu0 := Eu0.out
            cases u0
            · skip
              have en0 := En0.out
              cases n0
              · skip
                go_wp2_with fail
                refine (HN.out w2).mono ?_
                rintro e' w' ⟨rfl, rfl⟩
                cases bN
                · skip
                  go_wp2_with fail
                  go_ret
                  exact ⟨by rw [← HR.out]; rfl, HB.out⟩
                · skip
                  have ege := Ege.out
                  cases ge
                  · skip
                    go_wp2_with fail
                    go_ret
                    exact ⟨by rw [← HR.out]; rfl, HB.out⟩
                  · skip
                    have ele := Ele.out
                    cases le
                    · skip
                      go_wp2_with fail
                      go_ret
                      exact ⟨by rw [← HR.out]; rfl, HB.out⟩
                    · skip
                      go_wp2_with fail
                      go_ret
                      exact ⟨by rw [← HR.out]; rfl, HB.out⟩
              · skip
                go_wp2_with fail
                go_ret
                exact ⟨by rw [← HR.out]; rfl, HB.out⟩
            · skip
              go_wp2_with fail
              go_ret
              exact ⟨by rw [← HR.out]; rfl, HB.out⟩
          · skip
            have el1 := El1.out
            cases l1
            · skip
              have el6 := El6.out
              cases l6
              · skip
                go_wp2_with fail
                refine (HU.out w2).mono ?_
                rintro e' w' ⟨rfl, rfl⟩
                have en0 := En0.out
                cases n0
                · skip
                  go_wp2_with fail
                  refine (HN.out w2).mono ?_
                  rintro e' w' ⟨rfl, rfl⟩
                  cases bN
                  · skip
                    go_wp2_with fail
                    go_ret
                    exact ⟨by rw [← HR.out]; rfl, HB.out⟩
                  · skip
                    have ege := Ege.out
                    cases ge
                    · skip
                      go_wp2_with fail
                      go_ret
                      exact ⟨by rw [← HR.out]; rfl, HB.out⟩
                    · skip
                      have ele := Ele.out
                      cases le
                      · skip
                        go_wp2_with fail
                        go_ret
                        exact ⟨by rw [← HR.out]; rfl, HB.out⟩
                      · skip
                        go_wp2_with fail
                        go_ret
                        exact ⟨by rw [← HR.out]; rfl, HB.out⟩
                · skip
                  go_wp2_with fail
                  go_ret
                  exact ⟨by rw [← HR.out]; rfl, HB.out⟩
              · skip
                go_wp2_with fail
                go_ret
                exact ⟨by rw [← HR.out]; rfl, HB.out⟩
            · skip
              go_wp2_with fail
              go_ret
              exact ⟨by rw [← HR.out]; rfl, HB.out⟩
        · skip
          have ec3 := Ec3.out
          cases c3
          · skip
            go_wp2_with (first
    | ((with_reducible refine wpList_box_blk w rfl 24 (.tmp 0) rfl (tmC k u n s (.slice ao l c)) rfl ?_); intro a1 hb hbel hsz; have HA1 := Lib.hid (show Below w.heap.size w a1 ∧ Blk a1 w.heap.size 24 (tmC k u n s (.slice ao l c)) from ⟨below_thn H0.out hbel (Nat.le_refl _), hb⟩); have c0 := HA1.out.2.cell 0; have c1' := HA1.out.2.cell 1; have c2' := HA1.out.2.cell 2; have c3' := HA1.out.2.cell 3; have c4 := HA1.out.2.cell 4; simp only [tmC, List.getElem?_cons_zero, List.getElem?_cons_succ] at c0 c1' c2' c3' c4; clear hb hbel hsz))
            have C1 := Lib.hid (fun x => show Calls Try.prog 68 #[.int .i64 k] (grew a1 x) (fun e w' => e = .returned (.int .i64 kz) ∧ w' = grew a1 x) from (HK.out (grew a1 x)).mono fun _ _ ⟨he, hm⟩ => ⟨he, hm.symm⟩)
            have d0 := fun q => cell_grew c0 q
            replace c3' := fun q => cell_grew c3' q
            replace c4 := fun q => cell_grew c4 q
            refine wp_region_grew (by kernel_rfl) (by kernel_rfl) ?_
            repeat (first | go_big_quiet_skip | (go_big_quiet_want; go_big_quiet_op; (first | go_big_quiet_on | (apply Exists.intro; refine ⟨fun _ => ?_, ?_⟩; (focus (go_at_call 68; with_reducible exact calls_grew_same (C1.out _))); go_big_quiet_on))))
            refine wpQuiet_nil ?_
            intro w2 hw2
            obtain ⟨x2, rfl⟩ := hw2
            have HB := Lib.hid (below_thn HA1.out.1 (below_grew a1 x2) (Nat.le_refl _))
            replace c0 := cell_grew c0 x2
            replace c1' := cell_grew c1' x2
            replace c2' := cell_grew c2' x2
            clear c3' c4 d0 C1
            generalize grew a1 x2 = w2 at HB c0 c1' c2' ⊢
            go_wp2_with fail
            refine (HU.out w2).mono ?_
            rintro e' w' ⟨rfl, rfl⟩
            cases bU
            · skip
              go_wp2_with fail
              refine (HU.out w2).mono ?_
              rintro e' w' ⟨rfl, rfl⟩
              have eu0 := Eu0.out
              cases u0
              · skip
                have en0 := En0.out
                cases n0
                · skip
                  go_wp2_with fail
                  refine (HN.out w2).mono ?_
                  rintro e' w' ⟨rfl, rfl⟩
                  cases bN
                  · skip
                    go_wp2_with fail
                    go_ret
                    exact ⟨by rw [← HR.out]; rfl, HB.out⟩
                  · skip
                    have ege := Ege.out
                    cases ge
                    · skip
                      go_wp2_with fail
                      go_ret
                      exact ⟨by rw [← HR.out]; rfl, HB.out⟩
                    · skip
                      have ele := Ele.out
                      cases le
                      · skip
                        go_wp2_with fail
                        go_ret
                        exact ⟨by rw [← HR.out]; rfl, HB.out⟩
                      · skip
                        go_wp2_with fail
                        go_ret
                        exact ⟨by rw [← HR.out]; rfl, HB.out⟩
                · skip
                  go_wp2_with fail
                  go_ret
                  exact ⟨by rw [← HR.out]; rfl, HB.out⟩
              · skip
                go_wp2_with fail
                go_ret
                exact ⟨by rw [← HR.out]; rfl, HB.out⟩
            · skip
              have el1 := El1.out
              cases l1
              · skip
                have el6 := El6.out
                cases l6
                · skip
                  go_wp2_with fail
                  refine (HU.out w2).mono ?_
                  rintro e' w' ⟨rfl, rfl⟩
                  have en0 := En0.out
                  cases n0
                  · skip
                    go_wp2_with fail
                    refine (HN.out w2).mono ?_
                    rintro e' w' ⟨rfl, rfl⟩
                    cases bN
                    · skip
                      go_wp2_with fail
                      go_ret
                      exact ⟨by rw [← HR.out]; rfl, HB.out⟩
                    · skip
                      have ege := Ege.out
                      cases ge
                      · skip
                        go_wp2_with fail
                        go_ret
                        exact ⟨by rw [← HR.out]; rfl, HB.out⟩
                      · skip
                        have ele := Ele.out
                        cases le
                        · skip
                          go_wp2_with fail
                          go_ret
                          exact ⟨by rw [← HR.out]; rfl, HB.out⟩
                        · skip
                          go_wp2_with fail
                          go_ret
                          exact ⟨by rw [← HR.out]; rfl, HB.out⟩
                  · skip
                    go_wp2_with fail
                    go_ret
                    exact ⟨by rw [← HR.out]; rfl, HB.out⟩
                · skip
                  go_wp2_with fail
                  go_ret
                  exact ⟨by rw [← HR.out]; rfl, HB.out⟩
              · skip
                go_wp2_with fail
                go_ret
                exact ⟨by rw [← HR.out]; rfl, HB.out⟩
          · skip
            go_wp2_with (first
    | ((with_reducible refine wpList_box_blk w rfl 24 (.tmp 0) rfl (tmC k u n s (.slice ao l c)) rfl ?_); intro a1 hb hbel hsz; have HA1 := Lib.hid (show Below w.heap.size w a1 ∧ Blk a1 w.heap.size 24 (tmC k u n s (.slice ao l c)) from ⟨below_thn H0.out hbel (Nat.le_refl _), hb⟩); have c0 := HA1.out.2.cell 0; have c1' := HA1.out.2.cell 1; have c2' := HA1.out.2.cell 2; have c3' := HA1.out.2.cell 3; have c4 := HA1.out.2.cell 4; simp only [tmC, List.getElem?_cons_zero, List.getElem?_cons_succ] at c0 c1' c2' c3' c4; clear hb hbel hsz))
            have C1 := Lib.hid (fun x => show Calls Try.prog 68 #[.int .i64 k] (grew a1 x) (fun e w' => e = .returned (.int .i64 kz) ∧ w' = grew a1 x) from (HK.out (grew a1 x)).mono fun _ _ ⟨he, hm⟩ => ⟨he, hm.symm⟩)
            have d0 := fun q => cell_grew c0 q
            replace c3' := fun q => cell_grew c3' q
            replace c4 := fun q => cell_grew c4 q
            refine wp_region_grew (by kernel_rfl) (by kernel_rfl) ?_
            repeat (first | go_big_quiet_skip | (go_big_quiet_want; go_big_quiet_op; (first | go_big_quiet_on | (apply Exists.intro; refine ⟨fun _ => ?_, ?_⟩; (focus (go_at_call 68; with_reducible exact calls_grew_same (C1.out _))); go_big_quiet_on))))
            refine wpQuiet_nil ?_
            intro w2 hw2
            obtain ⟨x2, rfl⟩ := hw2
            have HB := Lib.hid (below_thn HA1.out.1 (below_grew a1 x2) (Nat.le_refl _))
            replace c0 := cell_grew c0 x2
            replace c1' := cell_grew c1' x2
            replace c2' := cell_grew c2' x2
            clear c3' c4 d0 C1
            generalize grew a1 x2 = w2 at HB c0 c1' c2' ⊢
            go_wp2_with fail
            go_ret
            exact ⟨by rw [← HR.out]; rfl, HB.out⟩
      · skip
        go_wp2_with (first
    | ((with_reducible refine wpList_box_blk w rfl 24 (.tmp 0) rfl (tmC k u n s (.slice ao l c)) rfl ?_); intro a1 hb hbel hsz; have HA1 := Lib.hid (show Below w.heap.size w a1 ∧ Blk a1 w.heap.size 24 (tmC k u n s (.slice ao l c)) from ⟨below_thn H0.out hbel (Nat.le_refl _), hb⟩); have c0 := HA1.out.2.cell 0; have c1' := HA1.out.2.cell 1; have c2' := HA1.out.2.cell 2; have c3' := HA1.out.2.cell 3; have c4 := HA1.out.2.cell 4; simp only [tmC, List.getElem?_cons_zero, List.getElem?_cons_succ] at c0 c1' c2' c3' c4; clear hb hbel hsz))
        have C1 := Lib.hid (fun x => show Calls Try.prog 68 #[.int .i64 k] (grew a1 x) (fun e w' => e = .returned (.int .i64 kz) ∧ w' = grew a1 x) from (HK.out (grew a1 x)).mono fun _ _ ⟨he, hm⟩ => ⟨he, hm.symm⟩)
        have d0 := fun q => cell_grew c0 q
        replace c3' := fun q => cell_grew c3' q
        replace c4 := fun q => cell_grew c4 q
        refine wp_region_grew (by kernel_rfl) (by kernel_rfl) ?_
        repeat (first | go_big_quiet_skip | (go_big_quiet_want; go_big_quiet_op; (first | go_big_quiet_on | (apply Exists.intro; refine ⟨fun _ => ?_, ?_⟩; (focus (go_at_call 68; with_reducible exact calls_grew_same (C1.out _))); go_big_quiet_on))))
        refine wpQuiet_nil ?_
        intro w2 hw2
        obtain ⟨x2, rfl⟩ := hw2
        have HB := Lib.hid (below_thn HA1.out.1 (below_grew a1 x2) (Nat.le_refl _))
        replace c0 := cell_grew c0 x2
        replace c1' := cell_grew c1' x2
        replace c2' := cell_grew c2' x2
        clear c3' c4 d0 C1
        generalize grew a1 x2 = w2 at HB c0 c1' c2' ⊢
        go_wp2_with fail
        go_ret
        exact ⟨by rw [← HR.out]; rfl, HB.out⟩
    · skip
      go_wp2_with (first
    | ((with_reducible refine wpList_box_blk w rfl 24 (.tmp 0) rfl (tmC k u n s (.slice ao l c)) rfl ?_); intro a1 hb hbel hsz; have HA1 := Lib.hid (show Below w.heap.size w a1 ∧ Blk a1 w.heap.size 24 (tmC k u n s (.slice ao l c)) from ⟨below_thn H0.out hbel (Nat.le_refl _), hb⟩); have c0 := HA1.out.2.cell 0; have c1' := HA1.out.2.cell 1; have c2' := HA1.out.2.cell 2; have c3' := HA1.out.2.cell 3; have c4 := HA1.out.2.cell 4; simp only [tmC, List.getElem?_cons_zero, List.getElem?_cons_succ] at c0 c1' c2' c3' c4; clear hb hbel hsz))
      have C1 := Lib.hid (fun x => show Calls Try.prog 68 #[.int .i64 k] (grew a1 x) (fun e w' => e = .returned (.int .i64 kz) ∧ w' = grew a1 x) from (HK.out (grew a1 x)).mono fun _ _ ⟨he, hm⟩ => ⟨he, hm.symm⟩)
      have d0 := fun q => cell_grew c0 q
      replace c3' := fun q => cell_grew c3' q
      replace c4 := fun q => cell_grew c4 q
      refine wp_region_grew (by kernel_rfl) (by kernel_rfl) ?_
      repeat (first | go_big_quiet_skip | (go_big_quiet_want; go_big_quiet_op; (first | go_big_quiet_on | (apply Exists.intro; refine ⟨fun _ => ?_, ?_⟩; (focus (go_at_call 68; with_reducible exact calls_grew_same (C1.out _))); go_big_quiet_on))))
      refine wpQuiet_nil ?_
      intro w2 hw2
      obtain ⟨x2, rfl⟩ := hw2
      have HB := Lib.hid (below_thn HA1.out.1 (below_grew a1 x2) (Nat.le_refl _))
      replace c0 := cell_grew c0 x2
      replace c1' := cell_grew c1' x2
      replace c2' := cell_grew c2' x2
      clear c3' c4 d0 C1
      generalize grew a1 x2 = w2 at HB c0 c1' c2' ⊢
      go_wp2_with fail
      go_ret
      exact ⟨by rw [← HR.out]; rfl, HB.out⟩
  · skip
    go_wp2_with (first
    | ((with_reducible refine wpList_box_blk w rfl 24 (.tmp 0) rfl (tmC k u n s (.slice ao l c)) rfl ?_); intro a1 hb hbel hsz; have HA1 := Lib.hid (show Below w.heap.size w a1 ∧ Blk a1 w.heap.size 24 (tmC k u n s (.slice ao l c)) from ⟨below_thn H0.out hbel (Nat.le_refl _), hb⟩); have c0 := HA1.out.2.cell 0; have c1' := HA1.out.2.cell 1; have c2' := HA1.out.2.cell 2; have c3' := HA1.out.2.cell 3; have c4 := HA1.out.2.cell 4; simp only [tmC, List.getElem?_cons_zero, List.getElem?_cons_succ] at c0 c1' c2' c3' c4; clear hb hbel hsz))
    have C1 := Lib.hid (fun x => show Calls Try.prog 68 #[.int .i64 k] (grew a1 x) (fun e w' => e = .returned (.int .i64 kz) ∧ w' = grew a1 x) from (HK.out (grew a1 x)).mono fun _ _ ⟨he, hm⟩ => ⟨he, hm.symm⟩)
    have d0 := fun q => cell_grew c0 q
    replace c3' := fun q => cell_grew c3' q
    replace c4 := fun q => cell_grew c4 q
    refine wp_region_grew (by kernel_rfl) (by kernel_rfl) ?_
    repeat (first | go_big_quiet_skip | (go_big_quiet_want; go_big_quiet_op; (first | go_big_quiet_on | (apply Exists.intro; refine ⟨fun _ => ?_, ?_⟩; (focus (go_at_call 68; with_reducible exact calls_grew_same (C1.out _))); go_big_quiet_on))))
    refine wpQuiet_nil ?_
    intro w2 hw2
    obtain ⟨x2, rfl⟩ := hw2
    have HB := Lib.hid (below_thn HA1.out.1 (below_grew a1 x2) (Nat.le_refl _))
    replace c0 := cell_grew c0 x2
    replace c1' := cell_grew c1' x2
    replace c2' := cell_grew c2' x2
    clear c3' c4 d0 C1
    generalize grew a1 x2 = w2 at HB c0 c1' c2' ⊢
    go_wp2_with fail
    go_ret
    exact ⟨by rw [← HR.out]; rfl, HB.out⟩


end Go.Proofs.Ytfenikoajadiaaa
