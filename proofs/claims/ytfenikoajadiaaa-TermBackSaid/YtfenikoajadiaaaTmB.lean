/-
  Layer 5: term.plain, walked. Conditions: none.
-/
import Derived.Test.YtfenikoajadiaaaTmA
namespace Go.Proofs.Ytfenikoajadiaaa
open Go Go.RowKit
set_option linter.unusedSimpArgs false
set_option linter.unusedVariables false


def plainX (b0 c1 c2 bT c3 bU kn u0 bN ge le n0 : Bool) : Bool := b0 && (c1 && (c2 && ((bT || c3) && ((if bU = true then kn else u0) && (if bN = true then (ge && le) else n0)))))
/-- may the fields of a term be, but for its kids? -/
def plainB (k u n : Int) (s : ByteArray) (l : Nat) : Bool :=
  plainX (fieldsF k != 0) ((l : Int) == (kidsN k : Int)) (decide ((s.size : Int) ≤ 64)) (hasB k 1) (s.toList.isEmpty) (hasB k 2) (knownB u) (u == 0) (hasB k 4) (decide (0 ≤ n)) (decide (n ≤ 65535)) (n == 0)

set_option maxRecDepth 100000 in
set_option maxHeartbeats 8000000 in
theorem plain_any (k u n : Int) (s : ByteArray) (ao : Option Addr) (l c : Nat) (w : World) :
    Calls Try.prog 74 #[.agg (tmC k u n s (.slice ao l c)).toArray] w (fun e w' => e = .returned (.bool (plainB k u n s l)) ∧ Below w.heap.size w w') := by
  obtain ⟨R, hR⟩ : ∃ R, plainB k u n s l = R := ⟨_, rfl⟩
  rw [hR]
  have HFD := Lib.hid (fields_any k)
  have HK := Lib.hid (kids_any k)
  have HT := Lib.hid (has_any k 1 (by omega))
  have HU := Lib.hid (has_any k 2 (by omega))
  have HN := Lib.hid (has_any k 4 (by omega))
  unfold plainB at hR
  have HKN := Lib.hid (known_any u)
  obtain ⟨b0, hb0⟩ : ∃ x, (fieldsF k != 0) = x := ⟨_, rfl⟩
  obtain ⟨c1, hc1⟩ : ∃ x, ((l : Int) == (kidsN k : Int)) = x := ⟨_, rfl⟩
  obtain ⟨c2, hc2⟩ : ∃ x, (decide ((s.size : Int) ≤ 64)) = x := ⟨_, rfl⟩
  obtain ⟨bT, hbT⟩ : ∃ x, (hasB k 1) = x := ⟨_, rfl⟩
  obtain ⟨c3, hc3⟩ : ∃ x, (s.toList.isEmpty) = x := ⟨_, rfl⟩
  obtain ⟨bU, hbU⟩ : ∃ x, (hasB k 2) = x := ⟨_, rfl⟩
  obtain ⟨kn, hkn⟩ : ∃ x, (knownB u) = x := ⟨_, rfl⟩
  obtain ⟨u0, hu0⟩ : ∃ x, (u == 0) = x := ⟨_, rfl⟩
  obtain ⟨bN, hbN⟩ : ∃ x, (hasB k 4) = x := ⟨_, rfl⟩
  obtain ⟨ge, hge⟩ : ∃ x, (decide (0 ≤ n)) = x := ⟨_, rfl⟩
  obtain ⟨le, hle⟩ : ∃ x, (decide (n ≤ 65535)) = x := ⟨_, rfl⟩
  obtain ⟨n0, hn0⟩ : ∃ x, (n == 0) = x := ⟨_, rfl⟩
  rw [hb0, hc1, hc2, hbT, hc3, hbU, hkn, hu0, hbN, hge, hle, hn0] at hR
  have HR := Lib.hid hR
  clear hR
  rw [hbT] at HT
  rw [hbU] at HU
  rw [hbN] at HN
  rw [hkn] at HKN
  clear hbT hbU hbN hkn
  generalize fieldsF k = f at HFD HK HT HU HN hb0
  generalize kidsN k = kd at HK hc1
  have Eb0 := Lib.hid hb0
  clear hb0
  have Ec1 := Lib.hid hc1
  clear hc1
  have Ec2 := Lib.hid hc2
  clear hc2
  have Ec3 := Lib.hid hc3
  clear hc3
  have Eu0 := Lib.hid hu0
  clear hu0
  have Ege := Lib.hid hge
  clear hge
  have Ele := Lib.hid hle
  clear hle
  have En0 := Lib.hid hn0
  clear hn0
  have H0 := Lib.hid (Below.refl w.heap.size w)
  go_enter Try.func74, Try.ntmps74
  go_wp2_with (first
    | ((with_reducible refine wpList_box_blk w rfl 24 (.tmp 0) rfl (tmC k u n s (.slice ao l c)) rfl ?_); intro a1 hb hbel hsz; have HA1 := Lib.hid (show Below w.heap.size w a1 ∧ Blk a1 w.heap.size 24 (tmC k u n s (.slice ao l c)) from ⟨below_thn H0.out hbel (Nat.le_refl _), hb⟩); have c0 := HA1.out.2.cell 0; have c1' := HA1.out.2.cell 1; have c2' := HA1.out.2.cell 2; have c3' := HA1.out.2.cell 3; have c4 := HA1.out.2.cell 4; simp only [tmC, List.getElem?_cons_zero, List.getElem?_cons_succ] at c0 c1' c2' c3' c4; clear hb hbel hsz))
  refine (HFD.out a1).mono ?_
  rintro e' w' ⟨rfl, rfl⟩
  have C1 := Lib.hid (fun x => show Calls Try.prog 63 #[.int .i64 f] (grew a1 x) (fun e w' => e = .returned (.int .i64 kd) ∧ w' = grew a1 x) from (HK.out (grew a1 x)).mono fun _ _ ⟨he, hm⟩ => ⟨he, hm.symm⟩)
  have C2 := Lib.hid (fun x => show Calls Try.prog 59 #[.int .i64 f, .int .i64 1] (grew a1 x) (fun e w' => e = .returned (.bool bT) ∧ w' = grew a1 x) from (HT.out (grew a1 x)).mono fun _ _ ⟨he, hm⟩ => ⟨he, hm.symm⟩)
  have eb0 := Eb0.out
  cases b0
  · skip
    go_wp2_with fail
    replace c3' := fun q => cell_grew c3' q
    replace c4 := fun q => cell_grew c4 q
    refine wp_region_grew (by kernel_rfl) (by kernel_rfl) ?_
    repeat (first | go_big_quiet_skip | (go_big_quiet_want; go_big_quiet_op; (first | go_big_quiet_on | (apply Exists.intro; refine ⟨fun _ => ?_, ?_⟩; (focus (first | (go_at_call 63; with_reducible exact calls_grew_same (C1.out _)) | (go_at_call 59; with_reducible exact calls_grew_same (C2.out _)))); go_big_quiet_on))))
    refine wpQuiet_nil ?_
    intro w2 hw2
    obtain ⟨x2, rfl⟩ := hw2
    have HB := Lib.hid (below_thn HA1.out.1 (below_grew a1 x2) (Nat.le_refl _))
    replace c1' := cell_grew c1' x2
    replace c2' := cell_grew c2' x2
    clear c0 c3' c4 C1 C2
    generalize grew a1 x2 = w2 at HB c1' c2' ⊢
    go_wp2_with fail
    go_ret
    exact ⟨by rw [← HR.out]; rfl, HB.out⟩
  · skip
    have ec1 := Ec1.out
    cases c1
    · skip
      go_wp2_with fail
      replace c3' := fun q => cell_grew c3' q
      replace c4 := fun q => cell_grew c4 q
      refine wp_region_grew (by kernel_rfl) (by kernel_rfl) ?_
      repeat (first | go_big_quiet_skip | (go_big_quiet_want; go_big_quiet_op; (first | go_big_quiet_on | (apply Exists.intro; refine ⟨fun _ => ?_, ?_⟩; (focus (first | (go_at_call 63; with_reducible exact calls_grew_same (C1.out _)) | (go_at_call 59; with_reducible exact calls_grew_same (C2.out _)))); go_big_quiet_on))))
      refine wpQuiet_nil ?_
      intro w2 hw2
      obtain ⟨x2, rfl⟩ := hw2
      have HB := Lib.hid (below_thn HA1.out.1 (below_grew a1 x2) (Nat.le_refl _))
      replace c1' := cell_grew c1' x2
      replace c2' := cell_grew c2' x2
      clear c0 c3' c4 C1 C2
      generalize grew a1 x2 = w2 at HB c1' c2' ⊢
      go_wp2_with fail
      go_ret
      exact ⟨by rw [← HR.out]; rfl, HB.out⟩
    · skip
      have ec2 := Ec2.out
      cases c2
      · skip
        go_wp2_with fail
        replace c3' := fun q => cell_grew c3' q
        replace c4 := fun q => cell_grew c4 q
        refine wp_region_grew (by kernel_rfl) (by kernel_rfl) ?_
        repeat (first | go_big_quiet_skip | (go_big_quiet_want; go_big_quiet_op; (first | go_big_quiet_on | (apply Exists.intro; refine ⟨fun _ => ?_, ?_⟩; (focus (first | (go_at_call 63; with_reducible exact calls_grew_same (C1.out _)) | (go_at_call 59; with_reducible exact calls_grew_same (C2.out _)))); go_big_quiet_on))))
        refine wpQuiet_nil ?_
        intro w2 hw2
        obtain ⟨x2, rfl⟩ := hw2
        have HB := Lib.hid (below_thn HA1.out.1 (below_grew a1 x2) (Nat.le_refl _))
        replace c1' := cell_grew c1' x2
        replace c2' := cell_grew c2' x2
        clear c0 c3' c4 C1 C2
        generalize grew a1 x2 = w2 at HB c1' c2' ⊢
        go_wp2_with fail
        go_ret
        exact ⟨by rw [← HR.out]; rfl, HB.out⟩
      · skip
        cases bT
        · skip
          have ec3 := Ec3.out
          cases c3
          · skip
            go_wp2_with fail
            replace c3' := fun q => cell_grew c3' q
            replace c4 := fun q => cell_grew c4 q
            refine wp_region_grew (by kernel_rfl) (by kernel_rfl) ?_
            repeat (first | go_big_quiet_skip | (go_big_quiet_want; go_big_quiet_op; (first | go_big_quiet_on | (apply Exists.intro; refine ⟨fun _ => ?_, ?_⟩; (focus (first | (go_at_call 63; with_reducible exact calls_grew_same (C1.out _)) | (go_at_call 59; with_reducible exact calls_grew_same (C2.out _)))); go_big_quiet_on))))
            refine wpQuiet_nil ?_
            intro w2 hw2
            obtain ⟨x2, rfl⟩ := hw2
            have HB := Lib.hid (below_thn HA1.out.1 (below_grew a1 x2) (Nat.le_refl _))
            replace c1' := cell_grew c1' x2
            replace c2' := cell_grew c2' x2
            clear c0 c3' c4 C1 C2
            generalize grew a1 x2 = w2 at HB c1' c2' ⊢
            go_wp2_with fail
            go_ret
            exact ⟨by rw [← HR.out]; rfl, HB.out⟩
          · skip
            go_wp2_with fail
            replace c3' := fun q => cell_grew c3' q
            replace c4 := fun q => cell_grew c4 q
            refine wp_region_grew (by kernel_rfl) (by kernel_rfl) ?_
            repeat (first | go_big_quiet_skip | (go_big_quiet_want; go_big_quiet_op; (first | go_big_quiet_on | (apply Exists.intro; refine ⟨fun _ => ?_, ?_⟩; (focus (first | (go_at_call 63; with_reducible exact calls_grew_same (C1.out _)) | (go_at_call 59; with_reducible exact calls_grew_same (C2.out _)))); go_big_quiet_on))))
            refine wpQuiet_nil ?_
            intro w2 hw2
            obtain ⟨x2, rfl⟩ := hw2
            have HB := Lib.hid (below_thn HA1.out.1 (below_grew a1 x2) (Nat.le_refl _))
            replace c1' := cell_grew c1' x2
            replace c2' := cell_grew c2' x2
            clear c0 c3' c4 C1 C2
            generalize grew a1 x2 = w2 at HB c1' c2' ⊢
            go_wp2_with fail
            refine (HU.out w2).mono ?_
            rintro e' w' ⟨rfl, rfl⟩
            cases bU
            · skip
              go_wp2_with fail
              refine (HU.out w2).mono ?_
              rintro e' w' ⟨rfl, rfl⟩
              have eu0 := Eu0.out
              cases u0
              · skip
                go_wp2_with fail
                go_ret
                exact ⟨by rw [← HR.out]; rfl, HB.out⟩
              · skip
                go_wp2_with fail
                refine (HN.out w2).mono ?_
                rintro e' w' ⟨rfl, rfl⟩
                cases bN
                · skip
                  go_wp2_with fail
                  refine (HN.out w2).mono ?_
                  rintro e' w' ⟨rfl, rfl⟩
                  have en0 := En0.out
                  cases n0
                  · skip
                    go_wp2_with fail
                    go_ret
                    exact ⟨by rw [← HR.out]; rfl, HB.out⟩
                  · skip
                    go_wp2_with fail
                    go_ret
                    exact ⟨by rw [← HR.out]; rfl, HB.out⟩
                · skip
                  have ege := Ege.out
                  cases ge
                  · skip
                    go_wp2_with fail
                    refine (HN.out w2).mono ?_
                    rintro e' w' ⟨rfl, rfl⟩
                    go_wp2_with fail
                    go_ret
                    exact ⟨by rw [← HR.out]; rfl, HB.out⟩
                  · skip
                    have ele := Ele.out
                    cases le
                    · skip
                      go_wp2_with fail
                      refine (HN.out w2).mono ?_
                      rintro e' w' ⟨rfl, rfl⟩
                      go_wp2_with fail
                      go_ret
                      exact ⟨by rw [← HR.out]; rfl, HB.out⟩
                    · skip
                      go_wp2_with fail
                      go_ret
                      exact ⟨by rw [← HR.out]; rfl, HB.out⟩
            · skip
              go_wp2_with fail
              refine (HKN.out w2).mono ?_
              rintro e' w' ⟨rfl, rfl⟩
              cases kn
              · skip
                go_wp2_with fail
                refine (HU.out w2).mono ?_
                rintro e' w' ⟨rfl, rfl⟩
                go_wp2_with fail
                go_ret
                exact ⟨by rw [← HR.out]; rfl, HB.out⟩
              · skip
                go_wp2_with fail
                refine (HN.out w2).mono ?_
                rintro e' w' ⟨rfl, rfl⟩
                cases bN
                · skip
                  go_wp2_with fail
                  refine (HN.out w2).mono ?_
                  rintro e' w' ⟨rfl, rfl⟩
                  have en0 := En0.out
                  cases n0
                  · skip
                    go_wp2_with fail
                    go_ret
                    exact ⟨by rw [← HR.out]; rfl, HB.out⟩
                  · skip
                    go_wp2_with fail
                    go_ret
                    exact ⟨by rw [← HR.out]; rfl, HB.out⟩
                · skip
                  have ege := Ege.out
                  cases ge
                  · skip
                    go_wp2_with fail
                    refine (HN.out w2).mono ?_
                    rintro e' w' ⟨rfl, rfl⟩
                    go_wp2_with fail
                    go_ret
                    exact ⟨by rw [← HR.out]; rfl, HB.out⟩
                  · skip
                    have ele := Ele.out
                    cases le
                    · skip
                      go_wp2_with fail
                      refine (HN.out w2).mono ?_
                      rintro e' w' ⟨rfl, rfl⟩
                      go_wp2_with fail
                      go_ret
                      exact ⟨by rw [← HR.out]; rfl, HB.out⟩
                    · skip
                      go_wp2_with fail
                      go_ret
                      exact ⟨by rw [← HR.out]; rfl, HB.out⟩
        · skip
          go_wp2_with fail
          replace c3' := fun q => cell_grew c3' q
          replace c4 := fun q => cell_grew c4 q
          refine wp_region_grew (by kernel_rfl) (by kernel_rfl) ?_
          repeat (first | go_big_quiet_skip | (go_big_quiet_want; go_big_quiet_op; (first | go_big_quiet_on | (apply Exists.intro; refine ⟨fun _ => ?_, ?_⟩; (focus (first | (go_at_call 63; with_reducible exact calls_grew_same (C1.out _)) | (go_at_call 59; with_reducible exact calls_grew_same (C2.out _)))); go_big_quiet_on))))
          refine wpQuiet_nil ?_
          intro w2 hw2
          obtain ⟨x2, rfl⟩ := hw2
          have HB := Lib.hid (below_thn HA1.out.1 (below_grew a1 x2) (Nat.le_refl _))
          replace c1' := cell_grew c1' x2
          replace c2' := cell_grew c2' x2
          clear c0 c3' c4 C1 C2
          generalize grew a1 x2 = w2 at HB c1' c2' ⊢
          go_wp2_with fail
          refine (HU.out w2).mono ?_
          rintro e' w' ⟨rfl, rfl⟩
          cases bU
          · skip
            go_wp2_with fail
            refine (HU.out w2).mono ?_
            rintro e' w' ⟨rfl, rfl⟩
            have eu0 := Eu0.out
            cases u0
            · skip
              go_wp2_with fail
              go_ret
              exact ⟨by rw [← HR.out]; rfl, HB.out⟩
            · skip
              go_wp2_with fail
              refine (HN.out w2).mono ?_
              rintro e' w' ⟨rfl, rfl⟩
              cases bN
              · skip
                go_wp2_with fail
                refine (HN.out w2).mono ?_
                rintro e' w' ⟨rfl, rfl⟩
                have en0 := En0.out
                cases n0
                · skip
                  go_wp2_with fail
                  go_ret
                  exact ⟨by rw [← HR.out]; rfl, HB.out⟩
                · skip
                  go_wp2_with fail
                  go_ret
                  exact ⟨by rw [← HR.out]; rfl, HB.out⟩
              · skip
                have ege := Ege.out
                cases ge
                · skip
                  go_wp2_with fail
                  refine (HN.out w2).mono ?_
                  rintro e' w' ⟨rfl, rfl⟩
                  go_wp2_with fail
                  go_ret
                  exact ⟨by rw [← HR.out]; rfl, HB.out⟩
                · skip
                  have ele := Ele.out
                  cases le
                  · skip
                    go_wp2_with fail
                    refine (HN.out w2).mono ?_
                    rintro e' w' ⟨rfl, rfl⟩
                    go_wp2_with fail
                    go_ret
                    exact ⟨by rw [← HR.out]; rfl, HB.out⟩
                  · skip
                    go_wp2_with fail
                    go_ret
                    exact ⟨by rw [← HR.out]; rfl, HB.out⟩
          · skip
            go_wp2_with fail
            refine (HKN.out w2).mono ?_
            rintro e' w' ⟨rfl, rfl⟩
            cases kn
            · skip
              go_wp2_with fail
              refine (HU.out w2).mono ?_
              rintro e' w' ⟨rfl, rfl⟩
              go_wp2_with fail
              go_ret
              exact ⟨by rw [← HR.out]; rfl, HB.out⟩
            · skip
              go_wp2_with fail
              refine (HN.out w2).mono ?_
              rintro e' w' ⟨rfl, rfl⟩
              cases bN
              · skip
                go_wp2_with fail
                refine (HN.out w2).mono ?_
                rintro e' w' ⟨rfl, rfl⟩
                have en0 := En0.out
                cases n0
                · skip
                  go_wp2_with fail
                  go_ret
                  exact ⟨by rw [← HR.out]; rfl, HB.out⟩
                · skip
                  go_wp2_with fail
                  go_ret
                  exact ⟨by rw [← HR.out]; rfl, HB.out⟩
              · skip
                have ege := Ege.out
                cases ge
                · skip
                  go_wp2_with fail
                  refine (HN.out w2).mono ?_
                  rintro e' w' ⟨rfl, rfl⟩
                  go_wp2_with fail
                  go_ret
                  exact ⟨by rw [← HR.out]; rfl, HB.out⟩
                · skip
                  have ele := Ele.out
                  cases le
                  · skip
                    go_wp2_with fail
                    refine (HN.out w2).mono ?_
                    rintro e' w' ⟨rfl, rfl⟩
                    go_wp2_with fail
                    go_ret
                    exact ⟨by rw [← HR.out]; rfl, HB.out⟩
                  · skip
                    go_wp2_with fail
                    go_ret
                    exact ⟨by rw [← HR.out]; rfl, HB.out⟩


end Go.Proofs.Ytfenikoajadiaaa
