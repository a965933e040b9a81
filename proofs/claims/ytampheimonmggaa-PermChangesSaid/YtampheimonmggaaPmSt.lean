/-
  Layer 11's reference: set, walked. Conditions: none.
-/
import Derived.Test.YtampheimonmggaaPmW
namespace Go.Proofs.Ytampheimonmggaa
open Go Go.RowKit Go.Sort
set_option linter.unusedSimpArgs false
set_option linter.unusedVariables false

/-- does a number belong there? -/
def setB (l : List Int) (n : Int) (b : Bool) (x : Int) : Bool := (x == n && b) || (x != n && inB l x)
/-- of the numbers from 1 to k those that belong there -/
def setU (l : List Int) (n : Int) (b : Bool) : Nat → List Int
  | 0 => []
  | k + 1 => setU l n b k ++ if setB l n b ((k : Int) + 1) = true then [(k : Int) + 1] else []
theorem setU_succ (l : List Int) (n : Int) (b : Bool) (k : Nat) : setU l n b (k + 1) = setU l n b k ++ if setB l n b ((k : Int) + 1) = true then [(k : Int) + 1] else [] := rfl
theorem setU_len (l : List Int) (n : Int) (b : Bool) : ∀ k, (setU l n b k).length ≤ k
  | 0 => Nat.le_refl _
  | k + 1 => by
    have h := setU_len l n b k
    unfold setU
    rw [List.length_append]
    split <;> simp <;> omega

set_option maxRecDepth 100000 in
set_option maxHeartbeats 4000000 in
theorem rset_any (v : Value) (l : List Int) (n : Int) (is : Bool) (w : World) (hv : Sl w v (ofK .i64 l)) :
    Calls Try.prog 43 #[v, .int .i64 n, .bool is] w (InsP w.heap.size w (setU l n is 6)) := by
  have HV := Lib.hid hv
  obtain ⟨va, vc, rfl, -⟩ := hv.shape
  generalize (ofK .i64 l).length = vl at HV ⊢
  clear hv
  go_enter Try.func43, Try.ntmps43
  go_wp2_with fail
  go_loopw [7, 8] (fun u i wr => ∃ (k : Nat) (y : Int) (ao : Option Addr) (m c : Nat), u = .slice ao m c ∧ i = .int .i64 y ∧ 1 ≤ y ∧ y ≤ 7 ∧ Hid (y = (k : Int) + 1 ∧ (setU l n is k).length = m ∧ wr.ownsRow w.heap.size 3 1 (.slice ao m c) m (ofK .i64 (setU l n is k)) ∧ Below w.heap.size w wr)) (fun _ i _ => 7 - (intOf i).toNat)
  case atStart => exact ⟨0, 1, none, 0, 0, rfl, rfl, by omega, by omega, Lib.hid ⟨rfl, rfl, ⟨rfl, .inl ⟨rfl, rfl⟩⟩, Below.refl _ _⟩⟩
  case round =>
    obtain ⟨k, y, ao, m, c, rfl, rfl, hy1, hy7, HR⟩ := hrel
    have HM := Lib.hid (show m ≤ 7 from by have h := HR.out.2.1; have h2 := setU_len l n is k; have h3 := HR.out.1; omega)
    by_cases hle : y ≤ 6
    · have hy64 : y + 1 ≤ 9223372036854775807 := by omega
      have hy64' : -9223372036854775808 ≤ y + 1 := by omega
      by_cases hyn : y = n
      · have e1 : (y == n) = true := by simpa using hyn
        have e2 : (y != n) = false := by simpa using hyn
        have HE := Lib.hid (And.intro e1 e2)
        cases is
        · skip
          have HS := Lib.hid (show setU l n false (k + 1) = setU l n false k ++ [] from by have h1 := HR.out.1; have h2 : setB l n false y = false := (by unfold setB; rw [HE.out.1, HE.out.2]; rfl); rw [setU_succ, ← h1, h2]; rfl)
          clear hyn
          go_wp2_with fail
          go_roundw
          case rel => exact ⟨k + 1, y + 1, ao, m, c, rfl, by go_num, by omega, by omega, Lib.hid ⟨by have := HR.out.1; omega, by rw [HS.out, List.append_nil]; exact HR.out.2.1, by rw [HS.out, List.append_nil]; exact HR.out.2.2.1, HR.out.2.2.2⟩⟩
          case measure => simp [intOf]; omega
        · skip
          have HS := Lib.hid (show setU l n true (k + 1) = setU l n true k ++ [y] from by have h1 := HR.out.1; have h2 : setB l n true y = true := (by unfold setB; rw [HE.out.1, HE.out.2]; rfl); rw [setU_succ, ← h1, h2]; rfl)
          clear hyn
          go_wp2_with (first
    | ((with_reducible refine wpList_slice_i1 wr rfl (.tmp 30) rfl rfl ?_); intro w1 hb hbel hsz; have H1 := Lib.hid (show Sl w1 (.slice (some ⟨wr.heap.size, 0, none⟩) 1 1) (ofK .i64 [y]) ∧ w1.ownsRow w.heap.size 3 1 (.slice ao m c) m (ofK .i64 (setU l n true k)) ∧ Below w.heap.size w w1 from ⟨hb.sl_at 1 1 rfl (by omega) (by unfold maxLen; omega) (fun j hj => match j, hj with | 0, _ => rfl), own_ch HR.out.2.2.1 (Ch.of_below (S := fun _ => False) hbel (Nat.le_refl _)) (fun _ _ h => h), below_thn HR.out.2.2.2 hbel (Nat.le_refl _)⟩); clear hb hbel hsz)
    | (at_builtin; refine wpList_append_is w.heap.size (.tmp 29) (.tmp 31) rfl rfl H1.out.2.1 rfl rfl H1.out.1 (m + 1) rfl (by have := HM.out; omega) H1.out.2.2.size ?_))
          intro ao2 c2 w2 hown hgr hob
          have H2 := Lib.hid (show w2.ownsRow w.heap.size 3 1 (.slice ao2 (m + 1) c2) (m + 1) (ofK .i64 (setU l n true (k + 1))) ∧ Below w.heap.size w w2 from ⟨by rw [HS.out]; exact hown, H1.out.2.2.grown hgr H1.out.2.2.size (fun j hj => (H1.out.2.1.lt j hj).1)⟩)
          clear hown hgr hob
          go_wp2_with fail
          go_roundw
          case rel => exact ⟨k + 1, y + 1, ao2, m + 1, c2, rfl, by go_num, by omega, by omega, Lib.hid ⟨by have := HR.out.1; omega, by have := HR.out.2.1; have := HS.out; rw [HS.out, List.length_append]; simp; omega, H2.out.1, H2.out.2⟩⟩
          case measure => simp [intOf]; omega
      · have e1 : (y == n) = false := by simpa using hyn
        have e2 : (y != n) = true := by simpa using hyn
        have HE := Lib.hid (And.intro e1 e2)
        obtain ⟨z, hz⟩ : ∃ z, inB l y = z := ⟨_, rfl⟩
        have HZ := Lib.hid hz
        have C1 := Lib.hid (rin_any (.slice va vl vc) l y wr (HV.out.below HR.out.2.2.2 (Nat.le_refl _)))
        clear hz hyn
        go_wp2_with fail
        have hx := C1.out
        rw [HZ.out] at hx
        refine Calls.mono hx ?_
        clear hx
        rintro e' w9 ⟨rfl, rfl⟩
        cases z
        · skip
          have HS := Lib.hid (show setU l n is (k + 1) = setU l n is k ++ [] from by have h1 := HR.out.1; have h2 : setB l n is y = false := (by unfold setB; rw [HE.out.1, HE.out.2, HZ.out]; rfl); rw [setU_succ, ← h1, h2]; rfl)
          go_wp2_with fail
          go_roundw
          case rel => exact ⟨k + 1, y + 1, ao, m, c, rfl, by go_num, by omega, by omega, Lib.hid ⟨by have := HR.out.1; omega, by rw [HS.out, List.append_nil]; exact HR.out.2.1, by rw [HS.out, List.append_nil]; exact HR.out.2.2.1, HR.out.2.2.2⟩⟩
          case measure => simp [intOf]; omega
        · skip
          have HS := Lib.hid (show setU l n is (k + 1) = setU l n is k ++ [y] from by have h1 := HR.out.1; have h2 : setB l n is y = true := (by unfold setB; rw [HE.out.1, HE.out.2, HZ.out]; rfl); rw [setU_succ, ← h1, h2]; rfl)
          go_wp2_with (first
    | ((with_reducible refine wpList_slice_i1 wr rfl (.tmp 30) rfl rfl ?_); intro w1 hb hbel hsz; have H1 := Lib.hid (show Sl w1 (.slice (some ⟨wr.heap.size, 0, none⟩) 1 1) (ofK .i64 [y]) ∧ w1.ownsRow w.heap.size 3 1 (.slice ao m c) m (ofK .i64 (setU l n is k)) ∧ Below w.heap.size w w1 from ⟨hb.sl_at 1 1 rfl (by omega) (by unfold maxLen; omega) (fun j hj => match j, hj with | 0, _ => rfl), own_ch HR.out.2.2.1 (Ch.of_below (S := fun _ => False) hbel (Nat.le_refl _)) (fun _ _ h => h), below_thn HR.out.2.2.2 hbel (Nat.le_refl _)⟩); clear hb hbel hsz)
    | (at_builtin; refine wpList_append_is w.heap.size (.tmp 29) (.tmp 31) rfl rfl H1.out.2.1 rfl rfl H1.out.1 (m + 1) rfl (by have := HM.out; omega) H1.out.2.2.size ?_))
          intro ao2 c2 w2 hown hgr hob
          have H2 := Lib.hid (show w2.ownsRow w.heap.size 3 1 (.slice ao2 (m + 1) c2) (m + 1) (ofK .i64 (setU l n is (k + 1))) ∧ Below w.heap.size w w2 from ⟨by rw [HS.out]; exact hown, H1.out.2.2.grown hgr H1.out.2.2.size (fun j hj => (H1.out.2.1.lt j hj).1)⟩)
          clear hown hgr hob
          go_wp2_with fail
          go_roundw
          case rel => exact ⟨k + 1, y + 1, ao2, m + 1, c2, rfl, by go_num, by omega, by omega, Lib.hid ⟨by have := HR.out.1; omega, by have := HR.out.2.1; have := HS.out; rw [HS.out, List.length_append]; simp; omega, H2.out.1, H2.out.2⟩⟩
          case measure => simp [intOf]; omega
    · have HK := Lib.hid (show k = 6 from by have := HR.out.1; omega)
      have h7 : ¬ y ≤ 6 := hle
      go_wp2_with fail
      go_ret
      exact ⟨_, _, _, rfl, by have h := Sl.of_owns HR.out.2.2.1; rw [HK.out] at h; exact h, HR.out.2.2.2, fun j hj => (HR.out.2.2.1.lt j hj).1⟩


end Go.Proofs.Ytampheimonmggaa
