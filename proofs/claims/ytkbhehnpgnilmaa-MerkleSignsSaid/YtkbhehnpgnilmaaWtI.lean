/-
  Reference 06: Digits and Same, walked. Conditions: bytes; rows of digests.
-/
import Derived.Test.YtkbhehnpgnilmaaWtH
namespace Go.Proofs.Ytkbhehnpgnilmaa
open Go Go.RowKit
set_option linter.unusedSimpArgs false

theorem tdiv_of {x c : Int} (h : 0 ≤ x) : x.tdiv c = x / c := Int.tdiv_eq_ediv_of_nonneg h
theorem tmod_of {x c : Int} (h : 0 ≤ x) : x.tmod c = x % c := Int.tmod_eq_emod_of_nonneg h

set_option maxRecDepth 100000 in
set_option maxHeartbeats 4000000 in
theorem rdigits_any (m : List Int) (w : World) (hm : IsD m) :
    Calls Try.prog 50 #[.agg (ofK .u8 m).toArray] w (fun e w' => ∃ ao c, e = .returned (.slice ao 67 c) ∧ w'.ownsRow w.heap.size 3 1 (.slice ao 67 c) 67 (ofK .i64 (digitsL m)) ∧ Below w.heap.size w w') := by
  obtain ⟨i0, hi, hz0, hz1, hz2⟩ := info_parts Try.infoIn
  have HM := Lib.hid hm
  have HI := Lib.hid (infoD hm)
  clear hm
  go_enter Try.func50, Try.ntmps50
  go_wp2_with (first
    | (with_reducible refine wpList_box_blk w rfl 23 (.tmp 0) rfl (ofK .u8 m) rfl ?_; intro w1 hb1 hbel1 hsz1; have HB1 := Lib.hid (And.intro hb1 (And.intro hbel1 hsz1)); have HR2 := Lib.hid (rangeW_blk hb1); clear hb1 hbel1 hsz1)
    | (with_reducible refine wpList_load_any rfl 23 (.tmp 1) rfl w.heap.size 0 rfl (ofK .u8 m) _ HR2.out Try.underlying23 rfl HI.out ?_))
  go_loopw [3, 6, 10] (fun out _ i wr => ∃ k : Nat, k ≤ 32 ∧ i = .int .i64 k ∧ ∃ ao n cp, out = .slice ao n cp ∧ n ≤ 64 ∧ Hid (n = 2 * k ∧ wr.ownsRow w.heap.size 3 1 (.slice ao n cp) n (ofK .i64 (digsL (m.take k))) ∧ Below w.heap.size w wr)) (fun _ _ i _ => 32 - (intOf i).toNat)
  case atStart => exact ⟨0, by omega, rfl, none, 0, 0, rfl, by omega, Lib.hid ⟨rfl, World.ownsRow_nil _ _ _ _, HB1.out.2.1⟩⟩
  case round =>
    obtain ⟨k, hk, rfl, ao, n, cp, rfl, hn, HR⟩ := hrel
    clear HR2 HB1
    by_cases hlt : k < 32
    · have hkl : k < m.length := by rw [HM.out.1]; exact hlt
      have hk32 : (k : Int) < 32 := by omega
      obtain ⟨x, hx⟩ : ∃ x, m[k] = x := ⟨_, rfl⟩
      have hix : ∀ w : World, (Instr.index 23 (.agg (ofK .u8 m).toArray) (.int .i64 k)).run Try.prog w = .ok (.int .u8 x) w := fun w => run_index_arr Try.underlying23 (by omega) (by omega) (fun _ => by rfl) (fun _ => by rfl) _ (by
        rw [Int.toNat_natCast, List.getElem?_toArray, get_ofK _ _ _ hkl, hx])
      have hx0 : 0 ≤ x ∧ x ≤ 255 := by rw [← hx]; exact HM.out.2 _ (List.getElem_mem _)
      have HT := Lib.hid (show m.take (k + 1) = m.take k ++ [x] by rw [List.take_add_one, List.getElem?_eq_getElem hkl, hx]; rfl)
      have hx1 := hx0.1
      have hx2 := hx0.2
      clear hx hx0
      have hwz : w.heap.size ≤ wr.heap.size := HR.out.2.2.size
      obtain ⟨y, hy⟩ : ∃ y, x / 16 = y := ⟨_, rfl⟩
      obtain ⟨z, hz⟩ : ∃ z, x % 16 = z := ⟨_, rfl⟩
      have HYZ := Lib.hid (And.intro hy hz)
      have hy0 : 0 ≤ y ∧ y ≤ 15 := by omega
      have hzb : 0 ≤ z ∧ z ≤ 15 := by omega
      have hq1 : x.tdiv 16 = y := by rw [tdiv_of hx1]; exact hy
      have hq2 : x.tmod 16 = z := by rw [tmod_of hx1]; exact hz
      have HA := Lib.hid (HR.out.2.1.alloc (.cells #[.int .i64 y, .int .i64 z] 3))
      go_wp2_with (at_builtin; refine wpList_append_sl _ rfl (.tmp 13) (.tmp 20) 55 rfl w.heap.size 3 i0 (.int .i64 0) 8 Try.underlying55 hi hz0 hz1 hz2 rfl _ n _ rfl HA.out _ (ofK .i64 [y, z]) rfl (by exact sl_new _ _ _ _ _ 2 rfl rfl (by omega)) (one_ofK _ _) (n + 2) ?_ ?_ ?_ ?_ ?_)
      · simp [ofK]
      · unfold maxLen; omega
      · omega
      · (first | (simp; omega) | omega)
      · intro ao2 cp2 w3 hown3 hgr3 _
        have e2 : ofK .i64 (digsL (m.take k)) ++ ofK .i64 [y, z] = ofK .i64 (digsL (m.take (k + 1))) := by rw [HT.out, digsL_snoc, HYZ.out.1, HYZ.out.2]; simp [ofK]
        rw [e2] at hown3
        have hn2 : n + 2 ≤ 64 := by have := HR.out.1; omega
        have HR3 := Lib.hid (show n + 2 = 2 * (k + 1) ∧ _ from And.intro (by have := HR.out.1; omega) (And.intro hown3 (show Below w.heap.size w w3 from (HR.out.2.2.alloc hwz _).grown hgr3 (by simp; omega) (fun i hi => (HR.out.2.1.lt i hi).1))))
        clear hown3 hgr3 e2 HR HA
        go_wp2_with fail
        go_roundw
        case rel => exact ⟨k + 1, by omega, by go_num, ao2, n + 2, cp2, rfl, hn2, HR3⟩
        case measure => simp [intOf]; omega
    · obtain rfl : k = 32 := by omega
      have eM : m.take 32 = m := List.take_of_length_le (by rw [HM.out.1]; exact Nat.le_refl _)
      rw [eM] at HR
      clear eM
      have hn64 : n = 64 := HR.out.1
      subst hn64
      have hdl : (digsL m).length = 64 := by rw [digsL_length, HM.out.1]
      obtain ⟨_, _, hdv, _, _, hdc⟩ := (Sl.of_owns HR.out.2.1).nums
      rw [hdl] at hdv
      obtain ⟨rfl, rfl⟩ : _ = _ ∧ _ = _ := by simpa using hdv
      obtain ⟨dg, dgo, rfl, _, hdcell⟩ := hdc (by rw [hdl]; omega)
      have HDC := Lib.hid hdcell
      have HDL := Lib.hid hdl
      clear hdv hdc hdcell hdl
      have hb0 := HR.out.2.2.size
      have HRR := Lib.hid (And.intro HR.out hb0)
      go_wp2_with fail
      go_loopw [4, 8, 25] (fun sum _ i wt => wt = wr ∧ ∃ j : Nat, j ≤ 64 ∧ i = .int .i64 j ∧ ∃ s, sum = .int .i64 s ∧ 0 ≤ s ∧ s ≤ 15 * j ∧ Hid (s = missL ((digsL m).take j))) (fun _ _ i _ => 64 - (intOf i).toNat)
      case atStart => exact ⟨rfl, 0, by omega, rfl, 0, rfl, by omega, by omega, Lib.hid rfl⟩
      case round =>
        obtain ⟨rfl, j, hj, rfl, s, rfl, hs0, hs1, HS⟩ := hrel
        by_cases hlt2 : j < 64
        · have hj2 : (j : Int) < 64 := by omega
          have hj0 : (0 : Int) ≤ (j : Int) := by omega
          have hjl : j < (digsL m).length := by rw [HDL.out]; exact hlt2
          have hcw := HDC.out j hjl
          have hd0 := digsL_bd HM.out.2 _ (List.getElem_mem hjl)
          have htk : (digsL m).take (j + 1) = (digsL m).take j ++ [(digsL m)[j]] := by rw [List.take_add_one, List.getElem?_eq_getElem hjl]; rfl
          generalize (digsL m)[j] = d at hcw hd0 htk
          have hd1 := hd0.1
          have hd2 := hd0.2
          have HS2 := Lib.hid (show s + (15 - d) = missL ((digsL m).take (j + 1)) by rw [htk, missL_snoc, ← HS.out])
          clear htk hd0
          go_wp2_with fail
          go_roundw
          case rel => exact ⟨trivial, j + 1, by omega, by go_num, s + (15 - d), by go_num, by omega, by omega, HS2⟩
          case measure => simp [intOf]; omega
        · obtain rfl : j = 64 := by omega
          have eM : (digsL m).take 64 = digsL m := List.take_of_length_le (by rw [HDL.out]; exact Nat.le_refl _)
          rw [eM] at HS
          clear eM
          obtain ⟨p, hp⟩ : ∃ p, s / 256 = p := ⟨_, rfl⟩
          obtain ⟨q0, hq0⟩ : ∃ q, s / 16 = q := ⟨_, rfl⟩
          obtain ⟨q, hq⟩ : ∃ q, q0 % 16 = q := ⟨_, rfl⟩
          obtain ⟨r, hr⟩ : ∃ r, s % 16 = r := ⟨_, rfl⟩
          have HP := Lib.hid (show s / 256 = p ∧ s / 16 % 16 = q ∧ s % 16 = r from ⟨hp, by rw [hq0, hq], hr⟩)
          have t1 : s.tdiv 256 = p := by rw [tdiv_of hs0]; exact hp
          have t2 : s.tdiv 16 = q0 := by rw [tdiv_of hs0]; exact hq0
          have t3 : q0.tmod 16 = q := by rw [tmod_of (by omega)]; exact hq
          have t4 : s.tmod 16 = r := by rw [tmod_of hs0]; exact hr
          have hw1 : 0 ≤ p ∧ p ≤ 15 ∧ 0 ≤ q0 ∧ q0 ≤ 960 ∧ 0 ≤ q ∧ q ≤ 15 ∧ 0 ≤ r ∧ r ≤ 15 := by omega
          have hwz : w.heap.size ≤ wr.heap.size := hb0
          have HA := Lib.hid (HR.out.2.1.alloc (.cells #[.int .i64 p, .int .i64 q, .int .i64 r] 3))
          go_wp2_with (at_builtin; refine wpList_append_sl _ rfl (.tmp 34) (.tmp 42) 55 rfl w.heap.size 3 i0 (.int .i64 0) 8 Try.underlying55 hi hz0 hz1 hz2 rfl _ 64 _ rfl HA.out _ (ofK .i64 [p, q, r]) rfl (by exact sl_new _ _ _ _ _ 3 rfl rfl (by omega)) (one_ofK _ _) 67 ?_ ?_ ?_ ?_ ?_)
          · simp [ofK]
          · unfold maxLen; omega
          · omega
          · (first | (simp; omega) | omega)
          · intro ao2 cp2 w3 hown3 hgr3 _
            have e2 : ofK .i64 (digsL m) ++ ofK .i64 [p, q, r] = ofK .i64 (digitsL m) := by unfold digitsL; rw [← HS.out, HP.out.1, HP.out.2.1, HP.out.2.2]; simp [ofK]
            rw [e2] at hown3
            have HR3 := Lib.hid (And.intro hown3 (show Below w.heap.size w w3 from (HR.out.2.2.alloc hwz _).grown hgr3 (by simp; omega) (fun i hi => (HR.out.2.1.lt i hi).1)))
            clear hown3 hgr3 e2
            go_wp2_with fail
            go_ret
            exact ⟨ao2, cp2, rfl, HR3.out.1, HR3.out.2⟩

end Go.Proofs.Ytkbhehnpgnilmaa
