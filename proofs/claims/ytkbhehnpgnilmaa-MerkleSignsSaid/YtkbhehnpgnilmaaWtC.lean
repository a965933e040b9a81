/-
  Package wots: Digits, walked. Conditions: bytes.
-/
import Derived.Test.YtkbhehnpgnilmaaWtB
namespace Go.Proofs.Ytkbhehnpgnilmaa
open Go Go.RowKit
set_option linter.unusedSimpArgs false

theorem ch_grown {w w' : World} {row : Option Nat} (hg : w.grownBy w' row) : Ch (fun k => row = some k) w w' := ⟨hg.os, hg.tape, hg.output, hg.size, fun k hk hs => hg.block k hk (fun e => hs e.symm)⟩

def digsL (m : List Int) : List Int := m.flatMap (fun c => [c / 16, c % 16])
def missL (l : List Int) : Int := l.foldl (fun a d => a + (15 - d)) 0
/-- the digits of a digest, and the check sum's -/
def digitsL (m : List Int) : List Int := digsL m ++ [missL (digsL m) / 256, missL (digsL m) / 16 % 16, missL (digsL m) % 16]

theorem missL_snoc (l : List Int) (d : Int) : missL (l ++ [d]) = missL l + (15 - d) := by simp [missL, List.foldl_append]
theorem digsL_snoc (l : List Int) (c : Int) : digsL (l ++ [c]) = digsL l ++ [c / 16, c % 16] := by simp [digsL]
theorem digsL_length : ∀ (l : List Int), (digsL l).length = 2 * l.length
  | [] => rfl
  | c :: l => by
    have := digsL_length l
    unfold digsL at *
    rw [List.flatMap_cons, List.length_append, this, List.length_cons]; simp; omega
theorem and15 : ∀ x : Int, 0 ≤ x → x ≤ 255 → bits .and .u8 x 15 = x % 16 := by
  intro x h0 h1
  have h : ∀ n : Fin 256, bits .and .u8 ((n.val : Nat) : Int) 15 = ((n.val : Nat) : Int) % 16 := by decide +kernel
  have := h ⟨x.toNat, by omega⟩
  have e : ((x.toNat : Nat) : Int) = x := by omega
  simpa [e] using this
theorem and15i : ∀ x : Int, 0 ≤ x → x ≤ 1023 → bits .and .i64 x 15 = x % 16 := by
  intro x h0 h1
  have h : ∀ n : Fin 1024, bits .and .i64 ((n.val : Nat) : Int) 15 = ((n.val : Nat) : Int) % 16 := by decide +kernel
  have := h ⟨x.toNat, by omega⟩
  have e : ((x.toNat : Nat) : Int) = x := by omega
  simpa [e] using this

theorem Try.infoIn : (Try.prog.info? 3).map (fun i => (i.zero, i.size, i.bytes)) = some (some (.int .i64 0), 1, 8) := by kernel_rfl

set_option maxRecDepth 100000 in
set_option maxHeartbeats 4000000 in
theorem digits_any (m : List Int) (w : World) (hm : IsD m) :
    Calls Try.prog 49 #[.agg (ofK .u8 m).toArray] w (fun e w' => ∃ ao c, e = .returned (.slice ao 67 c) ∧ w'.ownsRow w.heap.size 3 1 (.slice ao 67 c) 67 (ofK .i64 (digitsL m)) ∧ Below w.heap.size w w') := by
  obtain ⟨i0, hi, hz0, hz1, hz2⟩ := info_parts Try.infoIn
  have HM := Lib.hid hm
  have HI := Lib.hid (infoD hm)
  clear hm
  go_enter Try.func49, Try.ntmps49
  go_wp2_with (first
    | (with_reducible refine wpList_box_blk w rfl 23 (.tmp 0) rfl (ofK .u8 m) rfl ?_; intro w1 hb1 hbel1 hsz1; have HB1 := Lib.hid (And.intro hb1 (And.intro hbel1 hsz1)); clear hb1 hbel1 hsz1)
    | ((at_make; refine wpList_make_own w1 rfl _ _ 55 rfl w.heap.size 3 i0 (.int .i64 0) 1 Try.underlying55 hi hz0 hz1 .i64 .i64 67 67 rfl rfl rfl (by rw [hz2]; omega) (by unfold maxLen; omega) (by have := HB1.out.2.2; omega) ?_); intro w2 hown hgr; have H2 := Lib.hid (And.intro hown (And.intro (HB1.out.2.1.grown hgr (by have := HB1.out.2.2; omega) (fun k h => by cases h)) (HB1.out.1.keep (ch_grown hgr) (fun h => by cases h)))); have HR2 := Lib.hid (rangeW_blk H2.out.2.2); clear hown hgr)
    | (with_reducible refine wpList_load_any rfl 23 (.tmp 1) rfl w.heap.size 0 rfl (ofK .u8 m) _ HR2.out Try.underlying23 rfl HI.out ?_))
  go_loopw [3, 4, 11] (fun out sum i wr => ∃ k : Nat, k ≤ 32 ∧ i = .int .i64 k ∧ ∃ ao n cp s, out = .slice ao n cp ∧ sum = .int .i64 s ∧ n ≤ 64 ∧ 0 ≤ s ∧ s ≤ 30 * k ∧ Hid (n = 2 * k ∧ s = missL (digsL (m.take k)) ∧ wr.ownsRow w.heap.size 3 1 (.slice ao n cp) n (ofK .i64 (digsL (m.take k))) ∧ Below w.heap.size w wr)) (fun _ _ i _ => 32 - (intOf i).toNat)
  case atStart => exact ⟨0, by omega, rfl, _, 0, _, 0, rfl, rfl, by omega, by omega, by omega, Lib.hid ⟨rfl, rfl, H2.out.1, H2.out.2.1⟩⟩
  case round =>
    obtain ⟨k, hk, rfl, ao, n, cp, s, rfl, rfl, hn, hs0, hs1, HR⟩ := hrel
    clear HR2 H2 HB1
    by_cases hlt : k < 32
    · have hkl : k < m.length := by rw [HM.out.1]; exact hlt
      have hk32 : (k : Int) < 32 := by omega
      obtain ⟨x, hx⟩ : ∃ x, m[k] = x := ⟨_, rfl⟩
      have hix : ∀ w : World, (Instr.index 23 (.agg (ofK .u8 m).toArray) (.int .i64 k)).run Try.prog w = .ok (.int .u8 x) w := fun w => run_index_arr Try.underlying23 (by omega) (by omega) (fun _ => by rfl) (fun _ => by rfl) _ (by
        rw [Int.toNat_natCast, List.getElem?_toArray, get_ofK _ _ _ hkl, hx])
      have hx0 : 0 ≤ x ∧ x ≤ 255 := by rw [← hx]; exact HM.out.2 _ (List.getElem_mem _)
      have HT := Lib.hid (show m.take (k + 1) = m.take k ++ [x] by rw [List.take_add_one, List.getElem?_eq_getElem hkl, hx]; rfl)
      have hx1 := hx0.1
      have hx2 := hx0.2
      have ha := and15 x hx1 hx2
      clear hx hx0
      have hwz : w.heap.size ≤ wr.heap.size := HR.out.2.2.2.size
      obtain ⟨y, hy⟩ : ∃ y, x / 16 = y := ⟨_, rfl⟩
      obtain ⟨z, hz⟩ : ∃ z, x % 16 = z := ⟨_, rfl⟩
      have HYZ := Lib.hid (And.intro hy hz)
      have hy0 : 0 ≤ y ∧ y ≤ 15 := by omega
      have hzb : 0 ≤ z ∧ z ≤ 15 := by omega
      have HD := Lib.hid (all2 (P := fun d : Int => 0 ≤ d ∧ d ≤ 15) hy0 hzb)
      go_wp2_with fail
      try rw [hy, hz]
      clear hy hz hy0 hzb ha hx1 hx2
      go_loopw [3, 4, 8, 21] (fun out sum _ i wt => ∃ j : Nat, j ≤ 2 ∧ i = .int .i64 j ∧ ∃ ao n cp s, out = .slice ao n cp ∧ sum = .int .i64 s ∧ n ≤ 66 ∧ 0 ≤ s ∧ s ≤ 30 * k + 15 * j ∧ Hid (n = 2 * k + j ∧ s = missL (digsL (m.take k) ++ [y, z].take j) ∧ wt.ownsRow w.heap.size 3 1 (.slice ao n cp) n (ofK .i64 (digsL (m.take k) ++ [y, z].take j)) ∧ Below w.heap.size w wt)) (fun _ _ _ i _ => 2 - (intOf i).toNat)
      case atStart => exact ⟨0, by omega, rfl, ao, n, cp, s, rfl, rfl, by omega, by omega, by omega, Lib.hid ⟨by have := HR.out.1; omega, by simpa using HR.out.2⟩⟩
      case round =>
        obtain ⟨j, hj, rfl, ao, n, cp, s, rfl, rfl, hn, hs0, hs1, HR⟩ := hrel
        by_cases hlt2 : j < 2
        · have hj2 : (j : Int) < 2 := by omega
          have hl2 : j < ([y, z] : List Int).length := hlt2
          obtain ⟨d, hd⟩ : ∃ d, ([y, z] : List Int)[j]'hl2 = d := ⟨_, rfl⟩
          have hd0 : 0 ≤ d ∧ d ≤ 15 := by rw [← hd]; exact HD.out _ (List.getElem_mem hl2)
          have hd1 := hd0.1
          have hd2 := hd0.2
          have HT2 := Lib.hid (show [y, z].take (j + 1) = [y, z].take j ++ [d] by rw [List.take_add_one, List.getElem?_eq_getElem hl2, hd]; rfl)
          have hix2 : ∀ w : World, (Instr.index 138 (.agg #[.int .i64 y, .int .i64 z]) (.int .i64 j)).run Try.prog w = .ok (.int .i64 d) w := fun w => run_index_arr Try.underlying138 (by omega) (by omega) (fun _ => by rfl) (fun _ => by rfl) _ (by
            rw [Int.toNat_natCast, show (#[Value.int .i64 y, Value.int .i64 z] : Array Value) = (ofK .i64 [y, z]).toArray from rfl, List.getElem?_toArray, get_ofK _ _ _ hl2, hd])
          clear hd hd0 hl2
          have hwz : w.heap.size ≤ wr.heap.size := HR.out.2.2.2.size
          have HA := Lib.hid (HR.out.2.2.1.alloc (.cells #[.int .i64 d] 3))
          go_wp2_with (at_builtin; refine wpList_append_sl _ rfl (.tmp 24) (.tmp 26) 55 rfl w.heap.size 3 i0 (.int .i64 0) 8 Try.underlying55 hi hz0 hz1 hz2 rfl _ n _ rfl HA.out _ (ofK .i64 [d]) rfl (by exact sl_new _ _ _ _ _ 1 rfl rfl (by omega)) (one_ofK _ _) (n + 1) ?_ ?_ ?_ ?_ ?_)
          · simp [ofK]
          · unfold maxLen; omega
          · omega
          · (first | (simp; omega) | omega)
          · intro ao2 cp2 w3 hown3 hgr3 _
            have e2 : ofK .i64 (digsL (m.take k) ++ [y, z].take j) ++ ofK .i64 [d] = ofK .i64 (digsL (m.take k) ++ [y, z].take (j + 1)) := by rw [HT2.out]; simp [ofK]
            rw [e2] at hown3
            have hn2 : n + 1 ≤ 66 := by have := HR.out.1; omega
            have HR3 := Lib.hid (show n + 1 = 2 * k + (j + 1) ∧ s + (15 - d) = missL (digsL (m.take k) ++ [y, z].take (j + 1)) ∧ _ from And.intro (by have := HR.out.1; omega) <| And.intro (by rw [HT2.out, ← List.append_assoc, missL_snoc, ← HR.out.2.1]) (And.intro hown3 (show Below w.heap.size w w3 from (HR.out.2.2.2.alloc hwz _).grown hgr3 (by simp; omega) (fun i hi => (HR.out.2.2.1.lt i hi).1))))
            clear hown3 hgr3 e2 HR HA
            go_wp2_with fail
            go_roundw
            case rel => exact ⟨j + 1, by omega, by go_num, ao2, n + 1, cp2, s + (15 - d), rfl, by go_num, hn2, by omega, by omega, HR3⟩
            case measure => simp [intOf]; omega
        · obtain rfl : j = 2 := by omega
          have HR3 := Lib.hid (show n = 2 * (k + 1) ∧ s = missL (digsL (m.take (k + 1))) ∧ wr.ownsRow w.heap.size 3 1 (.slice ao n cp) n (ofK .i64 (digsL (m.take (k + 1)))) ∧ Below w.heap.size w wr from by
            have h := HR.out
            rw [HT.out, digsL_snoc, HYZ.out.1, HYZ.out.2]
            exact ⟨by omega, by simpa using h.2⟩)
          have hn2 : n ≤ 64 := by have := HR3.out.1; omega
          clear HR
          go_wp2_with fail
          go_roundw
          case rel => exact ⟨k + 1, by omega, by go_num, ao, n, cp, s, rfl, rfl, hn2, by omega, by omega, HR3⟩
          case measure => simp [intOf]; omega
    · obtain rfl : k = 32 := by omega
      have eM : m.take 32 = m := List.take_of_length_le (by rw [HM.out.1]; exact Nat.le_refl _)
      rw [eM] at HR
      clear eM
      have h1 := and15i (s / 16) (by omega) (by omega)
      have h2 := and15i s (by omega) (by omega)
      have hwz : w.heap.size ≤ wr.heap.size := HR.out.2.2.2.size
      obtain ⟨p, hp⟩ : ∃ p, s / 256 = p := ⟨_, rfl⟩
      obtain ⟨q, hq⟩ : ∃ q, s / 16 % 16 = q := ⟨_, rfl⟩
      obtain ⟨r, hr⟩ : ∃ r, s % 16 = r := ⟨_, rfl⟩
      have HP := Lib.hid (And.intro hp (And.intro hq hr))
      have HA := Lib.hid (HR.out.2.2.1.alloc (.cells #[.int .i64 p, .int .i64 q, .int .i64 r] 3))
      go_wp2_with (at_builtin; refine wpList_append_sl _ rfl (.tmp 34) (.tmp 42) 55 rfl w.heap.size 3 i0 (.int .i64 0) 8 Try.underlying55 hi hz0 hz1 hz2 rfl _ n _ rfl HA.out _ (ofK .i64 [p, q, r]) rfl (by exact sl_new _ _ _ _ _ 3 rfl rfl (by omega)) (one_ofK _ _) 67 ?_ ?_ ?_ ?_ ?_)
      · have := HR.out.1; simp [ofK]; omega
      · unfold maxLen; omega
      · omega
      · (first | (simp; omega) | omega)
      · intro ao2 cp2 w3 hown3 hgr3 _
        have e2 : ofK .i64 (digsL m) ++ ofK .i64 [p, q, r] = ofK .i64 (digitsL m) := by unfold digitsL; rw [← HR.out.2.1, HP.out.1, HP.out.2.1, HP.out.2.2]; simp [ofK]
        rw [e2] at hown3
        have HR3 := Lib.hid (And.intro hown3 (show Below w.heap.size w w3 from (HR.out.2.2.2.alloc hwz _).grown hgr3 (by simp; omega) (fun i hi => (HR.out.2.2.1.lt i hi).1)))
        clear hown3 hgr3 e2
        go_wp2_with fail
        go_ret
        exact ⟨ao2, cp2, rfl, HR3.out.1, HR3.out.2⟩

end Go.Proofs.Ytkbhehnpgnilmaa
