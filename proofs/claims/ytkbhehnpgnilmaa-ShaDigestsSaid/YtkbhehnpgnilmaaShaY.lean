/-
  ShaApart, walked. Conditions: bytes.
-/
import Derived.Test.YtkbhehnpgnilmaaRow
import Derived.Test.YtkbhehnpgnilmaaShaO
namespace Go.Proofs.Ytkbhehnpgnilmaa
open Go Go.RowKit

theorem padL_tail (bs : List Int) : (padL bs).drop ((padL bs).length - 8) = beF (8 * (bs.length : Int)) 8 := by
  have e : padL bs = (bs ++ 128 :: List.replicate ((119 - bs.length % 64) % 64) 0) ++ beF (8 * (bs.length : Int)) 8 := by unfold padL; simp
  rw [e]
  exact List.drop_left' (by rw [List.length_append (bs := beF _ _), beF_length]; omega)

theorem padL_head (bs : List Int) : (padL bs).take bs.length = bs := by unfold padL; exact List.take_left' rfl

theorem padL_inj {xs ys : List Int} (h : padL xs = padL ys) (hx : xs.length ≤ 700) (hy : ys.length ≤ 700) : xs = ys := by
  have h1 := padL_tail xs
  have h2 := padL_tail ys
  rw [h, h2] at h1
  have e1 := beF_8 (8 * (xs.length : Int)) (by omega)
  have e2 := beF_8 (8 * (ys.length : Int)) (by omega)
  rw [← h1, e2] at e1
  have hl : xs.length = ys.length := by omega
  have k1 := padL_head xs
  have k2 := padL_head ys
  rw [h, hl, k2] at k1
  exact k1.symm

theorem padL_free {xs ys : List Int} (hx : xs.length ≤ 700) (hy : ys.length ≤ 700) (hne : xs ≠ ys) :
    decide ((padL ys).length ≤ (padL xs).length ∧ (padL xs).drop ((padL xs).length - (padL ys).length) = padL ys) = false := by
  rw [decide_eq_false_iff_not]
  rintro ⟨hl, hd⟩
  have h1 := padL_tail xs
  have h2 := padL_tail ys
  have l1 := padL_length xs
  have l2 := padL_length ys
  have hd2 : ((padL xs).drop ((padL xs).length - (padL ys).length)).drop ((padL ys).length - 8) = (padL ys).drop ((padL ys).length - 8) := by rw [hd]
  rw [List.drop_drop, show (padL xs).length - (padL ys).length + ((padL ys).length - 8) = (padL xs).length - 8 by omega, h1, h2] at hd2
  have e1 := beF_8 (8 * (xs.length : Int)) (by omega)
  have e2 := beF_8 (8 * (ys.length : Int)) (by omega)
  rw [hd2, e2] at e1
  have hll : xs.length = ys.length := by omega
  have hpl : (padL xs).length - (padL ys).length = 0 := by rw [l1, l2, hll]; omega
  rw [hpl, List.drop_zero] at hd
  exact hne (padL_inj hd hx hy)

set_option maxRecDepth 100000 in
set_option maxHeartbeats 2000000 in
theorem apart_go (v1 v2 : Value) (us bs xs ys : List Int) (nx ny : Nat) (w : World) (s : Bool) (h1 : Sl w v1 (ofK .u8 us)) (h2 : Sl w v2 (ofK .u8 bs)) (ha : AllB us) (hb : AllB bs) (hxs : xs = us.take 700) (hys : ys = bs.take 700) (hnx : nx = xs.length) (hny : ny = ys.length) (hs : decide (xs = ys) = s) :
    Calls Try.prog 8 #[v1, v2] w (TrueP w) := by
  have hax : AllB xs := fun c hc => ha c (by rw [hxs] at hc; exact List.mem_of_mem_take hc)
  have hay : AllB ys := fun c hc => hb c (by rw [hys] at hc; exact List.mem_of_mem_take hc)
  have hlx : xs.length ≤ 700 := by rw [hxs, List.length_take]; omega
  have hly : ys.length ≤ 700 := by rw [hys, List.length_take]; omega
  have H := Lib.hid (And.intro hax (And.intro hay (And.intro hlx (And.intro hly (And.intro hs (And.intro hxs hys))))))
  have HN := Lib.hid (And.intro hnx hny)
  have HV := Lib.hid (And.intro h1 h2)
  obtain ⟨ao1, c1, rfl, -⟩ := h1.nums
  obtain ⟨ao2, c2, rfl, -⟩ := h2.nums
  clear h1 h2 ha hb hxs hys hnx hny hs hax hay hlx hly
  go_enter Try.func8, Try.ntmps8
  go_wp2_with fail
  refine (wakes3_any _).mono ?_
  rintro e w2 ⟨rfl, hbel⟩
  have HW2 := Lib.hid (And.intro (HV.out.1.below hbel (Nat.le_refl _)) (And.intro (HV.out.2.below hbel (Nat.le_refl _)) hbel))
  clear hbel HV
  go_wp2_with fail
  refine (row3_any _ us nx _ HW2.out.1 (by rw [HN.out.1, H.out.2.2.2.2.2.1])).mono ?_
  rintro e w3 ⟨ao3, c3, rfl, hown, hbel⟩
  rw [← H.out.2.2.2.2.2.1] at hown
  have HW3 := Lib.hid (And.intro (Sl.of_owns hown) (And.intro (HW2.out.2.1.below hbel (Nat.le_refl _)) (below_thn HW2.out.2.2 hbel (Nat.le_refl _))))
  clear hbel HW2 hown
  go_wp2_with fail
  refine (row3_any _ bs ny _ HW3.out.2.1 (by rw [HN.out.2, H.out.2.2.2.2.2.2])).mono ?_
  rintro e w4 ⟨ao4, c4, rfl, hown, hbel⟩
  rw [← H.out.2.2.2.2.2.2] at hown
  have HW4 := Lib.hid (And.intro (HW3.out.1.below hbel (Nat.le_refl _)) (And.intro (Sl.of_owns hown) (below_thn HW3.out.2.2 hbel (Nat.le_refl _))))
  clear hbel HW3 hown
  go_wp2_with fail
  refine (pad_any _ xs _ HW4.out.1 (Nat.le_trans H.out.2.2.1 (by omega))).mono ?_
  rintro e w5 ⟨ao5, c5, n5, rfl, hn5, hown, hbel⟩
  have HW5 := Lib.hid (And.intro (HW4.out.1.below hbel (Nat.le_refl _)) (And.intro (HW4.out.2.1.below hbel (Nat.le_refl _)) (And.intro (below_thn HW4.out.2.2 hbel (Nat.le_refl _)) (Sl.of_owns hown))))
  clear hbel HW4 hown hn5
  go_wp2_with fail
  refine (pad_any _ ys _ HW5.out.2.1 (Nat.le_trans H.out.2.2.2.1 (by omega))).mono ?_
  rintro e w6 ⟨ao6, c6, n6, rfl, hn6, hown, hbel⟩
  have HW6 := Lib.hid (And.intro (HW5.out.1.below hbel (Nat.le_refl _)) (And.intro (HW5.out.2.1.below hbel (Nat.le_refl _)) (And.intro (below_thn HW5.out.2.2.1 hbel (Nat.le_refl _)) (And.intro (HW5.out.2.2.2.below hbel (Nat.le_refl _)) (Sl.of_owns hown)))))
  clear hbel HW5 hown hn6
  go_wp2_with fail
  refine (bytesEqual_of _ _ xs ys _ s HW6.out.1 HW6.out.2.1 H.out.1 H.out.2.1 H.out.2.2.2.2.1).mono ?_
  rintro e w7 ⟨rfl, rfl⟩
  cases s
  · have hne : xs ≠ ys := by simpa using H.out.2.2.2.2.1
    have HF1 := Lib.hid (padL_free H.out.2.2.1 H.out.2.2.2.1 hne)
    have HF2 := Lib.hid (padL_free H.out.2.2.2.1 H.out.2.2.1 (Ne.symm hne))
    have HP := Lib.hid (show ∀ zs : List Int, 0 < (padL zs).length from fun zs => by rw [padL_length]; omega)
    have HPL := Lib.hid (show ∀ zs : List Int, zs.length ≤ 700 → (padL zs).length ≤ 140737488351232 from fun zs h => by rw [padL_length]; omega)
    clear hne
    go_wp2_with fail
    refine (suffix_of _ _ (padL xs) (padL ys) _ false HW6.out.2.2.2.1 HW6.out.2.2.2.2 (padL_allB H.out.1) (padL_allB H.out.2.1) (HP.out _) (HPL.out _ H.out.2.2.1) HF1.out).mono ?_
    rintro e w8 ⟨rfl, rfl⟩
    go_wp2_with fail
    refine (suffix_of _ _ (padL ys) (padL xs) _ false HW6.out.2.2.2.2 HW6.out.2.2.2.1 (padL_allB H.out.2.1) (padL_allB H.out.1) (HP.out _) (HPL.out _ H.out.2.2.2.1) HF2.out).mono ?_
    rintro e w9 ⟨rfl, rfl⟩
    go_wp2_with fail
    go_ret
    exact ⟨rfl, HW6.out.2.2.1⟩
  · obtain rfl : xs = ys := by simpa using H.out.2.2.2.2.1
    have heq : ∀ w, (Op.equalIn 10000 23 (.agg (ofK .u8 (sumL xs)).toArray) (.agg (ofK .u8 (sumL xs)).toArray)).run Try.prog w = .ok (decide (sumL xs = sumL xs)) w := fun w => run_equalIn_arrK (P := Try.prog) w .u8 9998 23 5 32 Try.underlying23 Try.underlying5 (fun _ => by rfl) (sumL xs) (sumL xs) (sumL_length H.out.1) (sumL_length H.out.1)
    rw [decide_eq_true rfl] at heq
    go_wp2_with fail
    refine (bytesEqual_of _ _ (padL xs) (padL xs) _ true HW6.out.2.2.2.1 HW6.out.2.2.2.2 (padL_allB H.out.1) (padL_allB H.out.1) (decide_eq_true rfl)).mono ?_
    rintro e w8 ⟨rfl, rfl⟩
    go_wp2_with fail
    refine (sum_any _ xs _ HW6.out.1 (Nat.le_trans H.out.2.2.1 (by omega)) H.out.1).mono ?_
    rintro e w9 ⟨rfl, hbel⟩
    have HW9 := Lib.hid (And.intro (HW6.out.2.1.below hbel (Nat.le_refl _)) (below_thn HW6.out.2.2.1 hbel (Nat.le_refl _)))
    clear hbel
    go_wp2_with fail
    refine (sum_any _ xs _ HW9.out.1 (Nat.le_trans H.out.2.2.1 (by omega)) H.out.1).mono ?_
    rintro e w10 ⟨rfl, hbel⟩
    have HW10 := Lib.hid (below_thn HW9.out.2 hbel (Nat.le_refl _))
    clear hbel
    go_wp2_with fail
    go_ret
    exact ⟨rfl, HW10.out⟩

theorem shaApart_walk (v1 : Value) (us : List Int) (v2 : Value) (bs : List Int) (w : World) (h1 : Sl w v1 (ofK .u8 us)) (ha : AllB us) (_ : us.length ≤ 140737488351232) (h2 : Sl w v2 (ofK .u8 bs)) (hb : AllB bs) (_ : bs.length ≤ 140737488351232) :
    Calls Try.prog 8 #[v1, v2] w (TrueP w) :=
  apart_go v1 v2 us bs _ _ _ _ w _ h1 h2 ha hb rfl rfl rfl rfl rfl

end Go.Proofs.Ytkbhehnpgnilmaa
