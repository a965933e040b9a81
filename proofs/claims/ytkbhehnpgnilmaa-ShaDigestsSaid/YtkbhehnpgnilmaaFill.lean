/-
  The reference's Fill, walked. Conditions: at most 700 bytes.
-/
import Derived.Test.YtkbhehnpgnilmaaRow
import Derived.Test.YtkbhehnpgnilmaaRefo
import Derived.Test.YtkbhehnpgnilmaaHigh
import Derived.Test.YtkbhehnpgnilmaaShaW
namespace Go.Proofs.Ytkbhehnpgnilmaa
open Go Go.RowKit

set_option maxRecDepth 100000 in
set_option maxHeartbeats 2000000 in
theorem rfill_any (v : Value) (bv : List Int) (n : Nat) (w : World) (hs : Sl w v (ofK .u8 bv)) (hl : bv.length ≤ 700) (hn : n = (padL bv).length) :
    Calls Try.prog 36 #[v] w (NewRow w (padL bv) n) := by
  obtain ⟨i0, hi, hz0, hz1, hz2⟩ := info_parts Try.info5
  obtain ⟨ao, c, rfl, a2, a3, -⟩ := hs.nums
  obtain ⟨l, hll⟩ : ∃ l, l = bv.length := ⟨_, rfl⟩
  obtain ⟨m, hm⟩ : ∃ m, m = (119 - l % 64) % 64 := ⟨_, rfl⟩
  have HN := Lib.hid (And.intro hn (And.intro hll hm))
  have hnv : n = l + 1 + m + 8 := by rw [hn, padL_length, hm, hll]; omega
  have HNV := Lib.hid hnv
  rw [← hll] at a2 hl ⊢
  have HO0 := Lib.hid ((Blk.new w [] 5).owns (base := w.heap.size) (Nat.le_refl _) (by simp))
  have hb1 := (Below.refl w.heap.size w).alloc (Nat.le_refl _) (.cells #[] 5)
  have hs0 := hs.below hb1 (Nat.le_refl _)
  rw [← hll] at hs0
  have HS0 := Lib.hid hs0
  have hm64 : m ≤ 63 := by omega
  clear hs0 hs hb1 hn hnv hll hm
  go_enter Try.func36, Try.ntmps36
  go_wp2_with (at_builtin; refine wpList_append_sl _ rfl (.tmp 4) (.tmp 5) 33 rfl w.heap.size 5 i0 (.int .u8 0) 1 Try.underlying33 hi hz0 hz1 hz2 rfl (.slice (some ⟨w.heap.size, 0, none⟩) 0 0) 0 [] rfl HO0.out _ _ rfl HS0.out (one_ofK _ _) l ?_ ?_ ?_ ?_ ?_)
  · rw [length_ofK, Nat.zero_add, HN.out.2.1]
  · unfold maxLen; omega
  · omega
  · simp
  · intro ao1 c1 w2 hown1 hgr1 _
    have hb2 : Below w.heap.size w w2 := ((Below.refl w.heap.size w).alloc (Nat.le_refl _) (.cells #[] 5)).grown hgr1 (by simp) (fun k hk => by cases hk; exact Nat.le_refl _)
    have hsz2 := hb2.size
    have HO1 := Lib.hid hown1
    have HB1 := Lib.hid hb2
    have HA := Lib.hid (hown1.alloc (.cells #[.int .u8 128] 5))
    clear hown1 hgr1 hb2 HO0 HS0
    go_wp2_with (at_builtin; refine wpList_append_sl _ rfl (.tmp 7) (.tmp 8) 33 rfl w.heap.size 5 i0 (.int .u8 0) 1 Try.underlying33 hi hz0 hz1 hz2 rfl _ l _ rfl HA.out _ (ofK .u8 [128]) rfl (by exact sl_new _ _ _ _ _ 1 rfl rfl (by omega)) (one_ofK _ _) (l + 1) ?_ ?_ ?_ ?_ ?_)
    · simp [ofK]
    · unfold maxLen; omega
    · omega
    · simp; omega
    · intro ao2 c2 w3 hown2 hgr2 _
      have hb3 := ((HB1.out.alloc hsz2 (.cells #[.int .u8 128] 5)).grown hgr2 (by simp; omega) (fun k hk => (HO1.out.lt k hk).1))
      have e1 : ofK .u8 bv ++ ofK .u8 [128] = ofK .u8 (bv ++ 128 :: List.replicate 0 0) := by simp [ofK]
      rw [e1] at hown2
      have HO2 := Lib.hid hown2
      have HB2 := Lib.hid hb3
      clear hown2 hgr2 hb3 e1 HO1 HB1 HA hsz2
      go_wp2_with fail
      go_loopw [3] (fun v wr => ∃ (k d : Nat) (vo : Option Addr) (vc : Nat), k ≤ m ∧ d = l + 1 + k ∧ v = .slice vo d vc ∧ Hid (wr.ownsRow w.heap.size 5 1 (.slice vo d vc) d (ofK .u8 (bv ++ 128 :: List.replicate k 0))) ∧ Hid (Below w.heap.size w wr)) (fun v _ => match v with | .slice _ d _ => 1000 - d | _ => 0)
      case atStart => exact ⟨0, l + 1, _, _, by omega, rfl, rfl, HO2, HB2⟩
      case round =>
        clear HO2 HB2
        obtain ⟨k, d, vo, vc, hkm, hd, rfl, HO, HB⟩ := hrel
        have hsz := HB.out.size
        have hw8 : IntKind.i64.wrap ((d : Int) + 8) = (d : Int) + 8 := IntWalk.i64_in _ (by omega)
        obtain ⟨z, hz⟩ : ∃ z, z = (d + 8) % 64 := ⟨_, rfl⟩
        have htm : Int.tmod ((d : Int) + 8) 64 = (z : Int) := by rw [Int.tmod_eq_emod_of_nonneg (by omega)]; omega
        have htm2 : ((d : Int) + 8) % 64 = (z : Int) := by omega
        have HD := Lib.hid hd
        have HMM := Lib.hid HN.out.2.2
        by_cases hk : k = m
        · have hz0' : z = 0 := by have := HMM.out; omega
          subst hk
          have hb : ((z : Int) != 0) = false := by simp [hz0']
          have hwl : IntKind.u64.wrap (l : Int) = (l : Int) := by rw [IntKind.wrap_u64]; omega
          have hw8l : IntKind.u64.wrap (8 * (l : Int)) = 8 * (l : Int) := by rw [IntKind.wrap_u64]; omega
          have hl8 : 0 ≤ 8 * (l : Int) ∧ 8 * (l : Int) ≤ 18446744073709551615 := by omega
          have HL8 := Lib.hid hl8
          have hd2 : d ≤ 800 := by omega
          have HSl := Lib.hid (Sl.of_owns HO.out)
          clear hz hd hl8 hz0' HO
          go_wp2_with fail
          refine (high_any (8 * (l : Int)) 8 _ HL8.out (by omega)).mono ?_
          rintro e w6 ⟨ao6, c6, rfl, hown6, hbel6⟩
          have HS6 := Lib.hid (And.intro (HSl.out.below hbel6 (Nat.le_refl _)) (And.intro (Sl.of_owns hown6) (below_thn HB.out hbel6 (Nat.le_refl _))))
          clear hown6 hbel6 HSl HB
          go_wp2_with fail
          refine (both_any _ _ _ _ n w6 HS6.out.1 HS6.out.2.1 (by rw [HNV.out, beF_length, List.length_append, List.length_cons, List.length_replicate, ← HN.out.2.1]; omega) (by have := HNV.out; omega)).mono ?_
          rintro e w7 ⟨ao7, c7, rfl, hown7, hbel7⟩
          have e3 : (bv ++ 128 :: List.replicate k 0) ++ beF (8 * (l : Int)) 8 = padL bv := by
            unfold padL; rw [← HN.out.2.1, ← HN.out.2.2]; simp
          rw [e3] at hown7
          have HF := Lib.hid (And.intro (ownsRow_base hown7 HS6.out.2.2.size) (below_thn HS6.out.2.2 hbel7 (Nat.le_refl _)))
          clear hown7 hbel7 e3
          go_wp2_with fail
          go_ret
          exact ⟨ao7, c7, rfl, HF.out.1, HF.out.2⟩
        · have hz1' : ((z : Int) == 0) = false := by have := HMM.out; simp; omega
          have hz2' : ((z : Int) != 0) = true := by have := HMM.out; simp; omega
          have HA := Lib.hid (HO.out.alloc (.cells #[.int .u8 0] 5))
          have hd700 : d ≤ 800 := by omega
          clear hz hd
          go_wp2_with (at_builtin; refine wpList_append_sl _ rfl (.tmp 15) (.tmp 16) 33 rfl w.heap.size 5 i0 (.int .u8 0) 1 Try.underlying33 hi hz0 hz1 hz2 rfl _ d _ rfl HA.out _ (ofK .u8 [0]) rfl (by exact sl_new _ _ _ _ _ 1 rfl rfl (by omega)) (one_ofK _ _) (d + 1) ?_ ?_ ?_ ?_ ?_)
          · simp [ofK]
          · unfold maxLen; omega
          · omega
          · simp; omega
          · intro ao5 c5 w5 hown5 hgr5 _
            have e2 : ofK .u8 (bv ++ 128 :: List.replicate k 0) ++ ofK .u8 [0] = ofK .u8 (bv ++ 128 :: List.replicate (k + 1) 0) := by
              rw [List.replicate_succ']; simp [ofK]
            rw [e2] at hown5
            have HB5 := Lib.hid ((HB.out.alloc hsz (.cells #[.int .u8 0] 5)).grown hgr5 (by simp; omega) (fun i hi => (HO.out.lt i hi).1))
            have HO5 := Lib.hid hown5
            clear hown5 hgr5 e2 HB HO HA
            go_wp2_with fail
            go_roundw
            case rel => exact ⟨k + 1, d + 1, _, _, by omega, by have := HD.out; omega, rfl, HO5, HB5⟩
            case measure => show 1000 - (d + 1) < 1000 - d; omega

end Go.Proofs.Ytkbhehnpgnilmaa
