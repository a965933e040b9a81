/-
  The reference's Words, walked. Conditions: a block of 64 bytes.
-/
import Derived.Test.YtkbhehnpgnilmaaRefW
import Derived.Test.YtkbhehnpgnilmaaRefV
import Derived.Test.YtkbhehnpgnilmaaRefM
import Derived.Test.YtkbhehnpgnilmaaShaS
namespace Go.Proofs.Ytkbhehnpgnilmaa
open Go Go.RowKit

theorem ofN_set (xs : List Nat) (i x : Nat) : (ofN xs).set i (.int .u32 (x : Int)) = ofN (xs.set i x) := by unfold ofN; rw [List.map_set]

set_option maxRecDepth 100000 in
set_option maxHeartbeats 2000000 in
theorem words_any (v : Value) (bs : List Int) (w : World) (hs : Sl w v (ofK .u8 bs)) (hl : bs.length = 64) (ha : AllB bs) :
    Calls Try.prog 100 #[v] w (fun e w' => e = .returned (.agg (ofN (wordsX bs 64)).toArray) ∧ Below w.heap.size w w') := by
  obtain ⟨ao, c, rfl, b2, b3, b4⟩ := hs.nums
  obtain ⟨g, o, rfl, hg, -⟩ := b4 (by omega)
  rw [hl] at hs b2 ⊢
  have HV := Lib.hid hs
  have H := Lib.hid (And.intro hl ha)
  obtain ⟨Z, hZ⟩ : ∃ Z, Z = List.replicate 64 0 := ⟨_, rfl⟩
  have HZ := Lib.hid hZ
  have HB := Lib.hid (show Blk ((w.alloc (.cells (ofN Z).toArray 46)).alloc (.cells (ofN Z).toArray 46)) w.heap.size 46 (ofN Z) ∧ Blk ((w.alloc (.cells (ofN Z).toArray 46)).alloc (.cells (ofN Z).toArray 46)) (w.heap.size + 1) 46 (ofN Z) ∧
      Below w.heap.size w ((w.alloc (.cells (ofN Z).toArray 46)).alloc (.cells (ofN Z).toArray 46)) from by
    have h1 := Blk.new w (ofN Z) 46
    have h2 := Blk.new (w.alloc (.cells (ofN Z).toArray 46)) (ofN Z) 46
    rw [World.size_alloc] at h2
    exact ⟨h1.alloc _, h2, (((Below.refl _ w).alloc (Nat.le_refl _) _).alloc (by simp) _)⟩)
  rw [HZ.out] at HB
  have HI := Lib.hid (show ∀ xs : List Nat, xs.length = 64 → (Try.prog.info? 46).map (·.size) = some (ofN xs).length from fun xs hx => by rw [ofN_length, hx]; kernel_rfl)
  have HO := Lib.hid (wordsX_zero bs)
  clear hs hl ha b4 hZ hg
  go_enter Try.func100, Try.ntmps100
  go_wp2_with fail
  go_loopw [9] (fun i wr => ∃ k : Nat, k ≤ 64 ∧ i = .int .i64 k ∧ Hid (Blk wr w.heap.size 46 (ofN (List.replicate 64 0))) ∧ Hid (Blk wr (w.heap.size + 1) 46 (ofN (wordsX bs k))) ∧ Hid (Below w.heap.size w wr)) (fun i _ => 64 - (intOf i).toNat)
  case atStart => exact ⟨0, by omega, rfl, Lib.hid HB.out.1, Lib.hid (by rw [HO.out]; exact HB.out.2.1), Lib.hid HB.out.2.2⟩
  case round =>
    clear HB HO
    obtain ⟨k, hk, rfl, HR, HD, HW⟩ := hrel
    by_cases hlt : k < 64
    · have hkl : k < (wordsX bs k).length := by rw [wordsX_length]; exact hlt
      have HSET := Lib.hid (wordsX_set bs k)
      by_cases h16 : k < 16
      · have hk0 : (k : Int) < 16 := by omega
        have hk1 : (0 : Int) ≤ (k : Int) := by omega
        have s0 : IntKind.i64.wrap (4 * (k : Int)) = 4 * (k : Int) := IntWalk.i64_in _ (by omega)
        have s1 : IntKind.i64.wrap (4 * (k : Int) + 4) = 4 * (k : Int) + 4 := IntWalk.i64_in _ (by omega)
        have HX := Lib.hid (And.intro (wX_small bs k h16) (wordAt_lt H.out.2 k))
        have hsl := ((HV.out.below HW.out (Nat.le_refl _)).drop (4 * k) (by rw [length_ofK, H.out.1]; omega))
        rw [Option.map_some, Addr.add_mid] at hsl
        have hs4 := hsl.take 4 (by rw [List.length_drop, length_ofK, H.out.1]; omega)
        rw [drop_ofK, take_ofK] at hs4
        have HS4 := Lib.hid hs4
        have hl4 : ((bs.drop (4 * k)).take 4).length = 4 := by rw [List.length_take, List.length_drop, H.out.1]; omega
        have HL4 := Lib.hid hl4
        have hV := valL_bd _ (cut4 H.out.2 k)
        rw [hl4] at hV
        obtain ⟨q, hq⟩ : ∃ q : Nat, q = wX bs k := ⟨_, rfl⟩
        have HQ := Lib.hid (show valL ((bs.drop (4 * k)).take 4) = (q : Int) by rw [hq, HX.out.1]; unfold wordAt; omega)
        have hq1 : q < 4294967296 := by rw [hq, HX.out.1]; exact HX.out.2
        have hwq : IntKind.u32.wrap (q : Int) = (q : Int) := by rw [IntKind.wrap_u32]; omega
        have HQ2 := Lib.hid hq
        clear hsl hs4 hl4 hV hq
        go_wp2_with fail
        refine (number_any 4 _ _ wr HL4.out.symm (by omega) HS4.out (cut4 H.out.2 k)).mono ?_
        rintro e w2 ⟨rfl, hbel⟩
        rw [HQ.out]
        have HD2 := Lib.hid (HD.out.below hbel HD.out.lt)
        have HR2 := Lib.hid (HR.out.below hbel HR.out.lt)
        have HW2 := Lib.hid (below_thn HW.out hbel (Nat.le_refl _))
        have hcell := cell_ofN HD2.out k hkl
        have hfree := HD2.out.free k
        clear hbel HD HR HW
        go_wp2_with fail
        go_roundw
        case rel => exact ⟨k + 1, by omega, by go_num, Lib.hid (HR2.out.keep (Ch.set _ _ _) (fun h => by have h2 : w.heap.size = w.heap.size + 1 := h; omega)), Lib.hid (by
          have := HD2.out.set k (.int .u32 (q : Int))
          have e : (wordsX bs k).set k q = wordsX bs (k + 1) := by rw [HQ2.out]; exact HSET.out
          rw [ofN_set, e] at this
          exact this), Lib.hid (below_ch HW2.out (Ch.set _ _ _) (Nat.le_refl _) (fun k h => by have h2 : k = w.heap.size + 1 := h; omega))⟩
        case measure => simp [intOf]; omega
      · obtain ⟨x, hx⟩ : ∃ x, x = wX bs (k - 2) := ⟨_, rfl⟩
        obtain ⟨y, hy⟩ : ∃ x, x = wX bs (k - 15) := ⟨_, rfl⟩
        obtain ⟨p, hp⟩ : ∃ x, x = wX bs (k - 7) := ⟨_, rfl⟩
        obtain ⟨r, hr⟩ : ∃ x, x = wX bs (k - 16) := ⟨_, rfl⟩
        have hat : ∀ j, j < k → wr.cell? ⟨w.heap.size + 1, j, none⟩ = some (.int .u32 ((wX bs j : Nat) : Int)) := fun j hj => by
          rw [cell_ofN HD.out j (by rw [wordsX_length]; omega), wordsX_at _ _ _ (by omega), if_pos hj]
        obtain ⟨k2, hk2⟩ : ∃ i, i = k - 2 := ⟨_, rfl⟩
        obtain ⟨k15, hk15⟩ : ∃ i, i = k - 15 := ⟨_, rfl⟩
        obtain ⟨k7, hk7⟩ : ∃ i, i = k - 7 := ⟨_, rfl⟩
        obtain ⟨k16, hk16⟩ : ∃ i, i = k - 16 := ⟨_, rfl⟩
        have hcx := hat k2 (by omega)
        have hcy := hat k15 (by omega)
        have hcp := hat k7 (by omega)
        have hcr := hat k16 (by omega)
        rw [hk2, ← hx] at hcx
        rw [hk15, ← hy] at hcy
        rw [hk7, ← hp] at hcp
        rw [hk16, ← hr] at hcr
        rw [← hk2] at hcx
        rw [← hk15] at hcy
        rw [← hk7] at hcp
        rw [← hk16] at hcr
        have e2 : IntKind.i64.wrap ((k : Int) - 2) = (k2 : Int) := by rw [IntWalk.i64_in _ (by omega)]; omega
        have e15 : IntKind.i64.wrap ((k : Int) - 15) = (k15 : Int) := by rw [IntWalk.i64_in _ (by omega)]; omega
        have e7 : IntKind.i64.wrap ((k : Int) - 7) = (k7 : Int) := by rw [IntWalk.i64_in _ (by omega)]; omega
        have e16 : IntKind.i64.wrap ((k : Int) - 16) = (k16 : Int) := by rw [IntWalk.i64_in _ (by omega)]; omega
        have m2 : (k2 : Int) < 64 := by omega
        have m15 : (k15 : Int) < 64 := by omega
        have m7 : (k7 : Int) < 64 := by omega
        have m16 : (k16 : Int) < 64 := by omega
        have mk0 : (k : Int) < 64 := by omega
        have mk1 : (16 : Int) ≤ (k : Int) := by omega
        have hx1 : x < 4294967296 := by rw [hx]; exact wX_lt H.out.2 _
        have hy1 : y < 4294967296 := by rw [hy]; exact wX_lt H.out.2 _
        obtain ⟨x1, hx1e⟩ : ∃ z, z = rotN x 17 := ⟨_, rfl⟩
        obtain ⟨x2, hx2e⟩ : ∃ z, z = rotN x 19 := ⟨_, rfl⟩
        obtain ⟨x3, hx3e⟩ : ∃ z, z = shrN x 10 := ⟨_, rfl⟩
        obtain ⟨y1, hy1e⟩ : ∃ z, z = rotN y 7 := ⟨_, rfl⟩
        obtain ⟨y2, hy2e⟩ : ∃ z, z = rotN y 18 := ⟨_, rfl⟩
        obtain ⟨y3, hy3e⟩ : ∃ z, z = shrN y 3 := ⟨_, rfl⟩
        have bx1 : x1 < 4294967296 := by rw [hx1e]; exact rotN_lt _ hx1
        have bx2 : x2 < 4294967296 := by rw [hx2e]; exact rotN_lt _ hx1
        have bx3 : x3 < 4294967296 := by rw [hx3e]; exact shrN_lt _ hx1
        have by1 : y1 < 4294967296 := by rw [hy1e]; exact rotN_lt _ hy1
        have by2 : y2 < 4294967296 := by rw [hy2e]; exact rotN_lt _ hy1
        have by3 : y3 < 4294967296 := by rw [hy3e]; exact shrN_lt _ hy1
        obtain ⟨x12, hx12⟩ : ∃ z, z = x1 ^^^ x2 := ⟨_, rfl⟩
        obtain ⟨xm, hxm⟩ : ∃ z, z = x12 ^^^ x3 := ⟨_, rfl⟩
        obtain ⟨y12, hy12⟩ : ∃ z, z = y1 ^^^ y2 := ⟨_, rfl⟩
        obtain ⟨ym, hym⟩ : ∃ z, z = y12 ^^^ y3 := ⟨_, rfl⟩
        have f1 : bits BinOp.xor IntKind.u32 (x1 : Int) (x2 : Int) = (x12 : Int) := by rw [bits_xor32 _ _ bx1 bx2, hx12]
        have f2 : bits BinOp.xor IntKind.u32 (x12 : Int) (x3 : Int) = (xm : Int) := by rw [bits_xor32 _ _ (by rw [hx12]; exact xor_lt32 bx1 bx2) bx3, hxm]
        have f3 : bits BinOp.xor IntKind.u32 (y1 : Int) (y2 : Int) = (y12 : Int) := by rw [bits_xor32 _ _ by1 by2, hy12]
        have f4 : bits BinOp.xor IntKind.u32 (y12 : Int) (y3 : Int) = (ym : Int) := by rw [bits_xor32 _ _ (by rw [hy12]; exact xor_lt32 by1 by2) by3, hym]
        obtain ⟨s1, hs1⟩ : ∃ z, z = add32 xm p := ⟨_, rfl⟩
        obtain ⟨s2, hs2⟩ : ∃ z, z = add32 s1 ym := ⟨_, rfl⟩
        obtain ⟨s3, hs3⟩ : ∃ z, z = add32 s2 r := ⟨_, rfl⟩
        have g1 : IntKind.u32.wrap ((xm : Int) + (p : Int)) = (s1 : Int) := by rw [u32_add, hs1]
        have g2 : IntKind.u32.wrap ((s1 : Int) + (ym : Int)) = (s2 : Int) := by rw [u32_add, hs2]
        have g3 : IntKind.u32.wrap ((s2 : Int) + (r : Int)) = (s3 : Int) := by rw [u32_add, hs3]
        have HQ := Lib.hid (show s3 = wX bs k by
          rw [wX_great bs k (by omega), ← hx, ← hy, ← hp, ← hr, hs3, hs2, hs1, hxm, hym, hx12, hy12, hx1e, hx2e, hx3e, hy1e, hy2e, hy3e]
          rfl)
        have HE := Lib.hid (And.intro hx1 (And.intro hy1 (And.intro hx1e.symm (And.intro hx2e.symm (And.intro hx3e.symm (And.intro hy1e.symm (And.intro hy2e.symm hy3e.symm)))))))
        clear hx hy hp hr hat hk2 hk15 hk7 hk16 hx1 hy1 hx1e hx2e hx3e hy1e hy2e hy3e bx1 bx2 bx3 by1 by2 by3 hx12 hxm hy12 hym hs1 hs2 hs3
        go_wp2_with fail
        go_quiet (fail)
        go_wp2_with fail
        refine (rturn_any x 17 x1 _ HE.out.1 (by omega) HE.out.2.2.1).mono ?_
        rintro e w2 ⟨rfl, rfl⟩
        go_wp2_with fail
        refine (rturn_any x 19 x2 _ HE.out.1 (by omega) HE.out.2.2.2.1).mono ?_
        rintro e w2 ⟨rfl, rfl⟩
        go_wp2_with fail
        refine (rpush_any x 10 x3 _ HE.out.1 (by omega) HE.out.2.2.2.2.1).mono ?_
        rintro e w2 ⟨rfl, rfl⟩
        go_wp2_with fail
        refine (rturn_any y 7 y1 _ HE.out.2.1 (by omega) HE.out.2.2.2.2.2.1).mono ?_
        rintro e w2 ⟨rfl, rfl⟩
        go_wp2_with fail
        refine (rturn_any y 18 y2 _ HE.out.2.1 (by omega) HE.out.2.2.2.2.2.2.1).mono ?_
        rintro e w2 ⟨rfl, rfl⟩
        go_wp2_with fail
        refine (rpush_any y 3 y3 _ HE.out.2.1 (by omega) HE.out.2.2.2.2.2.2.2).mono ?_
        rintro e w2 ⟨rfl, hw2⟩
        have hsm : Sm wr w2 := by rw [hw2]; exact (Sm.refl _).drewN _
        have HD2 := Lib.hid (hsm.blk HD.out)
        have HR2 := Lib.hid (hsm.blk HR.out)
        have HW2 := Lib.hid (HW.out.trans (hsm.below _))
        have hcp2 := hsm.cell ⟨w.heap.size + 1, k7, none⟩
        have hcr2 := hsm.cell ⟨w.heap.size + 1, k16, none⟩
        rw [hcp] at hcp2
        rw [hcr] at hcr2
        have hgp := fun q => cell_grew hcp2 q
        have hgr := fun q => cell_grew hcr2 q
        clear hw2 hsm hcp hcr hcx hcy HD HR HW HE hcp2 hcr2 f1 f2 f3 e2 e15
        go_wp2_with fail
        refine wp_region_grew_tail 15 (by kernel_rfl) (by kernel_rfl) ?_
        simp only [List.take_succ_cons, List.take_zero, List.drop_succ_cons, List.drop_zero]
        repeat (first | go_big_quiet_skip | (go_big_quiet_want; go_big_quiet_op; go_big_quiet_on))
        refine wpQuiet_nil ?_
        intro w5 hw5
        obtain ⟨z, rfl⟩ := hw5
        have hbel := below_grew w2 z
        have HD5 := Lib.hid (HD2.out.below hbel HD2.out.lt)
        have HR5 := Lib.hid (HR2.out.below hbel HR2.out.lt)
        have HW5 := Lib.hid (below_thn HW2.out hbel (Nat.le_refl _))
        generalize grew w2 z = w5 at HD5 HR5 HW5 ⊢
        have hcell := cell_ofN HD5.out k hkl
        have hfree := HD5.out.free k
        clear hbel HD2 HR2 HW2 hgp hgr
        go_wp2_with fail
        go_roundw
        case rel => exact ⟨k + 1, by omega, by go_num, Lib.hid (HR5.out.keep (Ch.set _ _ _) (fun h => by have h2 : w.heap.size = w.heap.size + 1 := h; omega)), Lib.hid (by
          have := HD5.out.set k (.int .u32 (s3 : Int))
          have e : (wordsX bs k).set k s3 = wordsX bs (k + 1) := by rw [HQ.out]; exact HSET.out
          rw [ofN_set, e] at this
          exact this), Lib.hid (below_ch HW5.out (Ch.set _ _ _) (Nat.le_refl _) (fun k h => by have h2 : k = w.heap.size + 1 := h; omega))⟩
        case measure => simp [intOf]; omega
    · obtain rfl : k = 64 := by omega
      obtain ⟨F, hF⟩ : ∃ F, F = wordsX bs 64 := ⟨_, rfl⟩
      have hFl : F.length = 64 := by rw [hF, wordsX_length]
      have HI1 := Lib.hid (HI.out F hFl)
      have HL1 := Lib.hid (show (ofN F).length = (ofN (List.replicate 64 0)).length by rw [ofN_length, ofN_length, hFl, List.length_replicate])
      have HF := Lib.hid hF
      rw [← hF] at HD
      clear hF hFl
      go_wp2_with (first
        | (refine wpList_load_blk _ rfl 46 (.tmp 3) rfl (w.heap.size + 1) 46 (ofN F) HD.out rfl _ Try.underlying46 rfl HI1.out ?_)
        | (refine wpList_store_blk _ rfl 46 (.tmp 2) (.tmp 65) rfl w.heap.size 46 (ofN (List.replicate 64 0)) (ofN F) HR.out rfl rfl HL1.out HI1.out (one_ofN _) ?_; intro w7 hb7 hch7 hsz7))
      have HW7 := below_ch HW.out hch7 (Nat.le_refl _) (fun k h => by have h2 : k = w.heap.size := h; omega)
      refine bodyPost_ret (v := .agg (ofN F).toArray) ?_ rfl ⟨by rw [HF.out], HW7⟩
      exact results_blk Try.results100 _ _ w.heap.size _ _ rfl hb7 _ Try.underlying46 rfl HI1.out

end Go.Proofs.Ytkbhehnpgnilmaa
