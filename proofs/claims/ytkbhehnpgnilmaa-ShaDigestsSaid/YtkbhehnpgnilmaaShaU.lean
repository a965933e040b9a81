/-
  Package sha: Parse, walked. Conditions: a string that came in.
-/
import Derived.Test.YtkbhehnpgnilmaaKit
import Derived.Test.YtkbhehnpgnilmaaHex
namespace Go.Proofs.Ytkbhehnpgnilmaa
open Go Go.RowKit

def ParseP (w : World) (id : List Int) (e : Int) (en : Ending) (w' : World) : Prop := en = .returned (.tuple #[.agg (ofK .u8 id).toArray, .int .i64 e]) ∧ Below w.heap.size w w'

set_option maxRecDepth 100000 in
set_option maxHeartbeats 1000000 in
theorem parse_64 (s : ByteArray) (w : World) (hs : s.size = 64) : Calls Try.prog 25 #[.string s] w (ParseP w (parseF (ints s)).1 (parseF (ints s)).2) := by
  have HS := Lib.hid hs
  have hs1 : s.size ≤ 64 := by omega
  have hs2 : 64 ≤ s.size := by omega
  have hg : ((s.size : Int) == 64) = true := by rw [hs]; rfl
  obtain ⟨Z, hZ⟩ : ∃ Z, Z = List.replicate 32 (0 : Int) := ⟨_, rfl⟩
  have HZ := Lib.hid hZ
  clear hs hZ
  go_enter Try.func25, Try.ntmps25
  go_wp2_with fail
  go_step3
  go_wp2_with fail
  go_step3
  have HB := Lib.hid (show Blk (((w.alloc (.cells (ofK .u8 Z).toArray 23)).alloc (.cells (ofK .u8 Z).toArray 23)).iter s 0) w.heap.size 23 (ofK .u8 Z) ∧ Blk (((w.alloc (.cells (ofK .u8 Z).toArray 23)).alloc (.cells (ofK .u8 Z).toArray 23)).iter s 0) (w.heap.size + 1) 23 (ofK .u8 Z) ∧
      IterS (((w.alloc (.cells (ofK .u8 Z).toArray 23)).alloc (.cells (ofK .u8 Z).toArray 23)).iter s 0) (w.heap.size + 2) s 0 ∧ Below w.heap.size w (((w.alloc (.cells (ofK .u8 Z).toArray 23)).alloc (.cells (ofK .u8 Z).toArray 23)).iter s 0) from by
    have h1 := Blk.new w (ofK .u8 Z) 23
    have h2 := Blk.new (w.alloc (.cells (ofK .u8 Z).toArray 23)) (ofK .u8 Z) 23
    rw [World.size_alloc] at h2
    refine ⟨(h1.alloc _).alloc _, h2.alloc _, ?_, ((((Below.refl _ w).alloc (Nat.le_refl _) _).alloc (by simp) _).alloc (by simp; omega) _)⟩
    have h3 := World.iter_heap ((w.alloc (.cells (ofK .u8 Z).toArray 23)).alloc (.cells (ofK .u8 Z).toArray 23)) s 0
    rw [World.size_alloc, World.size_alloc] at h3
    exact h3)
  rw [HZ.out] at HB
  have HI0 := Lib.hid (idTo_zero (ints s))
  go_wp2_with fail
  go_loopg [5] 64 (fun q g wr => ∃ k : Nat, k + q = 64 ∧ g = .bool true ∧ Hid (∀ j (h : j < s.size), j < k → isHex ((s[j]'h).toNat : Int) = true) ∧ Hid (Blk wr w.heap.size 23 (ofK .u8 (List.replicate 32 0))) ∧ Hid (Blk wr (w.heap.size + 1) 23 (ofK .u8 (idTo (ints s) k))) ∧ Hid (IterS wr (w.heap.size + 2) s k) ∧ Hid (Below w.heap.size w wr))
  case atStart => exact ⟨0, rfl, rfl, Lib.hid (fun j h h0 => absurd h0 (Nat.not_lt_zero j)), Lib.hid HB.out.1, Lib.hid (by rw [HI0.out]; exact HB.out.2.1), Lib.hid HB.out.2.2.1, Lib.hid HB.out.2.2.2⟩
  case round =>
    clear HB HI0
    obtain ⟨k, hkq, rfl, HH, HR, HD, HI, HW⟩ := hrel
    rcases gk with _ | q
    · obtain rfl : k = 64 := by omega
      have hnx := fun ty => run_next_over (P := Try.prog) HI.out ty (by omega)
      obtain ⟨out, hout⟩ : ∃ out, out = idTo (ints s) 64 := ⟨_, rfl⟩
      rw [← hout] at HD
      have HS2 := Lib.hid (show (Try.prog.info? 23).map (·.size) = some (ofK .u8 out).length by rw [length_ofK, hout, idTo_length]; kernel_rfl)
      have HS3 := Lib.hid (show (ofK .u8 out).length = (ofK .u8 (List.replicate 32 0)).length by rw [length_ofK, length_ofK, hout, idTo_length, List.length_replicate])
      have HF := Lib.hid (show parseF (ints s) = (out, 0) by
        unfold parseF
        rw [if_pos ⟨by rw [ints_length, HS.out], by
          rw [List.all_eq_true]
          intro c hc
          obtain ⟨j, hj, rfl⟩ := List.getElem_of_mem hc
          have hj2 : j < s.size := by rwa [ints_length] at hj
          rw [ints_get s j hj2]
          exact HH.out j hj2 (by omega)⟩, hout])
      clear hout
      go_wp2_with (first
        | (refine wpList_load_blk _ rfl 23 (.tmp 4) rfl (w.heap.size + 1) 23 (ofK .u8 out) HD.out rfl _ Try.underlying23 rfl HS2.out ?_)
        | (refine wpList_store_blk _ rfl 23 (.tmp 2) (.tmp 56) rfl w.heap.size 23 (ofK .u8 (List.replicate 32 0)) (ofK .u8 out) HR.out rfl rfl HS3.out HS2.out (one_ofK _ _) ?_; intro w7 hb7 hch7 hsz7))
      have HW7 := below_ch HW.out hch7 (Nat.le_refl _) (fun k h => by have h2 : k = w.heap.size := h; omega)
      refine bodyPost_ret (v := .tuple #[.agg (ofK .u8 out).toArray, .int .i64 0]) ?_ rfl ⟨by rw [HF.out], HW7⟩
      exact results_blk_tmp Try.results25 _ _ w.heap.size _ _ rfl hb7 _ Try.underlying23 rfl HS2.out _ rfl
    · have hk : k < s.size := by omega
      have hk64 : k < 64 := by omega
      obtain ⟨b, hb⟩ : ∃ b : Nat, (s[k]'hk).toNat = b := ⟨_, rfl⟩
      have hdec := decode_hex s k hk
      rw [hb] at hdec
      obtain ⟨w2, hrun, hit2, hch2, hsz2⟩ := run_next_str (P := Try.prog) HI.out 0 hk
      obtain ⟨k2, hk2⟩ : ∃ k2, k2 = k / 2 := ⟨_, rfl⟩
      have hkd : Int.tdiv (k : Int) 2 = (k2 : Int) := by rw [hk2]; exact (Int.ofNat_tdiv k 2).symm
      have hkd2 : (k : Int) / 2 = (k2 : Int) := by omega
      have hk2l : k2 < 32 := by omega
      obtain ⟨x, hx⟩ : ∃ x, x = oldB (ints s) k := ⟨_, rfl⟩
      have HD2 := Lib.hid (HD.out.keep hch2 (fun h => by have h2 : w.heap.size + 1 = w.heap.size + 2 := h; omega))
      have HR2 := Lib.hid (HR.out.keep hch2 (fun h => by have h2 : w.heap.size = w.heap.size + 2 := h; omega))
      have HW2 := Lib.hid (below_ch HW.out hch2 (Nat.le_refl _) (fun j h => by have h2 : j = w.heap.size + 2 := h; omega))
      have HI2 := Lib.hid hit2
      have hcx : w2.cell? ⟨w.heap.size + 1, k2, none⟩ = some (.int .u8 x) := by
        rw [HD2.out.cell, get_ofK _ _ _ (by rw [idTo_length]; exact hk2l)]
        simp only [hk2]
        rw [idTo_old _ _ hk64, hx]
      have hfx := HD2.out.free k2
      by_cases hh : isHex (b : Int) = true
      · have hd1 := (hdec.1 hh).1
        have hd2 := (hdec.1 hh).2
        rw [hd1] at hrun
        rw [hd2] at HI2
        have HX := Lib.hid (And.intro hk2 (And.intro hx (And.intro hb hh)))
        have HO := Lib.hid (show 0 ≤ x ∧ x < 16 by
          rw [hx]
          exact oldB_bd _ _ (fun j hj => by rw [ints_getD s j (by omega)]; exact HH.out j (by omega) hj))
        have HH' := Lib.hid (show ∀ j (h : j < s.size), j < k + 1 → isHex ((s[j]'h).toNat : Int) = true from fun j h hj => by
          by_cases he : j = k
          · subst he; rw [hb]; exact hh
          · exact HH.out j h (by omega))
        have HT := Lib.hid (show ∀ w', Blk w' (w.heap.size + 1) 23 (ofK .u8 (idTo (ints s) k)) → Blk (w'.setCell ⟨w.heap.size + 1, k2, none⟩ (.int .u8 (nextB (ints s) k))) (w.heap.size + 1) 23 (ofK .u8 (idTo (ints s) (k + 1))) from fun w' h => by
          have h1 := h.set k2 (.int .u8 (nextB (ints s) k))
          have e : (ofK .u8 (idTo (ints s) k)).set k2 (.int .u8 (nextB (ints s) k)) = ofK .u8 (idTo (ints s) (k + 1)) := by rw [← idTo_set, hk2]; simp [ofK, List.map_set]
          rwa [e] at h1)
        clear hdec hd1 hd2 hit2 hch2 hsz2 hk2 hx hb HI HD HR HW
        by_cases h57 : (b : Int) ≤ 57
        · have h48 : 48 ≤ (b : Int) := by
            simp only [isHex, Bool.or_eq_true, Bool.and_eq_true, decide_eq_true_eq] at hh; omega
          have HV := Lib.hid (show bits BinOp.or IntKind.u8 (x * 16 % 256) ((b : Int) - 48) = nextB (ints s) k by
            have e : hexD (b : Int) = (b : Int) - 48 := by unfold hexD; rw [if_pos h57]
            have hb2 : (ints s).getD k 0 = (b : Int) := by rw [ints_getD s k hk, HX.out.2.2.1]
            rw [← e, or_byte2 x _ HO.out (hexD_bd hh), nextB_eq, ← HX.out.2.1, hb2])
          clear hh
          go_wp2_with fail
          rw [HV.out]
          go_roundg q
          case measure => omega
          case rel => exact ⟨k + 1, by omega, rfl, HH', Lib.hid (HR2.out.keep (Ch.set w2 ⟨w.heap.size + 1, k2, none⟩ _) (fun h => by have h2 : w.heap.size = w.heap.size + 1 := h; omega)), Lib.hid (HT.out w2 HD2.out), Lib.hid (HI2.out.keep (Ch.set w2 ⟨w.heap.size + 1, k2, none⟩ _) (fun h => by have h2 : w.heap.size + 2 = w.heap.size + 1 := h; omega)), Lib.hid (below_ch HW2.out (Ch.set w2 ⟨w.heap.size + 1, k2, none⟩ _) (Nat.le_refl _) (fun j h => by have h2 : j = w.heap.size + 1 := h; omega))⟩
        · have h97 : 97 ≤ (b : Int) ∧ (b : Int) ≤ 102 := by
            simp only [isHex, Bool.or_eq_true, Bool.and_eq_true, decide_eq_true_eq] at hh; omega
          have h98 := h97.1
          have h99 := h97.2
          have h48 : 48 ≤ (b : Int) := by omega
          have hd57 : decide ((b : Int) ≤ 57) = false := by simpa using h57
          have HV := Lib.hid (show bits BinOp.or IntKind.u8 (x * 16 % 256) ((b : Int) - 97 + 10) = nextB (ints s) k by
            have e : hexD (b : Int) = (b : Int) - 97 + 10 := by unfold hexD; rw [if_neg h57]; omega
            have hb2 : (ints s).getD k 0 = (b : Int) := by rw [ints_getD s k hk, HX.out.2.2.1]
            rw [← e, or_byte2 x _ HO.out (hexD_bd hh), nextB_eq, ← HX.out.2.1, hb2])
          clear hh h97
          go_wp2_with fail
          rw [HV.out]
          go_roundg q
          case measure => omega
          case rel => exact ⟨k + 1, by omega, rfl, HH', Lib.hid (HR2.out.keep (Ch.set w2 ⟨w.heap.size + 1, k2, none⟩ _) (fun h => by have h2 : w.heap.size = w.heap.size + 1 := h; omega)), Lib.hid (HT.out w2 HD2.out), Lib.hid (HI2.out.keep (Ch.set w2 ⟨w.heap.size + 1, k2, none⟩ _) (fun h => by have h2 : w.heap.size + 2 = w.heap.size + 1 := h; omega)), Lib.hid (below_ch HW2.out (Ch.set w2 ⟨w.heap.size + 1, k2, none⟩ _) (Nat.le_refl _) (fun j h => by have h2 : j = w.heap.size + 1 := h; omega))⟩
      · have hc := hdec.2 (by simpa using hh)
        obtain ⟨c, hcv⟩ : ∃ c, (Utf8.decode s k).1 = c := ⟨_, rfl⟩
        rw [hcv] at hrun hc
        have HF := Lib.hid (show parseF (ints s) = (List.replicate 32 0, 130) by
          unfold parseF
          rw [if_neg]
          rintro ⟨_, h2⟩
          rw [List.all_eq_true] at h2
          have := h2 _ (List.getElem_mem (show k < (ints s).length by rw [ints_length]; exact hk))
          rw [ints_get s k hk, hb] at this
          exact hh this)
        have HS2 := Lib.hid (show (Try.prog.info? 23).map (·.size) = some (ofK .u8 (List.replicate 32 0)).length by rw [length_ofK, List.length_replicate]; kernel_rfl)
        have hc3 : (c : Int) < 48 ∨ (57 < (c : Int) ∧ (c : Int) < 97) ∨ 102 < (c : Int) := by
          by_cases h1 : (c : Int) < 48
          · exact .inl h1
          · by_cases h2 : 102 < (c : Int)
            · exact .inr (.inr h2)
            · refine .inr (.inl ?_)
              by_cases h3 : (c : Int) ≤ 57
              · have : isHex (c : Int) = true := by simp only [isHex, Bool.or_eq_true, Bool.and_eq_true, decide_eq_true_eq]; omega
                rw [this] at hc; cases hc
              · by_cases h4 : 97 ≤ (c : Int)
                · have : isHex (c : Int) = true := by simp only [isHex, Bool.or_eq_true, Bool.and_eq_true, decide_eq_true_eq]; omega
                  rw [this] at hc; cases hc
                · omega
        clear hdec hit2 hch2 hsz2 hk2 hx hb HI HD HR HW hc hcv hh HD2 HI2 hcx hfx
        rcases hc3 with h1 | ⟨h1, h2⟩ | h1
        · have d1 : decide (48 ≤ (c : Int)) = false := by simpa using h1
          have d2 : decide (97 ≤ (c : Int)) = false := by simp; omega
          go_wp2_with (refine wpList_store_blk _ rfl 23 (.tmp 2) (.tmp 55) rfl w.heap.size 23 (ofK .u8 (List.replicate 32 0)) (ofK .u8 (List.replicate 32 0)) HR2.out rfl rfl rfl HS2.out (one_ofK _ _) ?_; intro w7 hb7 hch7 hsz7)
          have HW7 := below_ch HW2.out hch7 (Nat.le_refl _) (fun k h => by have h2 : k = w.heap.size := h; omega)
          refine bodyPost_ret (v := .tuple #[.agg (ofK .u8 (List.replicate 32 0)).toArray, .int .i64 130]) ?_ rfl ⟨by rw [HF.out], HW7⟩
          exact results_blk_tmp Try.results25 _ _ w.heap.size _ _ rfl hb7 _ Try.underlying23 rfl HS2.out _ rfl
        · have d0 : 48 ≤ (c : Int) := by omega
          have d1 : decide ((c : Int) ≤ 57) = false := by simpa using h1
          have d2 : decide (97 ≤ (c : Int)) = false := by simp; omega
          go_wp2_with (refine wpList_store_blk _ rfl 23 (.tmp 2) (.tmp 55) rfl w.heap.size 23 (ofK .u8 (List.replicate 32 0)) (ofK .u8 (List.replicate 32 0)) HR2.out rfl rfl rfl HS2.out (one_ofK _ _) ?_; intro w7 hb7 hch7 hsz7)
          have HW7 := below_ch HW2.out hch7 (Nat.le_refl _) (fun k h => by have h2 : k = w.heap.size := h; omega)
          refine bodyPost_ret (v := .tuple #[.agg (ofK .u8 (List.replicate 32 0)).toArray, .int .i64 130]) ?_ rfl ⟨by rw [HF.out], HW7⟩
          exact results_blk_tmp Try.results25 _ _ w.heap.size _ _ rfl hb7 _ Try.underlying23 rfl HS2.out _ rfl
        · have d0 : 48 ≤ (c : Int) := by omega
          have d1 : decide ((c : Int) ≤ 57) = false := by simp; omega
          have d2 : 97 ≤ (c : Int) := by omega
          have d3 : decide ((c : Int) ≤ 102) = false := by simp; omega
          go_wp2_with (refine wpList_store_blk _ rfl 23 (.tmp 2) (.tmp 55) rfl w.heap.size 23 (ofK .u8 (List.replicate 32 0)) (ofK .u8 (List.replicate 32 0)) HR2.out rfl rfl rfl HS2.out (one_ofK _ _) ?_; intro w7 hb7 hch7 hsz7)
          have HW7 := below_ch HW2.out hch7 (Nat.le_refl _) (fun k h => by have h2 : k = w.heap.size := h; omega)
          refine bodyPost_ret (v := .tuple #[.agg (ofK .u8 (List.replicate 32 0)).toArray, .int .i64 130]) ?_ rfl ⟨by rw [HF.out], HW7⟩
          exact results_blk_tmp Try.results25 _ _ w.heap.size _ _ rfl hb7 _ Try.underlying23 rfl HS2.out _ rfl

set_option maxRecDepth 100000 in
set_option maxHeartbeats 1000000 in
theorem parse_not (s : ByteArray) (w : World) (hs : s.size ≠ 64) : Calls Try.prog 25 #[.string s] w (ParseP w (parseF (ints s)).1 (parseF (ints s)).2) := by
  have HS := Lib.hid hs
  have hg : ((s.size : Int) == 64) = false := by rw [beq_eq_false_iff_ne]; omega
  obtain ⟨Z, hZ⟩ : ∃ Z, Z = List.replicate 32 (0 : Int) := ⟨_, rfl⟩
  have HZ := Lib.hid hZ
  clear hs hZ
  go_enter Try.func25, Try.ntmps25
  go_wp2_with fail
  go_step3
  go_wp2_with fail
  go_step3
  have HB := Lib.hid (show Blk (((w.alloc (.cells (ofK .u8 Z).toArray 23)).alloc (.cells (ofK .u8 Z).toArray 23)).iter s 0) w.heap.size 23 (ofK .u8 Z) ∧ Blk (((w.alloc (.cells (ofK .u8 Z).toArray 23)).alloc (.cells (ofK .u8 Z).toArray 23)).iter s 0) (w.heap.size + 1) 23 (ofK .u8 Z) ∧
      IterS (((w.alloc (.cells (ofK .u8 Z).toArray 23)).alloc (.cells (ofK .u8 Z).toArray 23)).iter s 0) (w.heap.size + 2) s 0 ∧ Below w.heap.size w (((w.alloc (.cells (ofK .u8 Z).toArray 23)).alloc (.cells (ofK .u8 Z).toArray 23)).iter s 0) from by
    have h1 := Blk.new w (ofK .u8 Z) 23
    have h2 := Blk.new (w.alloc (.cells (ofK .u8 Z).toArray 23)) (ofK .u8 Z) 23
    rw [World.size_alloc] at h2
    refine ⟨(h1.alloc _).alloc _, h2.alloc _, ?_, ((((Below.refl _ w).alloc (Nat.le_refl _) _).alloc (by simp) _).alloc (by simp; omega) _)⟩
    have h3 := World.iter_heap ((w.alloc (.cells (ofK .u8 Z).toArray 23)).alloc (.cells (ofK .u8 Z).toArray 23)) s 0
    rw [World.size_alloc, World.size_alloc] at h3
    exact h3)
  rw [HZ.out] at HB
  have HF := Lib.hid (show parseF (ints s) = (List.replicate 32 0, 130) by
    unfold parseF
    rw [if_neg]
    rintro ⟨h1, _⟩
    rw [ints_length] at h1
    exact HS.out h1)
  have HS2 := Lib.hid (show (Try.prog.info? 23).map (·.size) = some (ofK .u8 (List.replicate 32 0)).length by rw [length_ofK, List.length_replicate]; kernel_rfl)
  go_wp2_with fail
  go_loopg [5] 1 (fun q g wr => g = .bool false ∧ Hid (Blk wr w.heap.size 23 (ofK .u8 (List.replicate 32 0))) ∧ Hid (IterS wr (w.heap.size + 2) s 0) ∧ Hid (Below w.heap.size w wr))
  case atStart => exact ⟨rfl, Lib.hid HB.out.1, Lib.hid HB.out.2.2.1, Lib.hid HB.out.2.2.2⟩
  case round =>
    clear HB
    obtain ⟨rfl, HR, HI, HW⟩ := hrel
    by_cases hk : 0 < s.size
    · obtain ⟨w2, hrun, hit2, hch2, hsz2⟩ := run_next_str (P := Try.prog) HI.out 0 hk
      have HR2 := Lib.hid (HR.out.keep hch2 (fun h => by have h2 : w.heap.size = w.heap.size + 2 := h; omega))
      have HW2 := Lib.hid (below_ch HW.out hch2 (Nat.le_refl _) (fun j h => by have h2 : j = w.heap.size + 2 := h; omega))
      clear hit2 hch2 hsz2 HI HR HW
      go_wp2_with (refine wpList_store_blk _ rfl 23 (.tmp 2) (.tmp 55) rfl w.heap.size 23 (ofK .u8 (List.replicate 32 0)) (ofK .u8 (List.replicate 32 0)) HR2.out rfl rfl rfl HS2.out (one_ofK _ _) ?_; intro w7 hb7 hch7 hsz7)
      have HW7 := below_ch HW2.out hch7 (Nat.le_refl _) (fun k h => by have h2 : k = w.heap.size := h; omega)
      refine bodyPost_ret (v := .tuple #[.agg (ofK .u8 (List.replicate 32 0)).toArray, .int .i64 130]) ?_ rfl ⟨by rw [HF.out], HW7⟩
      exact results_blk_tmp Try.results25 _ _ w.heap.size _ _ rfl hb7 _ Try.underlying23 rfl HS2.out _ rfl
    · have hnx := fun ty => run_next_over (P := Try.prog) HI.out ty hk
      go_wp2_with (refine wpList_store_blk _ rfl 23 (.tmp 2) (.tmp 55) rfl w.heap.size 23 (ofK .u8 (List.replicate 32 0)) (ofK .u8 (List.replicate 32 0)) HR.out rfl rfl rfl HS2.out (one_ofK _ _) ?_; intro w7 hb7 hch7 hsz7)
      have HW7 := below_ch HW.out hch7 (Nat.le_refl _) (fun k h => by have h2 : k = w.heap.size := h; omega)
      refine bodyPost_ret (v := .tuple #[.agg (ofK .u8 (List.replicate 32 0)).toArray, .int .i64 130]) ?_ rfl ⟨by rw [HF.out], HW7⟩
      exact results_blk_tmp Try.results25 _ _ w.heap.size _ _ rfl hb7 _ Try.underlying23 rfl HS2.out _ rfl

theorem parse_any (s : ByteArray) (w : World) : Calls Try.prog 25 #[.string s] w (ParseP w (parseF (ints s)).1 (parseF (ints s)).2) := by
  by_cases h : s.size = 64
  · exact parse_64 s w h
  · exact parse_not s w h

theorem parse_of (s : ByteArray) (id : List Int) (e : Int) (w : World) (h : parseF (ints s) = (id, e)) : Calls Try.prog 25 #[.string s] w (ParseP w id e) := by
  have := parse_any s w
  rwa [h] at this

end Go.Proofs.Ytkbhehnpgnilmaa
