/-
  ShaDigests, walked. Conditions: bytes.
-/
import Derived.Test.YtkbhehnpgnilmaaRefD
import Derived.Test.YtkbhehnpgnilmaaShaX
namespace Go.Proofs.Ytkbhehnpgnilmaa
open Go Go.RowKit

theorem own_belowD {w w' : World} {B e size n : Nat} {v : Value} {xs : List Value} (h : w.ownsRow B e size v n xs) (hb : Below w.heap.size w w') : w'.ownsRow B e size v n xs := by
  obtain ⟨h1, h2 | ⟨g, cap, C, h3, h4, h5, h6⟩⟩ := h
  · exact ⟨h1, .inl h2⟩
  · exact ⟨h1, .inr ⟨g, cap, C, h3, h4, by rw [hb.block g (lt_of_block h5)]; exact h5, h6⟩⟩

theorem rangeAt_belowD {w w' : World} {b o : Nat} {cs : List Value} (h : w.rangeAt b o cs) (hb : Below w.heap.size w w') : w'.rangeAt b o cs := fun j v hv => by
  have := h j v hv
  exact (hb.cell (block_of_cell this)).trans this

set_option maxRecDepth 100000 in
set_option maxHeartbeats 2000000 in
theorem digests_go (v1 : Value) (us xs : List Int) (nx np : Nat) (Y : List Int) (w : World) (h1 : Sl w v1 (ofK .u8 us)) (ha : AllB us) (hxs : xs = us.take 700) (hnx : nx = xs.length) (hnp : np = (padL xs).length) (hY : Y = sumL xs) :
    Calls Try.prog 6 #[v1] w (TrueP w) := by
  have hax : AllB xs := fun c hc => ha c (by rw [hxs] at hc; exact List.mem_of_mem_take hc)
  have hlx : xs.length ≤ 700 := by rw [hxs, List.length_take]; omega
  have hYl : Y.length = 32 := by rw [hY]; exact sumL_length hax
  have heq : ∀ w, (Op.equalIn 10000 23 (.agg (ofK .u8 Y).toArray) (.agg (ofK .u8 Y).toArray)).run Try.prog w = .ok (decide (Y = Y)) w := fun w => run_equalIn_arrK (P := Try.prog) w .u8 9998 23 5 32 Try.underlying23 Try.underlying5 (fun _ => by rfl) Y Y hYl hYl
  rw [decide_eq_true rfl] at heq
  have H := Lib.hid (And.intro hax (And.intro hlx (And.intro hnx (And.intro hxs (And.intro hnp (And.intro hY hYl))))))
  have HV := Lib.hid h1
  obtain ⟨ao1, c1, rfl, _, _, hnum⟩ := h1.nums
  have HKU := Lib.hid (show 0 < us.length → ∀ k, (Value.slice ao1 us.length c1).ownBlock = some k → k < w.heap.size from fun h k hk => by
    obtain ⟨b, o, rfl, hb, _⟩ := hnum h
    cases hk
    exact hb)
  clear hnum
  have HI := Lib.hid (show (Try.prog.info? 23).map (·.size) = some (ofK .u8 Y).length by rw [length_ofK, hYl]; kernel_rfl)
  have HL := Lib.hid (show (ofK .u8 Y).length = ([.int .u8 0, .int .u8 0, .int .u8 0, .int .u8 0, .int .u8 0, .int .u8 0, .int .u8 0, .int .u8 0, .int .u8 0, .int .u8 0, .int .u8 0, .int .u8 0, .int .u8 0, .int .u8 0, .int .u8 0, .int .u8 0, .int .u8 0, .int .u8 0, .int .u8 0, .int .u8 0, .int .u8 0, .int .u8 0, .int .u8 0, .int .u8 0, .int .u8 0, .int .u8 0, .int .u8 0, .int .u8 0, .int .u8 0, .int .u8 0, .int .u8 0, .int .u8 0] : List Value).length by rw [length_ofK, hYl]; rfl)
  clear h1 ha hxs hax hlx hnx hnp hY hYl
  go_enter Try.func6, Try.ntmps6
  go_wp2_with fail
  refine (wakes3_any _).mono ?_
  rintro e w2 ⟨rfl, hbel⟩
  have HW2 := Lib.hid (And.intro (HV.out.below hbel (Nat.le_refl _)) hbel)
  clear hbel HV
  go_wp2_with fail
  refine (row3_any _ us nx _ HW2.out.1 (by rw [H.out.2.2.1, H.out.2.2.2.1])).mono ?_
  rintro e w3 ⟨ao3, c3, rfl, hown, hbel⟩
  rw [← H.out.2.2.2.1] at hown
  have HW3 := Lib.hid (And.intro (Sl.of_owns hown) (And.intro (HW2.out.1.below hbel (Nat.le_refl _)) (And.intro (fun k hk => (hown.lt k hk).2) (below_thn HW2.out.2 hbel (Nat.le_refl _)))))
  clear hbel HW2 hown
  go_wp2_with fail
  refine (sum_any _ xs _ HW3.out.1 (Nat.le_trans H.out.2.1 (by omega)) H.out.1).mono ?_
  rintro e w4 ⟨rfl, hbel⟩
  rw [← H.out.2.2.2.2.2.1]
  have HW4 := Lib.hid (And.intro (HW3.out.1.below hbel (Nat.le_refl _)) (And.intro (HW3.out.2.1.below hbel (Nat.le_refl _)) (And.intro (fun k hk => Nat.lt_of_lt_of_le (HW3.out.2.2.1 k hk) hbel.size) (below_thn HW3.out.2.2.2 hbel (Nat.le_refl _)))))
  clear hbel HW3
  go_wp2_with fail
  refine (pad_any _ xs _ HW4.out.1 (Nat.le_trans H.out.2.1 (by omega))).mono ?_
  rintro e w5 ⟨ao5, c5, n5, rfl, hn5, hown, hbel⟩
  obtain rfl : n5 = np := by rw [hn5, H.out.2.2.2.2.1]
  have HO5 := Lib.hid hown
  have HW5 := Lib.hid (And.intro (HW4.out.1.below hbel (Nat.le_refl _)) (And.intro (HW4.out.2.1.below hbel (Nat.le_refl _)) (And.intro (fun k hk => HW4.out.2.2.1 k hk) (And.intro (below_thn HW4.out.2.2.2 hbel (Nat.le_refl _)) HW4.out.2.2.2.size))))
  have HYB := Lib.hid (Blk.new w5 [.int .u8 0, .int .u8 0, .int .u8 0, .int .u8 0, .int .u8 0, .int .u8 0, .int .u8 0, .int .u8 0, .int .u8 0, .int .u8 0, .int .u8 0, .int .u8 0, .int .u8 0, .int .u8 0, .int .u8 0, .int .u8 0, .int .u8 0, .int .u8 0, .int .u8 0, .int .u8 0, .int .u8 0, .int .u8 0, .int .u8 0, .int .u8 0, .int .u8 0, .int .u8 0, .int .u8 0, .int .u8 0, .int .u8 0, .int .u8 0, .int .u8 0, .int .u8 0] 23)
  clear hbel hown hn5
  go_upto_region 5 with (with_reducible refine wpList_store_blk _ rfl 23 (.tmp 4) (.tmp 12) rfl w5.heap.size 23 [.int .u8 0, .int .u8 0, .int .u8 0, .int .u8 0, .int .u8 0, .int .u8 0, .int .u8 0, .int .u8 0, .int .u8 0, .int .u8 0, .int .u8 0, .int .u8 0, .int .u8 0, .int .u8 0, .int .u8 0, .int .u8 0, .int .u8 0, .int .u8 0, .int .u8 0, .int .u8 0, .int .u8 0, .int .u8 0, .int .u8 0, .int .u8 0, .int .u8 0, .int .u8 0, .int .u8 0, .int .u8 0, .int .u8 0, .int .u8 0, .int .u8 0, .int .u8 0] (ofK .u8 Y) HYB.out rfl rfl HL.out HI.out (one_ofK _ _) ?_; intro w6 hb6 hch6 hsz6; clear hsz6)
  have hbel := fresh_ch hch6
  have HO6 := Lib.hid (own_belowD HO5.out hbel)
  have HW6 := Lib.hid (And.intro (HW5.out.1.below hbel (Nat.le_refl _)) (And.intro (HW5.out.2.1.below hbel (Nat.le_refl _)) (And.intro HW5.out.2.2.1 (And.intro (below_thn HW5.out.2.2.2.1 hbel (Nat.le_refl _)) HW5.out.2.2.2.2))))
  have hrg := rangeAt_blk hb6
  clear hbel hb6 hch6 HYB HL HW5 HO5 HW4
  generalize w5.heap.size = g at *
  have HP := Lib.hid (And.intro (padL_allB H.out.1) (show (padL xs).length ≤ 800 by rw [padL_length]; have := H.out.2.1; omega))
  have hu := Try.underlying23
  have hi := HI.out
  go_region_held3 (fun w' => w'.rangeAt g 0 (ofK .u8 Y)) (first | assumption | go_keep) ((first | (go_at_call 31; refine (row3_any _ us nx _ (by exact ((Sm.refl _).drew).sl HW6.out.2.1) (by rw [H.out.2.2.1, H.out.2.2.2.1])).mono ?_; rintro e w7 ⟨ao7, c7, rfl, hown7, hbel7⟩; rw [← H.out.2.2.2.1] at hown7; have hS7 := rangeAt_belowD ((World.rangeAt_drew _ _ _ _).2 hrg) hbel7; have HW7 := Lib.hid (And.intro (Sl.of_owns hown7) (And.intro ((((Sm.refl w6).drew).sl HW6.out.2.1).below hbel7 (Nat.le_refl _)) (And.intro (own_belowD (((Sm.refl w6).drew).owns HO6.out) hbel7) (And.intro ((((Sm.refl w6).drew).sl HW6.out.1).below hbel7 (Nat.le_refl _)) (below_thn (HW6.out.2.2.2.1.trans (((Sm.refl w6).drew).below _)) hbel7 (Nat.le_refl _)))))); clear hown7 hbel7) | (go_at_call 34; refine (rdigest_any _ xs _ (by exact HW7.out.1) H.out.2.1 H.out.1).mono ?_; rintro e w8 ⟨rfl, hbel8⟩; rw [← H.out.2.2.2.2.2.1]; have hS8 := rangeAt_belowD hS7 hbel8; have HW8 := Lib.hid (And.intro (HW7.out.2.1.below hbel8 (Nat.le_refl _)) (And.intro (own_belowD HW7.out.2.2.1 hbel8) (And.intro (HW7.out.2.2.2.1.below hbel8 (Nat.le_refl _)) (below_thn HW7.out.2.2.2.2 hbel8 (Nat.le_refl _))))); clear hbel8) | (go_at_call 31; refine (row3_any _ us nx _ (by exact HW8.out.1) (by rw [H.out.2.2.1, H.out.2.2.2.1])).mono ?_; rintro e w9 ⟨ao9, c9, rfl, hown9, hbel9⟩; rw [← H.out.2.2.2.1] at hown9; have hS9 := rangeAt_belowD hS8 hbel9; have HW9 := Lib.hid (And.intro (Sl.of_owns hown9) (And.intro (HW8.out.1.below hbel9 (Nat.le_refl _)) (And.intro (own_belowD HW8.out.2.1 hbel9) (And.intro (HW8.out.2.2.1.below hbel9 (Nat.le_refl _)) (below_thn HW8.out.2.2.2 hbel9 (Nat.le_refl _)))))); clear hown9 hbel9) | (go_at_call 36; refine (rfill_any _ xs n5 _ (by exact HW9.out.1) H.out.2.1 H.out.2.2.2.2.1).mono ?_; rintro e w10 ⟨ao10, c10, rfl, hown10, hbel10⟩; have hS10 := rangeAt_belowD hS9 hbel10; have HW10 := Lib.hid (And.intro (Sl.of_owns hown10) (And.intro (HW9.out.2.1.below hbel10 (Nat.le_refl _)) (And.intro (own_belowD HW9.out.2.2.1 hbel10) (And.intro (HW9.out.2.2.2.1.below hbel10 (Nat.le_refl _)) (below_thn HW9.out.2.2.2.2 hbel10 (Nat.le_refl _)))))); clear hown10 hbel10) | (go_at_call 35; refine (bytesEqual_of _ _ (padL xs) (padL xs) _ true (by exact Sl.of_owns HW10.out.2.2.1) (by exact HW10.out.1) HP.out.1 HP.out.1 (decide_eq_true rfl)).mono ?_; rintro e w11 ⟨rfl, rfl⟩)))
  have hn5 : 0 < n5 := by have h1 := H.out.2.2.2.2.1; have h2 := padL_length xs; omega
  have hn5b : n5 ≤ 800 := by have h1 := H.out.2.2.2.2.1; have h2 := HP.out.2; omega
  obtain ⟨q, rfl⟩ : ∃ q, ao5 = some ⟨q, 0, none⟩ := by
    obtain ⟨_, h2 | ⟨g', cap, cur, hv, _⟩⟩ := HW10.out.2.2.1
    · have := h2.2; omega
    · cases hv; exact ⟨_, rfl⟩
  obtain ⟨hpl, cur, hbq, hqb, hnc, hcm, hcs, hct⟩ := Own.parts HW10.out.2.2.1
  have HW0 := Lib.hid (And.intro HW10.out.2.1 (And.intro HW10.out.2.2.2.1 HW10.out.2.2.2.2))
  have HQ := Lib.hid (And.intro hbq (And.intro HW6.out.2.2.1 (And.intro HW6.out.2.2.2.2 (show w.heap.size ≤ q by have := HW6.out.2.2.2.2; omega))))
  have HB0 := Lib.hid (show Blk w10 q 5 cur.toList by unfold Blk; rw [hqb])
  have HC0 := Lib.hid (And.intro hct (show cur.toList.length = c5 by simpa using hcs))
  clear hbq hqb hcm hcs hct hpl HW6 HW7 HW8 HW9 HW10 hS7 hS8 hS9 hS10 hrg hu hi HI HO6 heq HP
  go_wp2_with fail
  go_loopw [30] (fun v wr => ∃ (k : Nat) (zs : List Int) (cl : List Value), k ≤ n5 ∧ v = .int .i64 k ∧ Hid (Blk wr q 5 cl) ∧ Hid (cl.take n5 = ofK .u8 zs ∧ cl.length = c5) ∧ Hid (Ch (· = q) w10 wr)) (fun v _ => n5 - (intOf v).toNat)
  case atStart => exact ⟨0, padL xs, cur.toList, by omega, rfl, HB0, HC0, Lib.hid (Ch.refl _ _)⟩
  case round =>
    clear HB0 HC0
    obtain ⟨k, zs, cl, hk, rfl, HB, HC, HCH⟩ := hrel
    by_cases hlt : k < n5
    · have hzl : zs.length = n5 := by
        have h1 := congrArg List.length HC.out.1
        rw [List.length_take, length_ofK, HC.out.2] at h1
        omega
      obtain ⟨z, hz⟩ : ∃ z, z = zs[k] := ⟨_, rfl⟩
      have hcell : wr.cell? ⟨q, k, none⟩ = some (.int .u8 z) := by
        have h1 := get_ofK .u8 zs k (by omega)
        rw [← HC.out.1, List.getElem?_take, if_pos hlt] at h1
        rw [HB.out.cell, h1, hz]
      have hfree := HB.out.free k
      have hk0 : (0 : Int) ≤ (k : Int) := by omega
      have hk1 : (k : Int) < (n5 : Int) := by omega
      obtain ⟨z1, hz1⟩ : ∃ z1, z1 = IntKind.u8.wrap (z + 1) := ⟨_, rfl⟩
      have hz1' := hz1.symm
      have HC2 := Lib.hid (show (cl.set k (.int .u8 z1)).take n5 = ofK .u8 (zs.set k z1) ∧ (cl.set k (.int .u8 z1)).length = c5 from by
        constructor
        · rw [List.take_set, HC.out.1]
          unfold ofK
          rw [List.map_set]
        · rw [List.length_set, HC.out.2])
      clear hz hz1 hzl
      go_wp2_with fail
      go_roundw
      case rel => exact ⟨k + 1, zs.set k z1, cl.set k (.int .u8 z1), by omega, by go_num, Lib.hid (HB.out.set k _), HC2, Lib.hid (HCH.out.setCell (.inl rfl) _)⟩
      case measure => simp [intOf]; omega
    · obtain rfl : k = n5 := by omega
      have hus : Sl wr (.slice ao1 us.length c1) (ofK .u8 us) := by
        rcases Nat.eq_zero_or_pos us.length with h0 | h0
        · have hnil : us = [] := List.eq_nil_of_length_eq_zero h0
          rcases HW0.out.1 with h | ⟨ad, c, h1, h2, h3, h4⟩
          · exact .inl h
          · exact .inr ⟨ad, c, h1, h2, h3, fun i u hu => by simp [hnil, ofK] at hu⟩
        · exact HW0.out.1.keep HCH.out (fun j hj h => by have h2 : j = q := h; have h3 := HKU.out h0 j hj; have h4 := HQ.out.2.2.2; omega)
      have HF := Lib.hid (And.intro hus (And.intro (HW0.out.2.1.keep HCH.out (fun j hj h => by have h2 : j = q := h; have h3 := HQ.out.2.1 j hj; have h4 := HQ.out.1; omega)) (below_ch HW0.out.2.2 HCH.out (Nat.le_refl _) (fun j h => by have h2 : j = q := h; have h3 := HQ.out.2.2.2; omega))))
      go_wp2_with fail
      refine (row3_any _ us nx _ HF.out.1 (by rw [H.out.2.2.1, H.out.2.2.2.1])).mono ?_
      rintro e w12 ⟨ao12, c12, rfl, hown, hbel⟩
      rw [← H.out.2.2.2.1] at hown
      have HG := Lib.hid (And.intro (Sl.of_owns hown) (And.intro (HF.out.2.1.below hbel (Nat.le_refl _)) (below_thn HF.out.2.2 hbel (Nat.le_refl _))))
      clear hown hbel
      go_wp2_with fail
      refine (bytesEqual_of _ _ xs xs _ true HG.out.2.1 HG.out.1 H.out.1 H.out.1 (decide_eq_true rfl)).mono ?_
      rintro e w13 ⟨rfl, rfl⟩
      go_wp2_with fail
      go_ret
      exact ⟨rfl, HG.out.2.2⟩

theorem shaDigests_walk (v1 : Value) (us : List Int) (w : World) (h1 : Sl w v1 (ofK .u8 us)) (ha : AllB us) (_ : us.length ≤ 140737488351232) :
    Calls Try.prog 6 #[v1] w (TrueP w) :=
  digests_go v1 us _ _ _ _ w h1 ha rfl rfl rfl rfl

end Go.Proofs.Ytkbhehnpgnilmaa
