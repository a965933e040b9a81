/-
  The reference's Sign, Text, walked. Conditions: digests of 32 bytes.
-/
import Derived.Test.YtkbhehnpgnilmaaHex2
namespace Go.Proofs.Ytkbhehnpgnilmaa
open Go Go.RowKit

set_option maxHeartbeats 1000000 in
theorem rsign_any (n : Int) (w : World) (h0 : 0 ≤ n) (h1 : n < 16) : Calls Try.prog 87 #[.int .u8 n] w (fun e w' => e = .returned (.int .u8 (signL n)) ∧ w' = w) := by
  by_cases h : n < 10
  · have e : signL n = 48 + n := by unfold signL; rw [if_pos h]
    have hw : IntKind.u8.wrap (48 + n) = 48 + n := by rw [IntKind.wrap_u8]; omega
    rw [e]
    go_enter Try.func87, Try.ntmps87
    go_wp2_with fail
    go_ret
    exact ⟨rfl, rfl⟩
  · have e : signL n = 87 + n := by unfold signL; rw [if_neg h]
    have hw : IntKind.u8.wrap (97 + n) = 97 + n := by rw [IntKind.wrap_u8]; omega
    have hw2 : IntKind.u8.wrap (97 + n - 10) = 87 + n := by rw [IntKind.wrap_u8]; omega
    rw [e]
    go_enter Try.func87, Try.ntmps87
    go_wp2_with fail
    go_ret
    exact ⟨rfl, rfl⟩

set_option maxRecDepth 100000 in
set_option maxHeartbeats 1000000 in
theorem rtext_any (av : List Int) (w : World) (ha : av.length = 32) (hb : AllB av) :
    Calls Try.prog 28 #[.agg (ofK .u8 av).toArray] w (fun e w' => e = .returned (.string (toB (textL av))) ∧ Below w.heap.size w w') := by
  obtain ⟨i0, hi, hz0, hz1, hz2⟩ := info_parts Try.info5
  have H := Lib.hid (And.intro ha hb)
  clear ha hb
  go_enter Try.func28, Try.ntmps28
  go_upto_region 2 with fail
  have HA := Lib.hid (show Blk (w.alloc (.cells (ofK .u8 av).toArray 23)) w.heap.size 23 (ofK .u8 av) from Blk.new _ _ _)
  have HW := Lib.hid (show Below w.heap.size w (w.alloc (.cells (ofK .u8 av).toArray 23)) from (Below.refl _ w).alloc (Nat.le_refl _) _)
  iterate 1 go_step
  refine wpList_load_blk _ rfl 23 (.tmp 1) rfl w.heap.size 23 (ofK .u8 av) HA.out rfl _ Try.underlying23 rfl (by rw [length_ofK, H.out.1]; kernel_rfl) ?_
  generalize w.alloc (.cells (ofK .u8 av).toArray 23) = w1 at HA HW ⊢
  clear HA
  go_wp2_with fail
  go_loopw [3, 7] (fun v i wr => ∃ (k : Nat) (ao : Option Addr) (c : Nat), k ≤ 32 ∧ v = .slice ao (2 * k) c ∧ i = .int .i64 k ∧ Hid (wr.ownsRow w.heap.size 5 1 (.slice ao (2 * k) c) (2 * k) (ofK .u8 (textL (av.take k)))) ∧ Hid (Below w.heap.size w wr)) (fun _ i _ => 32 - (intOf i).toNat)
  case atStart => exact ⟨0, _, _, by omega, rfl, rfl, Lib.hid ⟨rfl, .inl ⟨rfl, rfl⟩⟩, HW⟩
  case round =>
    clear HW
    obtain ⟨k, ao, c, hk, rfl, rfl, HO, HW⟩ := hrel
    by_cases hlt : k < 32
    · obtain ⟨x, hx⟩ : ∃ x, av[k]'(by rw [H.out.1]; exact hlt) = x := ⟨_, rfl⟩
      have hix : ∀ w : World, (Instr.index 23 (.agg (ofK .u8 av).toArray) (.int .i64 k)).run Try.prog w = .ok (.int .u8 x) w := fun w => run_index_arr Try.underlying23 (by omega) (by omega) (fun _ => by rfl) (fun _ => by rfl) _ (by
        rw [Int.toNat_natCast, List.getElem?_toArray, get_ofK _ _ _ (by rw [H.out.1]; exact hlt), hx])
      have hx0 : 0 ≤ x ∧ x ≤ 255 := by rw [← hx]; exact H.out.2 _ (List.getElem_mem _)
      have hx1 := hx0.1
      have hx2 := hx0.2
      obtain ⟨y, hy⟩ : ∃ y, y = x / 16 := ⟨_, rfl⟩
      obtain ⟨z, hz⟩ : ∃ y, y = x % 16 := ⟨_, rfl⟩
      have hq : Int.tdiv x 16 = y := by rw [hy]; exact Int.tdiv_eq_ediv_of_nonneg hx1
      have hr : Int.tmod x 16 = z := by rw [hz]; exact Int.tmod_eq_emod_of_nonneg hx1
      have hq3 : x / 16 = y := hy.symm
      have hr3 : x % 16 = z := hz.symm
      obtain ⟨p, hp⟩ : ∃ p, p = signL y := ⟨_, rfl⟩
      obtain ⟨q, hq2⟩ : ∃ p, p = signL z := ⟨_, rfl⟩
      have HX := Lib.hid (show textL (av.take (k + 1)) = textL (av.take k) ++ [p, q] by
        rw [textL_snoc _ _ (by rw [H.out.1]; exact hlt), hx, hp, hq2, hy, hz])
      have hwy : IntKind.u8.wrap y = y := by rw [IntKind.wrap_u8]; omega
      have hwz : IntKind.u8.wrap z = z := by rw [IntKind.wrap_u8]; omega
      have hy0 : 0 ≤ y := by omega
      have hy1 : y < 16 := by omega
      have hz0' : 0 ≤ z := by omega
      have hz1' : z < 16 := by omega
      have HP := Lib.hid (And.intro hp hq2)
      clear hx hx0 hy hz hp hq2
      have hsz0 := HW.out.size
      go_wp2_with fail
      refine (rsign_any y _ hy0 hy1).mono ?_
      rintro e w2 ⟨rfl, rfl⟩
      rw [← HP.out.1]
      go_wp2_with fail
      refine (rsign_any z _ hz0' hz1').mono ?_
      rintro e w2 ⟨rfl, rfl⟩
      rw [← HP.out.2]
      go_wp2_with (at_builtin; refine wpList_append_lies _ rfl _ _ 33 rfl w.heap.size 5 i0 (.int .u8 0) 1 1 Try.underlying33 hi hz0 hz1 hz2 rfl (by omega) (.slice ao (2 * k) c) (2 * k) _ rfl (by exact HO.out.alloc _) ⟨w2.heap.size, 0, none⟩ 2 2 [.int .u8 p, .int .u8 q] rfl rfl (World.news_of_block (cs := #[.int .u8 p, .int .u8 q]) (t := 5) (fr := (0, 0)) (heap_alloc_new w2 _)) (by simp [Value.oneCell']) (by omega) (by unfold maxLen; omega) (by omega) (by simp; omega) (w2.heap.size + 1) (by simp) ?_; intro g cap w3 hown hgrow hat hlg)
      have HO2 := Lib.hid hown
      have HW2 := Lib.hid ((HW.out.alloc hsz0 _).grown hgrow (by simp; omega) (fun k' h => (HO.out.lt k' h).1))
      clear hown hgrow hat hlg HO HW
      go_wp2_with fail
      go_roundw
      case rel => exact ⟨k + 1, _, cap, by omega, by go_num, by go_num, by rw [HX.out, show ofK .u8 (textL (av.take k) ++ [p, q]) = ofK .u8 (textL (av.take k)) ++ [.int .u8 p, .int .u8 q] from by simp [ofK]]; exact HO2, HW2⟩
      case measure => simp [intOf]; omega
    · obtain rfl : k = 32 := by omega
      have HS := Lib.hid (show Sl wr (.slice ao (2 * 32) c) (ofK .u8 (textL av)) by
        have := Sl.of_owns HO.out
        rwa [List.take_of_length_le (by rw [H.out.1]; omega)] at this)
      have hcv := fun w' (h : Sl w' (.slice ao (2 * 32) c) (ofK .u8 (textL av))) => run_convert_sl (P := Try.prog) w' 33 9 5 Try.underlying33 Try.underlying5 Try.underlying9 _ _ h (textL_allB H.out.2)
      have hc := hcv wr HS.out
      clear hcv
      go_wp2
      go_ret
      exact ⟨rfl, HW.out⟩

end Go.Proofs.Ytkbhehnpgnilmaa
