/-
  Package sha: Text, walked. Conditions: digests of 32 bytes.
-/
import Derived.Test.YtkbhehnpgnilmaaKit
namespace Go.Proofs.Ytkbhehnpgnilmaa
open Go Go.RowKit

/-- the sign of a digit -/
def signL (n : Int) : Int := if n < 10 then 48 + n else 87 + n
/-- a digest in digits -/
def textL (bs : List Int) : List Int := bs.flatMap fun c => [signL (c / 16), signL (c % 16)]

theorem textL_snoc (bs : List Int) (k : Nat) (h : k < bs.length) : textL (bs.take (k + 1)) = textL (bs.take k) ++ [signL (bs[k] / 16), signL (bs[k] % 16)] := by
  rw [List.take_succ_eq_append_getElem h, textL, List.flatMap_append]; simp [textL]

theorem textL_length (bs : List Int) : (textL bs).length = 2 * bs.length := by
  induction bs with
  | nil => rfl
  | cons b bs ih =>
    have : textL (b :: bs) = signL (b / 16) :: signL (b % 16) :: textL bs := rfl
    rw [this]; simp only [List.length_cons, ih]; omega

theorem signL_bd {n : Int} (h : 0 ≤ n ∧ n < 16) : 0 ≤ signL n ∧ signL n ≤ 255 := by unfold signL; split <;> omega

theorem textL_allB {bs : List Int} (h : AllB bs) : AllB (textL bs) := by
  intro c hc
  obtain ⟨b, hb, hc⟩ := List.mem_flatMap.1 hc
  have := h b hb
  simp only [List.mem_cons, List.not_mem_nil, or_false] at hc
  rcases hc with rfl | rfl
  · exact signL_bd (by omega)
  · exact signL_bd (by omega)

theorem sign_index {P : Program} (n : Int) (h : 0 ≤ n ∧ n < 16) (t : TypeId) (w : World) (ht : P.underlying t = some .string) :
    (Instr.index t (Value.string { data := #[48, 49, 50, 51, 52, 53, 54, 55, 56, 57, 97, 98, 99, 100, 101, 102] }) (.int .u8 n)).run P w = .ok (.int .u8 (signL n)) w := by
  have hn : n = 0 ∨ n = 1 ∨ n = 2 ∨ n = 3 ∨ n = 4 ∨ n = 5 ∨ n = 6 ∨ n = 7 ∨ n = 8 ∨ n = 9 ∨ n = 10 ∨ n = 11 ∨ n = 12 ∨ n = 13 ∨ n = 14 ∨ n = 15 := by omega
  rcases hn with rfl | rfl | rfl | rfl | rfl | rfl | rfl | rfl | rfl | rfl | rfl | rfl | rfl | rfl | rfl | rfl <;>
    (simp [Instr.index, run_underlying ht, asIntOf, go_sem, signL]; first | done | rfl | skip)

set_option maxRecDepth 100000 in
set_option maxHeartbeats 1000000 in
theorem text_any (av : List Int) (w : World) (ha : av.length = 32) (hb : AllB av) :
    Calls Try.prog 27 #[.agg (ofK .u8 av).toArray] w (fun e w' => e = .returned (.string (toB (textL av))) ∧ Below w.heap.size w w') := by
  obtain ⟨i0, hi, hz0, hz1, hz2⟩ := info_parts Try.info5
  have H := Lib.hid (And.intro ha hb)
  clear ha hb
  have hmk := fun w => run_make_rep (P := Try.prog) 33 5 i0 (.int .u8 0) Try.underlying33 hi hz0 hz1 rfl .i64 .i64 0 64 0 64 rfl rfl (by decide) (by rw [hz2]; decide) (by decide) w
  obtain ⟨Z, hZ⟩ : ∃ Z, Z = List.replicate 64 (Value.int .u8 0) := ⟨_, rfl⟩
  rw [← hZ] at hmk
  have HZ := Lib.hid (show Z.length = 64 by rw [hZ]; exact List.length_replicate)
  clear hZ
  go_enter Try.func27, Try.ntmps27
  go_upto_region 2 with fail
  iterate 1 go_step
  have HA := Lib.hid (show Blk ((w.alloc (.cells (ofK .u8 av).toArray 23)).alloc (.cells Z.toArray 5)) w.heap.size 23 (ofK .u8 av) from (Blk.new _ _ _).alloc _)
  have HB := Lib.hid (show Blk ((w.alloc (.cells (ofK .u8 av).toArray 23)).alloc (.cells Z.toArray 5)) (w.heap.size + 1) 5 Z from by
    have := Blk.new (w.alloc (.cells (ofK .u8 av).toArray 23)) Z 5
    rwa [World.size_alloc] at this)
  have HW := Lib.hid (show Below w.heap.size w ((w.alloc (.cells (ofK .u8 av).toArray 23)).alloc (.cells Z.toArray 5)) from ((Below.refl _ w).alloc (Nat.le_refl _) _).alloc (by simp) _)
  refine wpList_load_blk _ rfl 23 (.tmp 1) rfl w.heap.size 23 (ofK .u8 av) HA.out rfl _ Try.underlying23 rfl (by rw [length_ofK, H.out.1]; kernel_rfl) ?_
  generalize (w.alloc (.cells (ofK .u8 av).toArray 23)).alloc (.cells Z.toArray 5) = w1 at HA HB HW ⊢
  have HO := Lib.hid (HB.out.owns_take (base := w.heap.size) (by omega) (by rw [HZ.out]; unfold maxLen; omega) 0 64 (by omega) HZ.out.symm)
  clear HA HB hmk HZ
  go_wp2_with fail
  go_loopw [3, 8] (fun v i wr => ∃ (k : Nat) (ao : Option Addr) (c : Nat), k ≤ 32 ∧ v = .slice ao (2 * k) c ∧ i = .int .i64 k ∧ Hid (wr.ownsRow w.heap.size 5 1 (.slice ao (2 * k) c) (2 * k) (ofK .u8 (textL (av.take k)))) ∧ Hid (Below w.heap.size w wr)) (fun _ i _ => 32 - (intOf i).toNat)
  case atStart => exact ⟨0, _, _, by omega, rfl, rfl, HO, HW⟩
  case round =>
    clear HO HW
    obtain ⟨k, ao, c, hk, rfl, rfl, HO, HW⟩ := hrel
    by_cases hlt : k < 32
    · obtain ⟨x, hx⟩ : ∃ x, av[k]'(by rw [H.out.1]; exact hlt) = x := ⟨_, rfl⟩
      have hix : ∀ w : World, (Instr.index 23 (.agg (ofK .u8 av).toArray) (.int .i64 k)).run Try.prog w = .ok (.int .u8 x) w := fun w => run_index_arr Try.underlying23 (by omega) (by omega) (fun _ => by rfl) (fun _ => by rfl) _ (by
        rw [Int.toNat_natCast, List.getElem?_toArray, get_ofK _ _ _ (by rw [H.out.1]; exact hlt), hx])
      have hx0 : 0 ≤ x ∧ x ≤ 255 := by rw [← hx]; exact H.out.2 _ (List.getElem_mem _)
      have hx1 := hx0.1
      have hx2 := hx0.2
      obtain ⟨y, hy⟩ : ∃ y, y = x / 16 := ⟨_, rfl⟩
      obtain ⟨z, hz⟩ : ∃ y, y = x % 16 := ⟨_, rfl⟩
      have hsy := fun w => sign_index (P := Try.prog) y (by omega) 9 w Try.underlying9
      have hsz := fun w => sign_index (P := Try.prog) z (by omega) 9 w Try.underlying9
      have hq : Int.tdiv x 16 = y := by rw [hy]; exact Int.tdiv_eq_ediv_of_nonneg hx1
      have hr : Int.tmod x 16 = z := by rw [hz]; exact Int.tmod_eq_emod_of_nonneg hx1
      have hq3 : x / 16 = y := hy.symm
      have hr3 : x % 16 = z := hz.symm
      obtain ⟨p, hp⟩ : ∃ p, p = signL y := ⟨_, rfl⟩
      obtain ⟨q, hq2⟩ : ∃ p, p = signL z := ⟨_, rfl⟩
      rw [← hp] at hsy
      rw [← hq2] at hsz
      have HX := Lib.hid (show textL (av.take (k + 1)) = textL (av.take k) ++ [p, q] by
        rw [textL_snoc _ _ (by rw [H.out.1]; exact hlt), hx, hp, hq2, hy, hz])
      have hwy : IntKind.u8.wrap y = y := by rw [IntKind.wrap_u8]; omega
      have hwz : IntKind.u8.wrap z = z := by rw [IntKind.wrap_u8]; omega
      have hy0 : 0 ≤ y := by omega
      have hy1 : y < 16 := by omega
      have hz0' : 0 ≤ z := by omega
      have hz1' : z < 16 := by omega
      clear hx hx0 hy hz hp hq2
      have hsz0 := HW.out.size
      go_wp2_with fail
      refine wp_region_pure [.slice ao (2 * k) c, .int .u8 x, .int .u8 y, .int .u8 p, .int .u8 x, .int .u8 z, .int .u8 q] 7 (by kernel_rfl) (by kernel_rfl) ?_ ?_
      · simp only [List.take_succ_cons, List.take_zero]
        refine ⟨rfl, fun _ => by go_simp, rfl, fun _ => by go_simp, rfl, fun _ => by go_simp, rfl, fun _ => by go_simp, rfl, fun _ => by go_simp, rfl, fun _ => by go_simp, rfl, fun _ => by go_simp, trivial⟩
      simp only [List.take_succ_cons, List.take_zero, List.drop_succ_cons, List.drop_zero, putL]
      go_wp2_with (at_builtin; refine wpList_append_lies _ rfl _ _ 33 rfl w.heap.size 5 i0 (.int .u8 0) 1 1 Try.underlying33 hi hz0 hz1 hz2 rfl (by omega) (.slice ao (2 * k) c) (2 * k) _ rfl (by exact HO.out.alloc _) ⟨wr.heap.size, 0, none⟩ 2 2 [.int .u8 p, .int .u8 q] rfl rfl (World.news_of_block (cs := #[.int .u8 p, .int .u8 q]) (t := 5) (fr := (0, 0)) (heap_alloc_new wr _)) (by simp [Value.oneCell']) (by omega) (by unfold maxLen; omega) (by omega) (by simp; omega) (wr.heap.size + 1) (by simp) ?_; intro g cap w2 hown hgrow hat hlg)
      refine NoPanic.normal ?_
      have HO2 := Lib.hid hown
      have HW2 := Lib.hid (((HW.out.alloc hsz0 _).drew).grown hgrow (by simp; omega) (fun k' h => (HO.out.lt k' h).1))
      clear hown hgrow hat hlg HO HW
      go_wp2_with fail
      go_roundw
      case rel => exact ⟨k + 1, _, cap, by omega, by go_num, by go_num, by rw [HX.out, show ofK .u8 (textL (av.take k) ++ [p, q]) = ofK .u8 (textL (av.take k)) ++ [.int .u8 p, .int .u8 q] from by simp [ofK]]; exact HO2, HW2⟩
      case measure => simp [intOf]; omega
    · obtain rfl : k = 32 := by omega
      have HS := Lib.hid (show Sl wr (.slice ao (2 * 32) c) (ofK .u8 (textL av)) by
        have := Sl.of_owns HO.out
        rwa [List.take_of_length_le (by rw [H.out.1]; omega)] at this)
      have hcv := fun w' (h : Sl w' (.slice ao (2 * 32) c) (ofK .u8 (textL av))) => run_convert_sl (P := Try.prog) w' 33 9 5 Try.underlying33 Try.underlying5 Try.underlying9 _ _ h (textL_allB H.out.2)
      have hc := hcv wr HS.out
      clear hcv
      go_wp2
      go_ret
      exact ⟨rfl, HW.out⟩

end Go.Proofs.Ytkbhehnpgnilmaa
