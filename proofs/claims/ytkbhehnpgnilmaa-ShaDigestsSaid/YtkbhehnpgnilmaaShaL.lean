/-
  Package sha: Less, walked. Conditions: digests of 32 bytes.
-/
import Derived.Test.YtkbhehnpgnilmaaKit
namespace Go.Proofs.Ytkbhehnpgnilmaa
open Go Go.RowKit

/-- does a row of numbers stand ahead of another one? -/
def lessL : List Int → List Int → Bool
  | x :: xs, y :: ys => if x = y then lessL xs ys else decide (x < y)
  | _, _ => false

theorem lessL_same (xs : List Int) : lessL xs xs = false := by
  induction xs with
  | nil => rfl
  | cons x xs ih => unfold lessL; rw [if_pos rfl]; exact ih

theorem lessL_at : ∀ (xs ys : List Int) (k : Nat) (h1 : k < xs.length) (h2 : k < ys.length), xs.take k = ys.take k → xs[k] ≠ ys[k] → lessL xs ys = decide (xs[k] < ys[k])
  | x :: xs, y :: ys, 0, _, _, _, hne => by unfold lessL; rw [if_neg (show ¬ x = y from hne)]; rfl
  | x :: xs, y :: ys, k + 1, h1, h2, ht, hne => by
    simp only [List.take_succ_cons, List.cons.injEq] at ht
    unfold lessL
    rw [if_pos ht.1]
    exact lessL_at xs ys k (by simpa using h1) (by simpa using h2) ht.2 hne

theorem take_more {xs ys : List Int} {k : Nat} (h1 : k < xs.length) (h2 : k < ys.length) (ht : xs.take k = ys.take k) (he : xs[k] = ys[k]) : xs.take (k + 1) = ys.take (k + 1) := by
  rw [List.take_succ_eq_append_getElem h1, List.take_succ_eq_append_getElem h2, ht, he]

set_option maxRecDepth 100000 in
set_option maxHeartbeats 1000000 in
theorem less_any (av bv : List Int) (w : World) (ha : av.length = 32) (hb : bv.length = 32) :
    Calls Try.prog 29 #[.agg (ofK .u8 av).toArray, .agg (ofK .u8 bv).toArray] w (fun e w' => e = .returned (.bool (lessL av bv)) ∧ Below w.heap.size w w') := by
  have H := Lib.hid (And.intro ha hb)
  clear ha hb
  go_enter Try.func29, Try.ntmps29
  go_upto_region 1 with fail
  iterate 1 go_step
  have HA := Lib.hid (show Blk ((w.alloc (.cells (ofK .u8 av).toArray 23)).alloc (.cells (ofK .u8 bv).toArray 23)) w.heap.size 23 (ofK .u8 av) from (Blk.new _ _ _).alloc _)
  have HB := Lib.hid (show Blk ((w.alloc (.cells (ofK .u8 av).toArray 23)).alloc (.cells (ofK .u8 bv).toArray 23)) (w.heap.size + 1) 23 (ofK .u8 bv) from by
    have := Blk.new (w.alloc (.cells (ofK .u8 av).toArray 23)) (ofK .u8 bv) 23
    rwa [World.size_alloc] at this)
  have HW := Lib.hid (show Below w.heap.size w ((w.alloc (.cells (ofK .u8 av).toArray 23)).alloc (.cells (ofK .u8 bv).toArray 23)) from ((Below.refl _ w).alloc (Nat.le_refl _) _).alloc (by simp) _)
  refine wpList_load_blk _ rfl 23 (.tmp 2) rfl w.heap.size 23 (ofK .u8 av) HA.out rfl _ Try.underlying23 rfl (by rw [length_ofK, H.out.1]; kernel_rfl) ?_
  generalize (w.alloc (.cells (ofK .u8 av).toArray 23)).alloc (.cells (ofK .u8 bv).toArray 23) = w1 at HA HB HW ⊢
  go_wp2_with fail
  go_loop [8] (fun i => ∃ k : Nat, k ≤ 32 ∧ i = .int .i64 k ∧ Hid (av.take k = bv.take k)) (fun i => 32 - (intOf i).toNat)
  case atStart => exact ⟨0, by omega, rfl, Lib.hid rfl⟩
  case round =>
    obtain ⟨k, hk, rfl, HT⟩ := hrel
    by_cases hlt : k < 32
    · obtain ⟨x, hx⟩ : ∃ x, av[k]'(by rw [H.out.1]; exact hlt) = x := ⟨_, rfl⟩
      obtain ⟨y, hy⟩ : ∃ x, bv[k]'(by rw [H.out.2]; exact hlt) = x := ⟨_, rfl⟩
      have hix : ∀ w : World, (Instr.index 23 (.agg (ofK .u8 av).toArray) (.int .i64 k)).run Try.prog w = .ok (.int .u8 x) w := fun w => run_index_arr Try.underlying23 (by omega) (by omega) (fun _ => by rfl) (fun _ => by rfl) _ (by
        rw [Int.toNat_natCast, List.getElem?_toArray, get_ofK _ _ _ (by rw [H.out.1]; exact hlt), hx])
      have hcy : w1.cell? ⟨w.heap.size + 1, k, none⟩ = some (.int .u8 y) := by rw [HB.out.cell, get_ofK _ _ _ (by rw [H.out.2]; exact hlt), hy]
      have HX := Lib.hid (And.intro hx hy)
      clear hx hy
      by_cases hne : x = y
      · subst hne
        go_wp2_with fail
        go_round
        case rel => exact ⟨k + 1, by omega, by go_num, Lib.hid (take_more _ _ HT.out (HX.out.1.trans HX.out.2.symm))⟩
        case measure => simp [intOf]; omega
      · have h1 : (x != y) = true := by simpa using hne
        have HR := Lib.hid (show lessL av bv = decide (x < y) by
          rw [lessL_at av bv k (by rw [H.out.1]; exact hlt) (by rw [H.out.2]; exact hlt) HT.out (by rw [HX.out.1, HX.out.2]; exact hne), HX.out.1, HX.out.2])
        go_wp2_with fail
        go_ret
        exact ⟨by rw [HR.out]; rfl, HW.out⟩
    · have : k = 32 := by omega
      subst this
      have HR := Lib.hid (show lessL av bv = false by
        have := HT.out
        rw [List.take_of_length_le (by rw [H.out.1]; omega), List.take_of_length_le (by rw [H.out.2]; omega)] at this
        rw [this]; exact lessL_same _)
      go_wp2_with fail
      go_ret
      exact ⟨by rw [HR.out]; rfl, HW.out⟩

end Go.Proofs.Ytkbhehnpgnilmaa
