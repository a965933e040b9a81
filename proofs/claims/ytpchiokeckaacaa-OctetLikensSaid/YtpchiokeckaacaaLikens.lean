/-
  OctetLikens, walked. Conditions: none beside that the rows read as bytes.
-/
import Derived.Test.YtpchiokeckaacaaWakes
import Derived.Test.YtpchiokeckaacaaRefo
namespace Go.Proofs.Ytpchiokeckaacaa
open Go Go.RowKit

def othersN (xs : List Int) (k : Nat) : Nat := (xs.take k).countP (fun c => decide (0 < c))
theorem othersN_le (xs : List Int) (k : Nat) : othersN xs k ≤ k ∧ othersN xs k ≤ xs.length := by
  unfold othersN
  have h := List.countP_le_length (p := fun c : Int => decide (0 < c)) (l := xs.take k)
  simp only [List.length_take] at h
  omega
theorem othersN_succ (xs : List Int) (k : Nat) (h : k < xs.length) : othersN xs (k + 1) = othersN xs k + if 0 < xs[k] then 1 else 0 := by
  unfold othersN
  rw [List.take_succ_eq_append_getElem h, List.countP_append]
  congr 1
  by_cases e : 0 < xs[k] <;> simp [e]
theorem othersN_zero (xs : List Int) (h : AllB xs) : zeroB xs = ((othersN xs xs.length : Int) == 0) := by
  unfold othersN zeroB
  rw [List.take_of_length_le (Nat.le_refl _), Bool.eq_iff_iff, List.all_eq_true, beq_iff_eq]
  constructor
  · intro a
    have : xs.countP (fun c => decide (0 < c)) = 0 := by
      rw [List.countP_eq_zero]; intro c hc; have := a c hc; simp at this; simp [this]
    omega
  · intro a c hc
    have h0 : xs.countP (fun c => decide (0 < c)) = 0 := by omega
    rw [List.countP_eq_zero] at h0
    have := h0 c hc
    have := h c hc
    simp at *; omega
theorem take_400 (xs : List Int) : decide (xs = xs.take 400) = decide ((xs.length : Int) ≤ 400) := by
  rw [Bool.eq_iff_iff, decide_eq_true_eq, decide_eq_true_eq]
  constructor
  · intro h; have := congrArg List.length h; rw [List.length_take] at this; omega
  · intro h; rw [List.take_of_length_le (by omega)]

set_option maxRecDepth 100000 in
set_option maxHeartbeats 1000000 in
theorem octetLikens_walk (v1 : Value) (xs : List Int) (v2 : Value) (ys : List Int) (w : World) (h1 : Sl w v1 (ofK .u8 xs)) (a1 : AllB xs) (_l1 : xs.length ≤ 140737488351232) (h2 : Sl w v2 (ofK .u8 ys)) (a2 : AllB ys) (_l2 : ys.length ≤ 140737488351232) :
    Calls Try.prog 3 #[v1, v2] w (TrueP w) := by
  obtain ⟨ao, c, rfl, b2, b3, b4⟩ := h1.nums
  go_enter Try.func3, Try.ntmps3
  go_wp2_with fail
  refine (wakes_any w).mono ?_
  rintro e w1 ⟨rfl, B1⟩
  have HB := Lib.hid B1
  clear B1
  go_wp2
  go_loop [5, 13] (fun n i => ∃ k : Nat, k ≤ xs.length ∧ i = .int .i64 k ∧ n = .int .i64 (othersN xs k)) (fun _ i => xs.length - (intOf i).toNat)
  case atStart => exact ⟨0, Nat.zero_le _, rfl, rfl⟩
  case round =>
    obtain ⟨k, hk, rfl, rfl⟩ := hrel
    have hle := othersN_le xs k
    by_cases hlt : k < xs.length
    · obtain ⟨b, o, rfl, hbw, hcell⟩ := b4 (by omega)
      have c1 : w1.cell? ⟨b, o + k, none⟩ = some (.int .u8 xs[k]) := (HB.out.cell hbw).trans (hcell k hlt)
      have hs := othersN_succ xs k hlt
      clear hcell b4 h1 h2
      by_cases e : 0 < xs[k]
      · rw [if_pos e] at hs
        have HS := Lib.hid hs
        clear hs
        go_wp2
        go_round
        case rel => exact ⟨k + 1, by omega, by go_num, by rw [HS.out]; go_num⟩
        case measure => simp [intOf]; omega
      · rw [if_neg e] at hs
        have HS := Lib.hid hs
        clear hs
        go_wp2
        go_round
        case rel => exact ⟨k + 1, by omega, by go_num, by rw [HS.out]; rfl⟩
        case measure => simp [intOf]; omega
    · obtain rfl : k = xs.length := by omega
      have g1 := h1.below HB.out (Nat.le_refl _)
      have g2 := h2.below HB.out (Nat.le_refl _)
      obtain ⟨q, hq⟩ : ∃ q, decide (xs = ys) = q := ⟨_, rfl⟩
      have hq' : decide (ys = xs) = q := by rw [← hq]; exact decide_eq_decide.2 ⟨Eq.symm, Eq.symm⟩
      obtain ⟨n, hn⟩ : ∃ n, n = (xs.take 400).length := ⟨_, rfl⟩
      have HN := Lib.hid hn
      clear hn
      have HZ := Lib.hid (othersN_zero xs a1)
      have T4 := Lib.hid (take_400 xs)
      have HQ := Lib.hid hq
      have HQ' := Lib.hid hq'
      clear b4 h1 h2 hq hq'
      go_wp2_with fail
      refine (same_of _ _ xs ys q w1 g1 g2 HQ.out).mono ?_
      rintro e w2 ⟨rfl, hsm⟩
      have g1' := hsm.sl g1
      have g2' := hsm.sl g2
      have B2 := Lib.hid (HB.out.trans (hsm.below _))
      clear g1 g2 HB hsm
      go_wp2_with fail
      refine (equal_of _ _ xs ys w2 q g1' g2' a1 a2 HQ.out).mono ?_
      rintro e w3 ⟨rfl, rfl⟩
      go_wp2_with fail
      refine (equal_of _ _ ys xs w2 q g2' g1' a2 a1 HQ'.out).mono ?_
      rintro e w3 ⟨rfl, rfl⟩
      go_wp2_with fail
      refine (row_any _ xs n w2 g1' HN.out).mono ?_
      rintro e w3 ⟨ao3, c3, rfl, hown, hbel⟩
      have g1'' := g1'.below hbel (Nat.le_refl _)
      have g3 := Sl.of_owns hown
      have B3 := Lib.hid (below_thn B2.out hbel (Nat.le_refl _))
      clear g1' g2' hbel hown B2
      go_wp2_with fail
      refine (equal_of _ _ xs (xs.take 400) w3 _ g1'' g3 a1 (fun c hc => a1 c (List.mem_of_mem_take hc)) T4.out).mono ?_
      rintro e w4 ⟨rfl, rfl⟩
      go_wp2_with fail
      refine (zero_of _ xs w3 _ g1'' HZ.out).mono ?_
      rintro e w4 ⟨rfl, rfl⟩
      go_wp2
      go_ret
      exact ⟨rfl, B3.out⟩
end Go.Proofs.Ytpchiokeckaacaa
