/-
  Slices of ints: BinarySearch, walked. Conditions: the slice rises; lengths within the form's reach.
-/
import Derived.Test.YtampheimonmggaaPmC
import Derived.Lib.SlicesSearch
namespace Go.Proofs.Ytampheimonmggaa
open Go Go.RowKit
set_option linter.unusedSimpArgs false

theorem nanc_any (x : Int) (w : World) : Calls Try.prog 60 #[.int .i64 x] w (fun e w' => e = .returned (.bool false) ∧ w = w') := by
  go_enter Try.func60, Try.ntmps60
  go_wp2
  go_ret
  exact ⟨by simp, rfl⟩
theorem nans_any (x : Int) (w : World) : Calls Try.prog 57 #[.int .i64 x] w (fun e w' => e = .returned (.bool false) ∧ w = w') := by
  go_enter Try.func57, Try.ntmps57
  go_wp2
  go_ret
  exact ⟨by simp, rfl⟩
theorem cless_any (x y : Int) (w : World) : Calls Try.prog 56 #[.int .i64 x, .int .i64 y] w (fun e w' => e = .returned (.bool (decide (x < y))) ∧ w = w') := by
  go_enter Try.func56, Try.ntmps56
  go_wp2_with (go_at_call 60; refine (nanc_any _ _).mono ?_; rintro e w' ⟨rfl, rfl⟩)
  go_ret
  exact ⟨rfl, rfl⟩

/-- how many stand ahead of x -/
def lessN (l : List Int) (x : Int) : Nat := l.countP (· < x)

theorem search_at {l : List Int} (hs : l.Pairwise (· < ·)) : ∀ a b, a ≤ b → b < l.length → l.getD a 0 ≤ l.getD b 0 := fun a b hab hb => by
  rcases Nat.lt_or_ge a b with h | h
  · have := List.pairwise_iff_getElem.1 hs a b (by omega) hb h
    rw [getD_at hb, getD_at (by omega)]; omega
  · obtain rfl : a = b := by omega
    exact Int.le_refl _

theorem search_fin {l : List Int} {x : Int} (hs : l.Pairwise (· < ·)) (i : Nat) (hi : i ≤ l.length) (h1 : ∀ j, j < i → l.getD j 0 < x) (h2 : ∀ j, i ≤ j → j < l.length → x ≤ l.getD j 0) :
    lessN l x = i ∧ l.any (x == ·) = decide (i < l.length ∧ l.getD i 0 = x) := by
  have h := Lib.search_end l l.length i x (Nat.le_refl _) hi h1 h2 (search_at hs)
  rw [List.take_of_length_le (Nat.le_refl _)] at h
  refine ⟨h.1, ?_⟩
  rw [← h.2, List.contains_eq_any_beq]

set_option maxRecDepth 100000 in
set_option maxHeartbeats 4000000 in
theorem search_any (x : Int) (v : Value) (l : List Int) (w : World) (hv : Sl w v (ofK .i64 l)) (hs : l.Pairwise (· < ·)) (hl : l.length ≤ 1000000000) :
    Calls Try.prog 48 #[v, .int .i64 x] w (fun e w' => e = .returned (.tuple #[.int .i64 (lessN l x : Nat), .bool (l.any (x == ·))]) ∧ w = w') := by
  obtain ⟨ao, c, rfl, a2, a3, a4⟩ := hv.nums
  have H := Lib.hid (And.intro a4 (And.intro (search_at hs) (fun i => search_fin (x := x) hs i)))
  obtain ⟨n, hL⟩ : ∃ n, l.length = n := ⟨_, rfl⟩
  have HL := Lib.hid hL
  rw [hL] at a2 hl ⊢
  clear hv a4 hs hL
  go_enter Try.func48, Try.ntmps48
  go_wp2_with fail
  go_loop [7, 8, 9] (fun s7 s8 s9 => ∃ lo hi : Nat, s7 = .int .i64 lo ∧ s8 = .int .i64 hi ∧ lo ≤ hi ∧ hi ≤ n ∧ Hid ((∀ t, t < lo → l.getD t 0 < x) ∧ (∀ t, hi ≤ t → t < n → x ≤ l.getD t 0))) (fun s7 s8 _ => ((intOf s8) - (intOf s7)).toNat)
  case atStart => exact ⟨0, n, rfl, rfl, Nat.zero_le _, Nat.le_refl _, Lib.hid ⟨fun t ht => absurd ht (Nat.not_lt_zero _), fun t h1 h2 => by omega⟩⟩
  case round =>
    obtain ⟨lo, hi, rfl, rfl, hlh, hin, I⟩ := hrel
    by_cases hlt : lo < hi
    · obtain ⟨b, o, rfl, -, hcell⟩ := H.out.1 (by rw [HL.out]; omega)
      have hm : (lo + hi) / 2 < l.length := by rw [HL.out]; omega
      have cm := hcell ((lo + hi) / 2) hm
      have hy := getD_at hm
      generalize l[(lo + hi) / 2] = y at cm hy
      have Y := Lib.hid hy
      clear hcell hm hy
      by_cases hyx : y < x
      · go_wp2_with (go_at_call 56; refine (cless_any _ _ _).mono ?_; rintro e w' ⟨rfl, rfl⟩)
        go_round
        case measure => simp [intOf]; omega
        case rel =>
          refine ⟨(lo + hi) / 2 + 1, hi, by rw [show ((lo : Int) + (hi : Int)) / 2 + 1 = (((lo + hi) / 2 + 1 : Nat) : Int) by omega], rfl, by omega, hin, Lib.hid ⟨fun t ht => ?_, I.out.2⟩⟩
          have := H.out.2.1 t ((lo + hi) / 2) (by omega) (by rw [HL.out]; omega)
          rw [Y.out] at this
          omega
      · go_wp2_with (go_at_call 56; refine (cless_any _ _ _).mono ?_; rintro e w' ⟨rfl, rfl⟩)
        go_round
        case measure => simp [intOf]; omega
        case rel =>
          refine ⟨lo, (lo + hi) / 2, rfl, by rw [show ((lo : Int) + (hi : Int)) / 2 = (((lo + hi) / 2 : Nat) : Int) by omega], by omega, by omega, Lib.hid ⟨I.out.1, fun t ht htn => ?_⟩⟩
          have := H.out.2.1 ((lo + hi) / 2) t ht (by rw [HL.out]; exact htn)
          rw [Y.out] at this
          omega
    · obtain rfl : hi = lo := by omega
      have E := Lib.hid (H.out.2.2 hi (by rw [HL.out]; exact hin) I.out.1 (fun j h1 h2 => I.out.2 j h1 (by rw [← HL.out]; exact h2)))
      rw [HL.out] at E
      by_cases hn : hi < n
      · obtain ⟨b, o, rfl, -, hcell⟩ := H.out.1 (by rw [HL.out]; omega)
        have hm : hi < l.length := by rw [HL.out]; omega
        have cm := hcell hi hm
        have hy := getD_at hm
        generalize l[hi] = y at cm hy
        have Y := Lib.hid hy
        clear hcell hm hy
        by_cases hyx : y = x
        · go_wp2_with (first | (go_at_call 56; refine (cless_any _ _ _).mono ?_; rintro e w' ⟨rfl, rfl⟩) | (go_at_call 57; refine (nans_any _ _).mono ?_; rintro e w' ⟨rfl, rfl⟩))
          go_ret2
          refine ⟨?_, rfl⟩
          rw [E.out.1, E.out.2, Y.out, decide_eq_true (show hi < n ∧ y = x from ⟨hn, hyx⟩)]
          first | rfl | simp [*]
        · go_wp2_with (first | (go_at_call 56; refine (cless_any _ _ _).mono ?_; rintro e w' ⟨rfl, rfl⟩) | (go_at_call 57; refine (nans_any _ _).mono ?_; rintro e w' ⟨rfl, rfl⟩))
          go_ret2
          refine ⟨?_, rfl⟩
          rw [E.out.1, E.out.2, Y.out, decide_eq_false (show ¬ (hi < n ∧ y = x) from fun h => hyx h.2)]
          first | rfl | simp [*]
      · go_wp2_with (first | (go_at_call 56; refine (cless_any _ _ _).mono ?_; rintro e w' ⟨rfl, rfl⟩) | (go_at_call 57; refine (nans_any _ _).mono ?_; rintro e w' ⟨rfl, rfl⟩))
        go_ret2
        refine ⟨?_, rfl⟩
        rw [E.out.1, E.out.2, decide_eq_false (show ¬ (hi < n ∧ l.getD hi 0 = x) from fun h => hn h.1)]
        first | rfl | simp [*]

end Go.Proofs.Ytampheimonmggaa
