/-
  OctetOrders, walked. Conditions: the numbers fit their kind.
-/
import Derived.Test.YtpchiokeckaacaaWakes
import Derived.Test.YtpchiokeckaacaaCmp
namespace Go.Proofs.Ytpchiokeckaacaa
open Go Go.RowKit

theorem order_of (x y o : Int) (w : World) (h : ordI x y = o) : Calls Try.prog 18 #[.int .u64 x, .int .u64 y] w (fun e w' => e = .returned (.int .i64 o) ∧ w = w') := by
  subst h
  by_cases h1 : x < y
  · have ho : Hid (ordI x y = -1) := Lib.hid (by unfold ordI; rw [if_pos h1])
    go_enter Try.func18, Try.ntmps18
    go_wp2
    go_ret
    exact ⟨by rw [ho.out]; rfl, rfl⟩
  · by_cases h2 : y < x
    · have ho : Hid (ordI x y = 1) := Lib.hid (by unfold ordI; rw [if_neg h1, if_pos h2])
      go_enter Try.func18, Try.ntmps18
      go_wp2
      go_ret
      exact ⟨by rw [ho.out]; rfl, rfl⟩
    · have ho : Hid (ordI x y = 0) := Lib.hid (by unfold ordI; rw [if_neg h1, if_neg h2])
      go_enter Try.func18, Try.ntmps18
      go_wp2
      go_ret
      exact ⟨by rw [ho.out]; rfl, rfl⟩

set_option maxRecDepth 100000 in
set_option maxHeartbeats 1000000 in
theorem octetOrders_walk (x y : Int) (w : World) (hx : 0 ≤ x ∧ x ≤ 18446744073709551615) (hy : 0 ≤ y ∧ y ≤ 18446744073709551615) :
    Calls Try.prog 5 #[.int .u64 x, .int .u64 y] w (TrueP w) := by
  obtain ⟨o64, q64⟩ : ∃ o, ordI x y = o := ⟨_, rfl⟩
  obtain ⟨o32, q32⟩ : ∃ o, ordI (x % 4294967296) (y % 4294967296) = o := ⟨_, rfl⟩
  obtain ⟨o16, q16⟩ : ∃ o, ordI (x % 65536) (y % 65536) = o := ⟨_, rfl⟩
  have c64 := Lib.hid ((cmp_be 8 (beF_8 x hx) (beF_8 y hy)).trans q64)
  have c32 := Lib.hid ((cmp_be 4 (beF_4 (x % 4294967296) (by omega)) (beF_4 (y % 4294967296) (by omega))).trans q32)
  have c16 := Lib.hid ((cmp_be 2 (beF_2 (x % 65536) (by omega)) (beF_2 (y % 65536) (by omega))).trans q16)
  have Q64 := Lib.hid q64
  have Q32 := Lib.hid q32
  have Q16 := Lib.hid q16
  have x0 : 0 ≤ x := hx.1
  have y0 : 0 ≤ y := hy.1
  clear hx hy q64 q32 q16
  go_enter Try.func5, Try.ntmps5
  go_wp2_with fail
  refine (wakes_any w).mono ?_
  rintro e w1 ⟨rfl, B1'⟩
  have B1 := Lib.hid B1'
  clear B1'
  go_wp2_with fail
  refine (put64_of _ [] x (beF x 8) 8 w1 (Sl.nil _) (by simp) x0 rfl rfl).mono ?_
  rintro e w2 ⟨ao, c, rfl, hown, hbel⟩
  have B2 := Lib.hid (below_thn B1.out hbel (Nat.le_refl _))
  have s1 := Lib.hid (Sl.of_owns hown)
  clear hown hbel B1
  go_wp2_with fail
  refine (put64_of _ [] y (beF y 8) 8 w2 (Sl.nil _) (by simp) y0 rfl rfl).mono ?_
  rintro e w3 ⟨ao', c', rfl, hown, hbel⟩
  have B3 := Lib.hid (below_thn B2.out hbel (Nat.le_refl _))
  have s2 := Lib.hid (Sl.of_owns hown)
  have s1' := Lib.hid (s1.out.below hbel (Nat.le_refl _))
  clear hown hbel B2 s1
  go_wp2_with fail
  refine (compare_of _ _ _ _ o64 w3 s1'.out s2.out c64.out).mono ?_
  rintro e w4 ⟨rfl, rfl⟩
  clear s1' s2
  go_wp2_with fail
  refine (put32_of _ [] (x % 4294967296) (beF (x % 4294967296) 4) 4 w3 (Sl.nil _) (by simp) (by omega) rfl rfl).mono ?_
  rintro e w4 ⟨ao, c, rfl, hown, hbel⟩
  have B4 := Lib.hid (below_thn B3.out hbel (Nat.le_refl _))
  have s1 := Lib.hid (Sl.of_owns hown)
  clear hown hbel B3
  go_wp2_with fail
  refine (put32_of _ [] (y % 4294967296) (beF (y % 4294967296) 4) 4 w4 (Sl.nil _) (by simp) (by omega) rfl rfl).mono ?_
  rintro e w5 ⟨ao', c', rfl, hown, hbel⟩
  have B5 := Lib.hid (below_thn B4.out hbel (Nat.le_refl _))
  have s2 := Lib.hid (Sl.of_owns hown)
  have s1' := Lib.hid (s1.out.below hbel (Nat.le_refl _))
  clear hown hbel B4 s1
  go_wp2_with fail
  refine (compare_of _ _ _ _ o32 w5 s1'.out s2.out c32.out).mono ?_
  rintro e w6 ⟨rfl, rfl⟩
  clear s1' s2
  go_wp2_with fail
  refine (put16_of _ [] (x % 65536) (beF (x % 65536) 2) 2 w5 (Sl.nil _) (by simp) (by omega) rfl rfl).mono ?_
  rintro e w6 ⟨ao, c, rfl, hown, hbel⟩
  have B6 := Lib.hid (below_thn B5.out hbel (Nat.le_refl _))
  have s1 := Lib.hid (Sl.of_owns hown)
  clear hown hbel B5
  go_wp2_with fail
  refine (put16_of _ [] (y % 65536) (beF (y % 65536) 2) 2 w6 (Sl.nil _) (by simp) (by omega) rfl rfl).mono ?_
  rintro e w7 ⟨ao', c', rfl, hown, hbel⟩
  have B7 := Lib.hid (below_thn B6.out hbel (Nat.le_refl _))
  have s2 := Lib.hid (Sl.of_owns hown)
  have s1' := Lib.hid (s1.out.below hbel (Nat.le_refl _))
  clear hown hbel B6 s1
  go_wp2_with fail
  refine (compare_of _ _ _ _ o16 w7 s1'.out s2.out c16.out).mono ?_
  rintro e w8 ⟨rfl, rfl⟩
  clear s1' s2
  go_wp2_with fail
  refine (order_of x y o64 w7 Q64.out).mono ?_
  rintro e w8 ⟨rfl, rfl⟩
  go_wp2_with fail
  refine (order_of _ _ o32 w7 Q32.out).mono ?_
  rintro e w8 ⟨rfl, rfl⟩
  go_wp2_with fail
  refine (order_of _ _ o16 w7 Q16.out).mono ?_
  rintro e w8 ⟨rfl, rfl⟩
  go_wp2
  go_ret
  exact ⟨rfl, B7.out⟩
end Go.Proofs.Ytpchiokeckaacaa
