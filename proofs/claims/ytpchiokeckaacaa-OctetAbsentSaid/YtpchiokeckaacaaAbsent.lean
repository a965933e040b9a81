/-
  OctetAbsent, walked: off a Reader that is not there nothing is taken. Conditions: none.
-/
import Derived.Test.YtpchiokeckaacaaWakes
namespace Go.Proofs.Ytpchiokeckaacaa
open Go Go.RowKit

set_option maxRecDepth 100000 in
set_option maxHeartbeats 1000000 in
theorem octetAbsent_walk (n : Int) (w : World) (_hn : -9223372036854775808 ≤ n ∧ n ≤ 9223372036854775807) : Calls Try.prog 6 #[.int .i64 n] w (TrueP w) := by
  clear _hn
  go_enter Try.func6, Try.ntmps6
  go_wp2_with fail
  refine (wakes_any w).mono ?_
  rintro e w1 ⟨rfl, B1⟩
  go_wp2_with fail
  refine (u8_nil w1).mono ?_
  rintro e w2 ⟨rfl, hb⟩
  have B2 := below_thn B1 hb (Nat.le_refl _)
  clear hb B1
  go_wp2_with fail
  refine (u16_nil w2).mono ?_
  rintro e w3 ⟨rfl, hb⟩
  have B3 := below_thn B2 hb (Nat.le_refl _)
  clear hb B2
  go_wp2_with fail
  refine (u32_nil w3).mono ?_
  rintro e w4 ⟨rfl, hb⟩
  have B4 := below_thn B3 hb (Nat.le_refl _)
  clear hb B3
  go_wp2_with fail
  refine (u64_nil w4).mono ?_
  rintro e w5 ⟨rfl, hb⟩
  have B5 := below_thn B4 hb (Nat.le_refl _)
  clear hb B4
  go_wp2_with fail
  refine (raw_nil n w5).mono ?_
  rintro e w6 ⟨rfl, hb⟩
  have B6 := below_thn B5 hb (Nat.le_refl _)
  clear hb B5
  go_wp2_with fail
  refine (left_nil w6).mono ?_
  rintro e w7 ⟨rfl, rfl⟩
  go_wp2_with fail
  refine (err_nil w6).mono ?_
  rintro e w7 ⟨rfl, rfl⟩
  go_wp2
  go_ret
  exact ⟨rfl, B6⟩
end Go.Proofs.Ytpchiokeckaacaa
