/-
  The reference's Digits, walked. Conditions: numbers below 512.
-/
import Derived.Test.YtkbhehnpgnilmaaRoot
namespace Go.Proofs.Ytkbhehnpgnilmaa
open Go Go.RowKit

def pwF (cube : Bool) (x : Nat) : Nat := if cube then x * x * x else x * x

/-- the digits found behind k rounds -/
def dF (M : Nat) (cube : Bool) : Nat → Nat
  | 0 => 0
  | k + 1 => if pwF cube (dF M cube k + 2 ^ (36 - k)) ≤ M then dF M cube k + 2 ^ (36 - k) else dF M cube k

def bitN (k : Nat) : Nat := if k < 37 then 2 ^ (36 - k) else 0

theorem bitN_half : ∀ k : Fin 37, bitN k.val / 2 = bitN (k.val + 1) := by decide

theorem dF_bound (M : Nat) (cube : Bool) : ∀ k, k ≤ 37 → dF M cube k + 2 ^ (37 - k) ≤ 2 ^ 37
  | 0, _ => by simp [dF]
  | k + 1, h => by
    have ih := dF_bound M cube k (by omega)
    rw [show 37 - k = (36 - k) + 1 by omega, Nat.pow_succ] at ih
    rw [show 37 - (k + 1) = 36 - k by omega]
    unfold dF
    split <;> omega

theorem cube_split (x : Nat) : x * x / 18446744073709551616 * x + x * x % 18446744073709551616 * x / 18446744073709551616 = x * x * x / 18446744073709551616 ∧ x * x % 18446744073709551616 * x % 18446744073709551616 = x * x * x % 18446744073709551616 := by
  have e : x * x * x = x * x % 18446744073709551616 * x + 18446744073709551616 * (x * x / 18446744073709551616 * x) := by
    have := Nat.div_add_mod (x * x) 18446744073709551616
    have h2 : x * x * x = (18446744073709551616 * (x * x / 18446744073709551616) + x * x % 18446744073709551616) * x := by rw [this]
    rw [h2, Nat.add_mul, Nat.add_comm, Nat.mul_assoc]
  constructor
  · rw [e, Nat.add_mul_div_left _ _ (by omega), Nat.add_comm]
  · rw [e, Nat.add_mul_mod_self_left]

set_option maxRecDepth 100000 in
set_option maxHeartbeats 2000000 in
theorem digits_any (p y : Nat) (cube : Bool) (M : Nat) (w : World) (hp : p < 512) (hM : M = (if cube then p * 4294967296 else p) * 18446744073709551616) (hy : dF M cube 37 % 4294967296 = y) :
    Calls Try.prog 44 #[.int .u64 (p : Int), .bool cube] w (fun e w' => e = .returned (.int .u32 (y : Int)) ∧ w' = w) := by
  have H := Lib.hid (And.intro hM hy)
  have HBH := Lib.hid bitN_half
  have hb0 : bitN 0 = 68719476736 := by decide
  have HB0 := Lib.hid hb0
  clear hM hy hb0
  go_enter Try.func44, Try.ntmps44
  go_wp2_with fail
  go_loop [5, 6] (fun r b => ∃ k d bit : Nat, k ≤ 37 ∧ r = .int .u64 (d : Int) ∧ b = .int .u64 (bit : Int) ∧ Hid (d = dF M cube k ∧ bit = bitN k)) (fun _ b => (intOf b).toNat)
  case atStart => exact ⟨0, 0, 68719476736, by omega, rfl, rfl, Lib.hid ⟨rfl, HB0.out.symm⟩⟩
  case round =>
    obtain ⟨k, d, bit, hk, rfl, rfl, HD⟩ := hrel
    by_cases hlt : k < 37
    · have hbd := dF_bound M cube k (by omega)
      have hbe : bitN k = 2 ^ (36 - k) := by unfold bitN; rw [if_pos hlt]
      have hpos : 0 < 2 ^ (36 - k) := Nat.pow_pos (by omega)
      rw [show 37 - k = (36 - k) + 1 by omega, Nat.pow_succ, ← hbe, ← HD.out.1, ← HD.out.2] at hbd
      rw [← hbe, ← HD.out.2] at hpos
      have hbd2 : d + bit < 137438953472 := by omega
      obtain ⟨x, hx⟩ : ∃ x, x = d + bit := ⟨_, rfl⟩
      have hxx : (d : Int) + (bit : Int) = (x : Int) := by omega
      have hwx : IntKind.u64.wrap (x : Int) = (x : Int) := by rw [IntKind.wrap_u64]; omega
      obtain ⟨hi, hhi⟩ : ∃ h, h = x * x / 18446744073709551616 := ⟨_, rfl⟩
      obtain ⟨lo, hlo⟩ : ∃ h, h = x * x % 18446744073709551616 := ⟨_, rfl⟩
      have hlo2 : lo < 18446744073709551616 := by rw [hlo]; exact Nat.mod_lt _ (by omega)
      obtain ⟨hb2, hhb⟩ : ∃ h, h = bit / 2 := ⟨_, rfl⟩
      have hq : Int.tdiv (bit : Int) 2 = (hb2 : Int) := by rw [hhb]; exact (Int.ofNat_tdiv bit 2).symm
      have hq3 : (bit : Int) / 2 = (hb2 : Int) := by omega
      have hwb : IntKind.u64.wrap (hb2 : Int) = (hb2 : Int) := by rw [IntKind.wrap_u64]; omega
      have hbit0 : (0 : Int) < (bit : Int) := by omega
      have hb2l : hb2 < bit := by omega
      have HNB := Lib.hid (show hb2 = bitN (k + 1) by rw [hhb, HD.out.2]; exact HBH.out ⟨k, hlt⟩)
      have HND := Lib.hid (show dF M cube (k + 1) = if pwF cube x ≤ M then x else d by rw [hx, HD.out.1, HD.out.2, hbe]; rfl)
      have hx1 : x < 137438953472 := by omega
      have T1 := Lib.hid (mul64_any x x hi lo w (by omega) (by omega) hhi.symm hlo.symm)
      cases cube
      · have hN : pwF false x = hi * 18446744073709551616 + lo := by
          have := Nat.div_add_mod (x * x) 18446744073709551616
          rw [← hhi, ← hlo] at this
          unfold pwF; simp; omega
        have hM2 : M = p * 18446744073709551616 := by rw [H.out.1]; rfl
        have HC := Lib.hid (show pwF false x ≤ M ↔ (hi < p ∨ (hi = p ∧ lo = 0)) by rw [hN, hM2]; omega)
        clear hN hM2 hhi hlo hx hbd hbe hhb hpos hbd2
        go_wp2_with fail
        refine T1.out.mono ?_
        rintro e w2 ⟨rfl, rfl⟩
        by_cases hA : hi < p
        · have hA1 : (hi : Int) < (p : Int) := by omega
          go_wp2_with fail
          go_round
          case rel => exact ⟨k + 1, x, hb2, by omega, by go_num, by go_num, Lib.hid ⟨by rw [HND.out, if_pos (HC.out.2 (by omega))], HNB.out⟩⟩
          case measure => simp [intOf]; omega
        · have hA1 : decide ((hi : Int) < (p : Int)) = false := by simp; omega
          by_cases hB : hi = p
          · have hB1 : ((hi : Int) == (p : Int)) = true := by simp [hB]
            by_cases hC : lo = 0
            · have hC1 : ((lo : Int) == 0) = true := by simp [hC]
              go_wp2_with fail
              go_round
              case rel => exact ⟨k + 1, x, hb2, by omega, by go_num, by go_num, Lib.hid ⟨by rw [HND.out, if_pos (HC.out.2 (by omega))], HNB.out⟩⟩
              case measure => simp [intOf]; omega
            · have hC1 : ((lo : Int) == 0) = false := by simp [hC]
              go_wp2_with fail
              go_round
              case rel => exact ⟨k + 1, d, hb2, by omega, by go_num, by go_num, Lib.hid ⟨by rw [HND.out, if_neg (fun h => absurd (HC.out.1 h) (by omega))], HNB.out⟩⟩
              case measure => simp [intOf]; omega
          · have hB1 : ((hi : Int) == (p : Int)) = false := by simp; omega
            go_wp2_with fail
            go_round
            case rel => exact ⟨k + 1, d, hb2, by omega, by go_num, by go_num, Lib.hid ⟨by rw [HND.out, if_neg (fun h => absurd (HC.out.1 h) (by omega))], HNB.out⟩⟩
            case measure => simp [intOf]; omega
      · obtain ⟨h3, hh3⟩ : ∃ h, h = x * x * x / 18446744073709551616 := ⟨_, rfl⟩
        obtain ⟨l3, hl3⟩ : ∃ h, h = x * x * x % 18446744073709551616 := ⟨_, rfl⟩
        obtain ⟨ca, hca⟩ : ∃ h, h = lo * x / 18446744073709551616 := ⟨_, rfl⟩
        have hsp := cube_split x
        rw [← hh3, ← hl3, ← hhi, ← hlo, ← hca] at hsp
        have hN : pwF true x = h3 * 18446744073709551616 + l3 := by
          have := Nat.div_add_mod (x * x * x) 18446744073709551616
          rw [← hh3, ← hl3] at this
          unfold pwF; simp; omega
        obtain ⟨mo, hmo⟩ : ∃ h, h = p * 4294967296 := ⟨_, rfl⟩
        have hM2 : M = mo * 18446744073709551616 := by rw [H.out.1, hmo]; rfl
        have HC := Lib.hid (show pwF true x ≤ M ↔ (h3 < mo ∨ (h3 = mo ∧ l3 = 0)) by rw [hN, hM2]; have : l3 < 18446744073709551616 := by rw [hl3]; exact Nat.mod_lt _ (by omega)
                                                                                    omega)
        have hhi1 : hi < 1024 := by
          rw [hhi]
          exact Nat.div_lt_of_lt_mul (Nat.lt_of_lt_of_le (Nat.mul_lt_mul_of_lt_of_le hx1 (Nat.le_of_lt hx1) (by omega)) (by decide))
        obtain ⟨hm, hhm⟩ : ∃ h, h = hi * x := ⟨_, rfl⟩
        have hhm1 : hm ≤ 1024 * 137438953472 := by rw [hhm]; exact Nat.mul_le_mul (Nat.le_of_lt hhi1) (Nat.le_of_lt hx1)
        have hca1 : ca < 137438953472 := by
          rw [hca]
          exact Nat.div_lt_of_lt_mul (Nat.mul_lt_mul_of_lt_of_le hlo2 (Nat.le_of_lt hx1) (by omega))
        have hmul : (hi : Int) * (x : Int) = (hm : Int) := by rw [hhm]; exact (Int.natCast_mul hi x).symm
        have hwm : IntKind.u64.wrap (hm : Int) = (hm : Int) := by rw [IntKind.wrap_u64]; omega
        have hsum : (hm : Int) + (ca : Int) = (h3 : Int) := by have := hsp.1; rw [← hhm] at this; omega
        have hws : IntKind.u64.wrap (h3 : Int) = (h3 : Int) := by rw [IntKind.wrap_u64]; omega
        have hmoi : (p : Int) * 4294967296 = (mo : Int) := by omega
        have hwmo : IntKind.u64.wrap (mo : Int) = (mo : Int) := by rw [IntKind.wrap_u64]; omega
        have T2 := Lib.hid (mul64_any lo x ca l3 w hlo2 (by omega) hca.symm hsp.2)
        clear hN hM2 hhi hlo hx hbd hbe hhb hpos hbd2 hh3 hl3 hca hsp hhm hmo
        go_wp2_with fail
        refine T1.out.mono ?_
        rintro e w2 ⟨rfl, rfl⟩
        go_wp2_with fail
        refine T2.out.mono ?_
        rintro e w2 ⟨rfl, rfl⟩
        by_cases hA : h3 < mo
        · have hA1 : (h3 : Int) < (mo : Int) := by omega
          go_wp2_with fail
          go_round
          case rel => exact ⟨k + 1, x, hb2, by omega, by go_num, by go_num, Lib.hid ⟨by rw [HND.out, if_pos (HC.out.2 (by omega))], HNB.out⟩⟩
          case measure => simp [intOf]; omega
        · have hA1 : decide ((h3 : Int) < (mo : Int)) = false := by simp; omega
          by_cases hB : h3 = mo
          · have hB1 : ((h3 : Int) == (mo : Int)) = true := by simp [hB]
            by_cases hC : l3 = 0
            · have hC1 : ((l3 : Int) == 0) = true := by simp [hC]
              go_wp2_with fail
              go_round
              case rel => exact ⟨k + 1, x, hb2, by omega, by go_num, by go_num, Lib.hid ⟨by rw [HND.out, if_pos (HC.out.2 (by omega))], HNB.out⟩⟩
              case measure => simp [intOf]; omega
            · have hC1 : ((l3 : Int) == 0) = false := by simp [hC]
              go_wp2_with fail
              go_round
              case rel => exact ⟨k + 1, d, hb2, by omega, by go_num, by go_num, Lib.hid ⟨by rw [HND.out, if_neg (fun h => absurd (HC.out.1 h) (by omega))], HNB.out⟩⟩
              case measure => simp [intOf]; omega
          · have hB1 : ((h3 : Int) == (mo : Int)) = false := by simp; omega
            go_wp2_with fail
            go_round
            case rel => exact ⟨k + 1, d, hb2, by omega, by go_num, by go_num, Lib.hid ⟨by rw [HND.out, if_neg (fun h => absurd (HC.out.1 h) (by omega))], HNB.out⟩⟩
            case measure => simp [intOf]; omega
    · obtain rfl : k = 37 := by omega
      have hb : bit = 0 := by rw [HD.out.2]; rfl
      subst hb
      have HY := Lib.hid (show d % 4294967296 = y by rw [HD.out.1]; exact H.out.2)
      have hwd : IntKind.u32.wrap (d : Int) = (y : Int) := by rw [IntKind.wrap_u32]; have := HY.out; omega
      go_wp2_with fail
      go_ret
      exact ⟨rfl, rfl⟩

end Go.Proofs.Ytkbhehnpgnilmaa
