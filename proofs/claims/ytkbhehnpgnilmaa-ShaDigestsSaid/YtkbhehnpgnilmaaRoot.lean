/-
  The reference's Prime and Digits, walked. Conditions: fewer than 64 primes below.
-/
import Derived.Test.YtkbhehnpgnilmaaMul
import Derived.Test.YtkbhehnpgnilmaaShaN
namespace Go.Proofs.Ytkbhehnpgnilmaa
open Go Go.RowKit

/-- the first 64 primes -/
def P64 : List Nat := [2, 3, 5, 7, 11, 13, 17, 19, 23, 29, 31, 37, 41, 43, 47, 53, 59, 61, 67, 71, 73, 79, 83, 89, 97, 101, 103, 107, 109, 113, 127, 131, 137, 139, 149, 151, 157, 163, 167, 173, 179, 181, 191, 193, 197, 199, 211, 223, 227, 229, 233, 239, 241, 251, 257, 263, 269, 271, 277, 281, 283, 293, 307, 311]

/-- primes below n, of these -/
def cntP (n : Nat) : Nat := (P64.filter fun p => p < n).length

/-- no number up to the root divides it -/
def soleP (n : Nat) : Bool := (List.range 18).all fun e => e < 2 || n < e * e || n % e != 0

theorem prime_table : ∀ n : Fin 312, 2 ≤ n.val → (soleP n.val = true → cntP (n.val + 1) = cntP n.val + 1 ∧ P64.getD (cntP n.val) 0 = n.val) ∧ (soleP n.val = false → cntP (n.val + 1) = cntP n.val) := by decide +kernel

theorem cntP_312 : cntP 312 = 64 := by decide +kernel

theorem soleP_iff (n d : Nat) (hn : n < 312) (hd : n < d * d) (hs : ∀ e, e < d → e * e ≤ n) : soleP n = true ↔ ¬ ∃ e, 2 ≤ e ∧ e < d ∧ n % e = 0 := by
  unfold soleP
  rw [List.all_eq_true]
  constructor
  · rintro h ⟨e, h2, hed, hm⟩
    have hee := hs e hed
    have he : e < 18 := by
      rcases Nat.lt_or_ge e 18 with h | h
      · exact h
      · have := Nat.mul_le_mul h h; omega
    have := h e (List.mem_range.2 he)
    simp only [Bool.or_eq_true, decide_eq_true_eq, bne_iff_ne, ne_eq] at this
    omega
  · intro h e he
    simp only [Bool.or_eq_true, decide_eq_true_eq, bne_iff_ne, ne_eq]
    rcases Nat.lt_or_ge e 2 with h2 | h2
    · exact .inl (.inl h2)
    · rcases Nat.lt_or_ge n (e * e) with h3 | h3
      · exact .inl (.inr h3)
      · refine .inr fun hm => h ⟨e, h2, ?_, hm⟩
        rcases Nat.lt_or_ge e d with h4 | h4
        · exact h4
        · have := Nat.mul_le_mul h4 h4; omega

set_option maxRecDepth 100000 in
set_option maxHeartbeats 2000000 in
theorem prime_any (i p : Nat) (w : World) (hi : i < 64) (hp : P64.getD i 0 = p) :
    Calls Try.prog 45 #[.int .i64 (i : Int)] w (fun e w' => e = .returned (.int .u64 (p : Int)) ∧ w' = w) := by
  have HP := Lib.hid (And.intro hi hp)
  have HT := Lib.hid prime_table
  have HC := Lib.hid cntP_312
  clear hp
  go_enter Try.func45, Try.ntmps45
  go_wp2_with fail
  go_loop [0, 3] (fun b n => ∃ r m : Nat, b = .int .i64 (r : Int) ∧ n = .int .u64 (m : Int) ∧ 2 ≤ m ∧ m < 312 ∧ Hid (r + cntP m = i)) (fun _ n => 312 - (intOf n).toNat)
  case atStart =>
    have h2 : cntP 2 = 0 := by decide +kernel
    exact ⟨i, 2, rfl, rfl, by omega, by omega, Lib.hid (by rw [h2]; omega)⟩
  case round =>
    obtain ⟨r, m, rfl, rfl, hm2, hm3, HR⟩ := hrel
    have HM := Lib.hid (HT.out ⟨m, hm3⟩ hm2)
    go_wp2_with fail
    go_loop [4, 5] (fun q d => ∃ c e : Nat, q = .int .i64 (c : Int) ∧ d = .int .u64 (e : Int) ∧ 2 ≤ e ∧ e ≤ 18 ∧ c ≤ e ∧ Hid ((0 < c ↔ ∃ e', 2 ≤ e' ∧ e' < e ∧ m % e' = 0) ∧ ∀ e', e' < e → e' * e' ≤ m)) (fun _ d => 400 - (intOf d).toNat)
    case atStart => exact ⟨0, 2, rfl, rfl, by omega, by omega, by omega, Lib.hid ⟨⟨fun h => absurd h (by omega), fun ⟨e, h1, h2, _⟩ => by omega⟩, fun e h => by
      have : e = 0 ∨ e = 1 := by omega
      rcases this with rfl | rfl <;> omega⟩⟩
    case round =>
      obtain ⟨c, e, rfl, rfl, he2, he18, hce, HE⟩ := hrel
      obtain ⟨q, hq⟩ : ∃ q, q = e * e := ⟨_, rfl⟩
      have hq4 : q ≤ 324 := by rw [hq]; exact Nat.mul_le_mul he18 he18
      have hmul : (e : Int) * (e : Int) = (q : Int) := by rw [hq]; exact (Int.natCast_mul e e).symm
      have hwq : IntKind.u64.wrap (q : Int) = (q : Int) := by rw [IntKind.wrap_u64]; omega
      have HQ := Lib.hid hq
      clear hq
      by_cases hle : q ≤ m
      · have he17 : e ≤ 17 := by
          rcases Nat.lt_or_ge e 18 with h | h
          · omega
          · have := Nat.mul_le_mul h h; have := HQ.out; omega
        have hqm : (q : Int) ≤ (m : Int) := by omega
        obtain ⟨z, hz⟩ : ∃ z, z = m % e := ⟨_, rfl⟩
        have htm : Int.tmod (m : Int) (e : Int) = (z : Int) := by rw [hz]; exact (Int.ofNat_tmod m e).symm
        have htm2 : (m : Int) % (e : Int) = (z : Int) := by rw [hz]; exact (Int.natCast_emod m e).symm
        have hz3 : z < e := by rw [hz]; exact Nat.mod_lt _ (by omega)
        have hwz : IntKind.u64.wrap (z : Int) = (z : Int) := by rw [IntKind.wrap_u64]; omega
        have he0 : (e : Int) ≠ 0 := by omega
        have hws : IntKind.u64.wrap ((e : Int) + 1) = (e : Int) + 1 := by rw [IntKind.wrap_u64]; omega
        have hsq : ∀ e', e' < e + 1 → e' * e' ≤ m := fun e' h => by
          rcases Nat.lt_or_ge e' e with h1 | h1
          · exact HE.out.2 e' h1
          · obtain rfl : e' = e := by omega
            rw [← HQ.out]; exact hle
        have HSQ := Lib.hid hsq
        by_cases h0 : z = 0
        · have HN := Lib.hid (show 0 < c + 1 ↔ ∃ e', 2 ≤ e' ∧ e' < e + 1 ∧ m % e' = 0 from ⟨fun _ => ⟨e, he2, by omega, by rw [← hz, h0]⟩, fun _ => by omega⟩)
          have hb : ((z : Int) == 0) = true := by simp [h0]
          have hwc : IntKind.i64.wrap ((c : Int) + 1) = (c : Int) + 1 := IntWalk.i64_in _ (by omega)
          clear hz hsq h0
          go_wp2_with fail
          go_round
          case rel => exact ⟨c + 1, e + 1, by go_num, by go_num, by omega, by omega, by omega, Lib.hid ⟨HN.out, HSQ.out⟩⟩
          case measure => simp [intOf]; omega
        · have HN := Lib.hid (show 0 < c ↔ ∃ e', 2 ≤ e' ∧ e' < e + 1 ∧ m % e' = 0 from by
            rw [HE.out.1]
            constructor
            · rintro ⟨e', h1, h2, h3⟩; exact ⟨e', h1, by omega, h3⟩
            · rintro ⟨e', h1, h2, h3⟩
              rcases Nat.lt_or_ge e' e with h4 | h4
              · exact ⟨e', h1, h4, h3⟩
              · obtain rfl : e' = e := by omega
                omega)
          have hb : ((z : Int) == 0) = false := by simp [h0]
          clear hz hsq h0
          go_wp2_with fail
          go_round
          case rel => exact ⟨c, e + 1, rfl, by go_num, by omega, by omega, by omega, Lib.hid ⟨HN.out, HSQ.out⟩⟩
          case measure => simp [intOf]; omega
      · have hd : decide ((q : Int) ≤ (m : Int)) = false := by simp; omega
        have hso := soleP_iff m e hm3 (by rw [← HQ.out]; omega) HE.out.2
        have h312 : ∀ n, cntP n < 64 → n ≠ 312 := fun n h e => by rw [e, HC.out] at h; omega
        have hwm : IntKind.u64.wrap ((m : Int) + 1) = (m : Int) + 1 := by rw [IntKind.wrap_u64]; omega
        by_cases hc : 0 < c
        · have hf : soleP m = false := by
            cases h : soleP m
            · rfl
            · exact absurd (HE.out.1.1 hc) (hso.1 h)
          have hcn := HM.out.2 hf
          have hn312 := h312 (m + 1) (by have := HR.out; omega)
          have HN := Lib.hid (show r + cntP (m + 1) = i by have := HR.out; omega)
          have hc2 : (0 : Int) < (c : Int) := by omega
          clear hso h312 hf hcn
          go_wp2_with fail
          go_round
          case rel => exact ⟨r, m + 1, rfl, by go_num, by omega, by omega, HN⟩
          case measure => simp [intOf]; omega
        · obtain rfl : c = 0 := by omega
          have ht : soleP m = true := by
            rw [hso, ← HE.out.1]; omega
          have hcn := HM.out.1 ht
          rcases r with _ | r
          · have HF := Lib.hid (show p = m by rw [← HP.out.2, ← hcn.2]; have := HR.out; rw [show cntP m = i by omega])
            clear hso h312 ht hcn
            go_wp2_with fail
            go_ret
            exact ⟨by rw [HF.out]; rfl, rfl⟩
          · have hn312 := h312 (m + 1) (by have := HR.out; omega)
            have HN := Lib.hid (show r + cntP (m + 1) = i by have := HR.out; omega)
            have hr64 : r < 64 := by have := HR.out; omega
            have hwr : IntKind.i64.wrap (r : Int) = (r : Int) := IntWalk.i64_in _ (by omega)
            clear hso h312 ht hcn
            go_wp2_with fail
            go_round
            case rel => exact ⟨r, m + 1, by go_num, by go_num, by omega, by omega, HN⟩
            case measure => simp [intOf]; omega

end Go.Proofs.Ytkbhehnpgnilmaa
