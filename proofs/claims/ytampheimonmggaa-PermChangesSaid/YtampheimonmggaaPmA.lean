/-
  Package perm: user, group, rising, walked; slices of ints searched. Conditions: none.
-/
import Derived.Test.YtampheimonmggaaProg
import Derived.Test.YtampheimonmggaaLib
import Derived.Test.YtampheimonmggaaQt
import Derived.BigQuiet
import Derived.Deep.QuietTactic
namespace Go.Proofs.Ytampheimonmggaa
open Go Go.RowKit
set_option linter.unusedSimpArgs false

def userB (n : Int) : Bool := decide (1 ≤ n) && decide (n ≤ 6)
def groupB (n : Int) : Bool := decide (1 ≤ n) && decide (n ≤ 3)

theorem user_any (n : Int) (w : World) : Calls Try.prog 26 #[.int .i64 n] w (fun e w' => e = .returned (.bool (userB n)) ∧ w = w') := by
  by_cases h1 : 1 ≤ n
  · by_cases h2 : n ≤ 6
    · have HU := Lib.hid (show userB n = true by simp [userB, h1, h2])
      rw [HU.out]
      go_enter Try.func26, Try.ntmps26
      go_wp2
      go_ret
      exact ⟨rfl, rfl⟩
    · have HU := Lib.hid (show userB n = false by simp [userB, h2])
      rw [HU.out]
      go_enter Try.func26, Try.ntmps26
      go_wp2
      go_ret
      exact ⟨rfl, rfl⟩
  · have HU := Lib.hid (show userB n = false by simp [userB, h1])
    rw [HU.out]
    go_enter Try.func26, Try.ntmps26
    go_wp2
    go_ret
    exact ⟨rfl, rfl⟩

theorem group_any (n : Int) (w : World) : Calls Try.prog 31 #[.int .i64 n] w (fun e w' => e = .returned (.bool (groupB n)) ∧ w = w') := by
  by_cases h1 : 1 ≤ n
  · by_cases h2 : n ≤ 3
    · have HU := Lib.hid (show groupB n = true by simp [groupB, h1, h2])
      rw [HU.out]
      go_enter Try.func31, Try.ntmps31
      go_wp2
      go_ret
      exact ⟨rfl, rfl⟩
    · have HU := Lib.hid (show groupB n = false by simp [groupB, h2])
      rw [HU.out]
      go_enter Try.func31, Try.ntmps31
      go_wp2
      go_ret
      exact ⟨rfl, rfl⟩
  · have HU := Lib.hid (show groupB n = false by simp [groupB, h1])
    rw [HU.out]
    go_enter Try.func31, Try.ntmps31
    go_wp2
    go_ret
    exact ⟨rfl, rfl⟩

/-- the i-th may stand where it does -/
def risesAt (P : Int → Bool) (l : List Int) (i : Nat) : Bool := P (l.getD i 0) && (i == 0 || decide (l.getD (i - 1) 0 < l.getD i 0))
def risesTo (P : Int → Bool) (l : List Int) (k : Nat) : Bool := (List.range k).all (risesAt P l)
def riseB (P : Int → Bool) (l : List Int) : Bool := risesTo P l l.length
theorem risesTo_succ (P : Int → Bool) (l : List Int) (k : Nat) : risesTo P l (k + 1) = (risesTo P l k && risesAt P l k) := by unfold risesTo; rw [List.range_succ, List.all_append]; simp
theorem risesTo_no (P : Int → Bool) (l : List Int) {k : Nat} (h : risesAt P l k = false) (hk : k < l.length) : riseB P l = false := by
  unfold riseB risesTo
  rw [Bool.eq_false_iff]
  intro h2
  have := List.all_eq_true.1 h2 k (by simpa using hk)
  rw [h] at this; cases this
theorem getD_at {l : List Int} {i : Nat} (h : i < l.length) : l.getD i 0 = l[i] := by simp [List.getD_eq_getElem?_getD, List.getElem?_eq_getElem h]

set_option maxRecDepth 100000 in
set_option maxHeartbeats 1000000 in
theorem rising_any (P : Int → Bool) (gf : Nat) (lb : List Value) (v : Value) (l : List Int) (w : World) (hv : Sl w v (ofK .i64 l))
    (hcf : ∀ args w1, Sem.run Try.prog (callFunc gf args) w1 = .ok (.enter gf args) w1) (hst : ∀ (n : Int), Calls Try.prog gf (.int .i64 n :: lb).toArray w (fun e w' => e = .returned (.bool (P n)) ∧ w = w')) :
    Calls Try.prog 30 #[v, .func (.func gf) #[] lb.toArray] w (fun e w' => e = .returned (.bool (riseB P l)) ∧ w = w') := by
  obtain ⟨ao, c, rfl, a2, a3, a4⟩ := hv.nums
  have H := Lib.hid (And.intro a4 hst)
  have HR := Lib.hid (And.intro (risesTo_succ P l) (@risesTo_no P l))
  obtain ⟨L, hL⟩ : ∃ L, l.length = L := ⟨_, rfl⟩
  obtain ⟨R, hR⟩ : ∃ R, riseB P l = R := ⟨_, rfl⟩
  have HL := Lib.hid (And.intro hL hR)
  rw [hL] at a2 ⊢
  rw [hR]
  have hcf' := hcf
  clear hv a4 hst hL hR
  go_enter Try.func30, Try.ntmps30
  go_wp2_with fail
  go_loop [5, 6, 9] (fun u5 u6 i => ∃ k : Nat, k ≤ L ∧ i = .int .i64 k ∧ Hid (risesTo P l k = true)) (fun _ _ i => L - (intOf i).toNat)
  case atStart => exact ⟨0, Nat.zero_le _, rfl, Lib.hid rfl⟩
  case round =>
    obtain ⟨k, hk, rfl, HT⟩ := hrel
    by_cases hlt : k < L
    · have hkl : k < l.length := by rw [HL.out.1]; exact hlt
      have hklz : (k : Int) < (L : Int) := by omega
      have hk0 : (0 : Int) ≤ (k : Int) := by omega
      obtain ⟨b, o, rfl, -, hcell⟩ := H.out.1 (by omega)
      have c1 := hcell k hkl
      have hat := getD_at hkl
      have hsu := HR.out.1 k
      have hno := fun h => HR.out.2 (k := k) h hkl
      rw [HL.out.2] at hno
      rw [HT.out, Bool.true_and] at hsu
      have hra : risesAt P l k = (P (l.getD k 0) && (k == 0 || decide (l.getD (k - 1) 0 < l.getD k 0))) := rfl
      rw [hat] at hra
      generalize l[k] = x at c1 hra
      obtain ⟨px, hpx⟩ : ∃ b, P x = b := ⟨_, rfl⟩
      rw [hpx] at hra
      have HC := Lib.hid (H.out.2 x)
      rw [hpx] at HC
      clear hat hpx
      by_cases hz : k = 0
      · subst hz
        rw [Nat.add_zero] at c1
        have HS := Lib.hid hsu
        have HN := Lib.hid hno
        have HA := Lib.hid (show risesAt P l 0 = px by rw [hra]; simp)
        clear hsu hno hra hcell hkl
        cases px
        · go_wp2_with fail
          refine HC.out.mono ?_
          rintro e w' ⟨rfl, rfl⟩
          go_wp2_with fail
          go_ret
          exact ⟨by rw [HN.out HA.out]; rfl, rfl⟩
        · go_wp2_with fail
          refine HC.out.mono ?_
          rintro e w' ⟨rfl, rfl⟩
          go_wp2_with fail
          go_round
          case rel => exact ⟨1, by omega, by go_num, Lib.hid (HS.out.trans HA.out)⟩
          case measure => simp [intOf]; omega
      · have c0 := hcell (k - 1) (by omega)
        rw [getD_at (show k - 1 < l.length by omega)] at hra
        have hk1 : (0 : Int) < (k : Int) := by omega
        have hkk : ((k - 1 : Nat) : Int) = (k : Int) - 1 := by omega
        have hw1 : IntKind.i64.wrap ((k : Int) - 1) = ((k - 1 : Nat) : Int) := by rw [IntKind.wrap_i64]; omega
        have hj0 : (0 : Int) ≤ ((k - 1 : Nat) : Int) := by omega
        have hj1 : ((k - 1 : Nat) : Int) < (L : Int) := by omega
        generalize l[k - 1] = y at c0 hra
        have hkz : (k == 0) = false := by simpa using hz
        rw [hkz, Bool.false_or] at hra
        have HS := Lib.hid hsu
        have HN := Lib.hid hno
        clear hsu hno hcell hkl hkz hz
        cases px
        · have HA := Lib.hid (show risesAt P l k = false by rw [hra]; simp)
          clear hra
          go_wp2_with fail
          refine HC.out.mono ?_
          rintro e w' ⟨rfl, rfl⟩
          go_wp2_with fail
          go_ret
          exact ⟨by rw [HN.out HA.out]; rfl, rfl⟩
        · by_cases hyx : y < x
          · have HA := Lib.hid (show risesAt P l k = true by rw [hra]; simp [hyx])
            have hyx2 : ¬ x ≤ y := by omega
            clear hra
            go_wp2_with fail
            refine HC.out.mono ?_
            rintro e w' ⟨rfl, rfl⟩
            go_wp2_with fail
            go_round
            case rel => exact ⟨k + 1, by omega, by go_num, Lib.hid (HS.out.trans HA.out)⟩
            case measure => simp [intOf]; omega
          · have HA := Lib.hid (show risesAt P l k = false by rw [hra]; simp [hyx])
            have hyx2 : x ≤ y := by omega
            clear hra
            go_wp2_with fail
            refine HC.out.mono ?_
            rintro e w' ⟨rfl, rfl⟩
            go_wp2_with fail
            go_ret
            exact ⟨by rw [HN.out HA.out]; rfl, rfl⟩
    · have hge : ¬ (k : Int) < (L : Int) := by omega
      have hR : R = true := by rw [← HL.out.2]; unfold riseB; rw [HL.out.1, ← show k = L by omega]; exact HT.out
      have HRR := Lib.hid hR
      clear hR
      go_wp2_with fail
      go_ret
      exact ⟨by rw [HRR.out]; rfl, rfl⟩

end Go.Proofs.Ytampheimonmggaa
