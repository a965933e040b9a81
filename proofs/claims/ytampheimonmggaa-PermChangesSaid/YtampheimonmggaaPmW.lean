/-
  Layer 11's reference: In, rising, walked. Conditions: the numbers are int's.
-/
import Derived.Test.YtampheimonmggaaPmQ
namespace Go.Proofs.Ytampheimonmggaa
open Go Go.RowKit Go.Sort
set_option linter.unusedSimpArgs false
set_option linter.unusedVariables false

theorem inB_none {l : List Int} {x : Int} (h : ∀ j, j < l.length → l.getD j 0 ≠ x) : inB l x = false := inB_no.2 fun hx => by
  obtain ⟨j, hj, e⟩ := List.mem_iff_getElem.1 hx
  exact h j hj (by rw [getD_at hj]; exact e)
theorem inB_at {l : List Int} {x : Int} {j : Nat} (hj : j < l.length) (h : l.getD j 0 = x) : inB l x = true := inB_iff.2 (by rw [getD_at hj] at h; rw [← h]; exact List.getElem_mem hj)

set_option maxRecDepth 100000 in
set_option maxHeartbeats 1000000 in
theorem rin_any (v : Value) (l : List Int) (x : Int) (w : World) (hv : Sl w v (ofK .i64 l)) :
    Calls Try.prog 42 #[v, .int .i64 x] w (fun e w' => e = .returned (.bool (inB l x)) ∧ w = w') := by
  obtain ⟨ao, c, rfl, a2, a3, a4⟩ := hv.nums
  have H := Lib.hid a4
  obtain ⟨L, hL⟩ : ∃ L, l.length = L := ⟨_, rfl⟩
  obtain ⟨R, hR⟩ : ∃ R, inB l x = R := ⟨_, rfl⟩
  have HL := Lib.hid (And.intro hL hR)
  rw [hL] at a2 ⊢
  rw [hR]
  clear hv a4 hL hR
  go_enter Try.func42, Try.ntmps42
  go_wp2_with fail
  go_loop [5] (fun i => ∃ k : Nat, k ≤ L ∧ i = .int .i64 k ∧ Hid (∀ j, j < k → l.getD j 0 ≠ x)) (fun i => L - (intOf i).toNat)
  case atStart => exact ⟨0, Nat.zero_le _, rfl, Lib.hid (fun j hj => by omega)⟩
  case round =>
    obtain ⟨k, hk, rfl, HT⟩ := hrel
    by_cases hlt : k < L
    · have hkl : k < l.length := by rw [HL.out.1]; exact hlt
      have hklz : (k : Int) < (L : Int) := by omega
      have hk0 : (0 : Int) ≤ (k : Int) := by omega
      obtain ⟨b, o, rfl, -, hcell⟩ := H.out (by omega)
      have c1 := hcell k hkl
      have hat := getD_at hkl
      generalize l[k] = y at c1 hat
      by_cases hyx : y = x
      · have HE := Lib.hid (show R = true by rw [← HL.out.2]; exact inB_at hkl (hat.trans hyx))
        have e1 : (y == x) = true := by simpa using hyx
        clear hyx hat hkl hcell
        go_wp2_with fail
        go_ret
        exact ⟨by rw [HE.out]; rfl, rfl⟩
      · have HAT := Lib.hid hat
        have HNE := Lib.hid hyx
        have e1 : (y == x) = false := by simpa using hyx
        clear hyx hat hkl hcell
        go_wp2_with fail
        go_round
        case rel => exact ⟨k + 1, by omega, by go_num, Lib.hid (fun j hj => by
          rcases Nat.lt_or_ge j k with h | h
          · exact HT.out j h
          · obtain rfl : j = k := by omega
            rw [HAT.out]; exact HNE.out)⟩
        case measure => simp [intOf]; omega
    · have hge : ¬ (k : Int) < (L : Int) := by omega
      have HE := Lib.hid (show R = false by rw [← HL.out.2]; exact inB_none (fun j hj => HT.out j (by rw [HL.out.1] at hj; omega)))
      go_wp2_with fail
      go_ret
      exact ⟨by rw [HE.out]; rfl, rfl⟩

/-- from 1 to most, and not the one -/
def upB (most no n : Int) : Bool := (decide (1 ≤ n) && decide (n ≤ most)) && (n != no)
theorem upB_other (o : Int) : upB 6 o = otherB o := rfl
theorem upB_group : upB 3 0 = groupB := by
  funext n
  unfold upB groupB
  by_cases h : 1 ≤ n
  · have : (n != 0) = true := by simp; omega
    rw [this, Bool.and_true]
  · simp [h]

set_option maxRecDepth 100000 in
set_option maxHeartbeats 4000000 in
theorem rrising_any (v : Value) (l : List Int) (most no : Int) (w : World) (hv : Sl w v (ofK .i64 l)) :
    Calls Try.prog 44 #[v, .int .i64 most, .int .i64 no] w (fun e w' => e = .returned (.bool (riseB (upB most no) l)) ∧ Below w.heap.size w w') := by
  have HV := Lib.hid hv
  obtain ⟨ao, c, rfl, a2, a3, -⟩ := hv.nums
  have HR := Lib.hid (And.intro (risesTo_succ (upB most no) l) (@risesTo_no (upB most no) l))
  obtain ⟨L, hL⟩ : ∃ L, l.length = L := ⟨_, rfl⟩
  obtain ⟨R, hR⟩ : ∃ R, riseB (upB most no) l = R := ⟨_, rfl⟩
  have HL := Lib.hid (And.intro hL hR)
  rw [hL] at a2 HV ⊢
  rw [hR]
  clear hv hL hR
  go_enter Try.func44, Try.ntmps44
  go_wp2_with fail
  go_loopw [7] (fun i wr => ∃ k : Nat, k ≤ L ∧ i = .int .i64 k ∧ Hid (risesTo (upB most no) l k = true ∧ Below w.heap.size w wr)) (fun i _ => L - (intOf i).toNat)
  case atStart => exact ⟨0, Nat.zero_le _, rfl, Lib.hid ⟨rfl, Below.refl _ _⟩⟩
  case round =>
    obtain ⟨k, hk, rfl, HT⟩ := hrel
    by_cases hlt : k < L
    · have hkl : k < l.length := by rw [HL.out.1]; exact hlt
      have hklz : (k : Int) < (L : Int) := by omega
      have hk0 : (0 : Int) ≤ (k : Int) := by omega
      obtain ⟨ao', c', e0, -, -, hcl⟩ := (HV.out.below HT.out.2 (Nat.le_refl _)).nums
      obtain ⟨b, o, e1, -, hcell⟩ := hcl (by omega)
      subst e1
      simp only [Value.slice.injEq] at e0
      obtain ⟨rfl, -, rfl⟩ := e0
      have c1 := hcell k hkl
      have hat := getD_at hkl
      have hsu := HR.out.1 k
      have hno := fun h => HR.out.2 (k := k) h hkl
      rw [HL.out.2] at hno
      rw [HT.out.1, Bool.true_and] at hsu
      have hra : risesAt (upB most no) l k = (((decide (1 ≤ l.getD k 0) && decide (l.getD k 0 ≤ most)) && (l.getD k 0 != no)) && (k == 0 || decide (l.getD (k - 1) 0 < l.getD k 0))) := rfl
      rw [hat] at hra
      generalize l[k] = x at c1 hra
      have c1g := fun q => cell_grew c1 q
      clear c1
      by_cases h1 : 1 ≤ x
      rotate_left
      · have HE := Lib.hid (show R = false from hno (by rw [hra]; simp [h1]))
        have h1' : decide (x < 1) = true := by simp; omega
        clear hno hsu hra hat hcell hcl hkl h1
        go_wp2_with fail
        refine wp_region_grew (by kernel_rfl) (by kernel_rfl) ?_
        repeat (first | go_big_quiet_skip | (go_big_quiet_want; go_big_quiet_op; go_big_quiet_on))
        refine wpQuiet_nil ?_
        intro w2 hw2
        obtain ⟨qq, rfl⟩ := hw2
        have HB2 := Lib.hid (below_thn HT.out.2 (below_grew wr qq) (Nat.le_refl _))
        clear c1g 
        go_wp2_with fail
        go_ret
        exact ⟨by rw [HE.out]; rfl, HB2.out⟩
      have h1' : decide (x < 1) = false := by simp; omega
      by_cases h2 : x ≤ most
      rotate_left
      · have HE := Lib.hid (show R = false from hno (by rw [hra]; simp [h2]))
        have h2' : decide (most < x) = true := by simp; omega
        clear hno hsu hra hat hcell hcl hkl h1 h2
        go_wp2_with fail
        refine wp_region_grew (by kernel_rfl) (by kernel_rfl) ?_
        repeat (first | go_big_quiet_skip | (go_big_quiet_want; go_big_quiet_op; go_big_quiet_on))
        refine wpQuiet_nil ?_
        intro w2 hw2
        obtain ⟨qq, rfl⟩ := hw2
        have HB2 := Lib.hid (below_thn HT.out.2 (below_grew wr qq) (Nat.le_refl _))
        clear c1g 
        go_wp2_with fail
        go_ret
        exact ⟨by rw [HE.out]; rfl, HB2.out⟩
      have h2' : decide (most < x) = false := by simp; omega
      by_cases h3 : x = no
      · have HE := Lib.hid (show R = false from hno (by rw [hra]; simp [h3]))
        have h3' : (x == no) = true := by simpa using h3
        clear hno hsu hra hat hcell hcl hkl h1 h2 h3
        go_wp2_with fail
        refine wp_region_grew (by kernel_rfl) (by kernel_rfl) ?_
        repeat (first | go_big_quiet_skip | (go_big_quiet_want; go_big_quiet_op; go_big_quiet_on))
        refine wpQuiet_nil ?_
        intro w2 hw2
        obtain ⟨qq, rfl⟩ := hw2
        have HB2 := Lib.hid (below_thn HT.out.2 (below_grew wr qq) (Nat.le_refl _))
        clear c1g 
        go_wp2_with fail
        go_ret
        exact ⟨by rw [HE.out]; rfl, HB2.out⟩
      have h3' : (x == no) = false := by simpa using h3
      by_cases hz : k = 0
      · have HA := Lib.hid (hsu.trans (show risesAt (upB most no) l k = true by rw [hra]; subst hz; simp [h1, h2, h3]))
        have hk1 : decide (0 < k) = false := by simp; omega
        clear hno hsu hra hat hcell hcl hkl h1 h2 h3 hz
        go_wp2_with fail
        refine wp_region_grew (by kernel_rfl) (by kernel_rfl) ?_
        repeat (first | go_big_quiet_skip | (go_big_quiet_want; go_big_quiet_op; go_big_quiet_on))
        refine wpQuiet_nil ?_
        intro w2 hw2
        obtain ⟨qq, rfl⟩ := hw2
        have HB2 := Lib.hid (below_thn HT.out.2 (below_grew wr qq) (Nat.le_refl _))
        clear c1g 
        go_wp2_with fail
        go_round
        case rel => exact ⟨k + 1, by omega, by go_num, Lib.hid ⟨HA.out, HB2.out⟩⟩
        case measure => simp [intOf]; omega
      have c0 := hcell (k - 1) (by omega)
      rw [getD_at (show k - 1 < l.length by omega)] at hra
      have hk1 : decide (0 < k) = true := by simp; omega
      have hw1 : IntKind.i64.wrap ((k : Int) - 1) = ((k - 1 : Nat) : Int) := by rw [IntKind.wrap_i64]; omega
      have hj0 : (0 : Int) ≤ ((k - 1 : Nat) : Int) := by omega
      have hj1 : ((k - 1 : Nat) : Int) < (L : Int) := by omega
      generalize l[k - 1] = y at c0 hra
      have c0g := fun q => cell_grew c0 q
      clear c0
      by_cases h4 : y < x
      · have HA := Lib.hid (hsu.trans (show risesAt (upB most no) l k = true by rw [hra]; simp [h1, h2, h3, h4]))
        have h4' : decide (x ≤ y) = false := by simp; omega
        clear hno hsu hra hat hcell hcl hkl h1 h2 h3 h4 hz
        go_wp2_with fail
        refine wp_region_grew (by kernel_rfl) (by kernel_rfl) ?_
        repeat (first | go_big_quiet_skip | (go_big_quiet_want; go_big_quiet_op; go_big_quiet_on))
        refine wpQuiet_nil ?_
        intro w2 hw2
        obtain ⟨qq, rfl⟩ := hw2
        have HB2 := Lib.hid (below_thn HT.out.2 (below_grew wr qq) (Nat.le_refl _))
        clear c1g c0g
        go_wp2_with fail
        go_round
        case rel => exact ⟨k + 1, by omega, by go_num, Lib.hid ⟨HA.out, HB2.out⟩⟩
        case measure => simp [intOf]; omega
      · have HE := Lib.hid (show R = false from hno (by
          have hkz : (k == 0) = false := by simpa using hz
          rw [hra, hkz]; simp [h4]))
        have h4' : decide (x ≤ y) = true := by simp; omega
        clear hno hsu hra hat hcell hcl hkl h1 h2 h3 h4 hz
        go_wp2_with fail
        refine wp_region_grew (by kernel_rfl) (by kernel_rfl) ?_
        repeat (first | go_big_quiet_skip | (go_big_quiet_want; go_big_quiet_op; go_big_quiet_on))
        refine wpQuiet_nil ?_
        intro w2 hw2
        obtain ⟨qq, rfl⟩ := hw2
        have HB2 := Lib.hid (below_thn HT.out.2 (below_grew wr qq) (Nat.le_refl _))
        clear c1g c0g
        go_wp2_with fail
        go_ret
        exact ⟨by rw [HE.out]; rfl, HB2.out⟩
    · have hge : ¬ (k : Int) < (L : Int) := by omega
      have HRR := Lib.hid (show R = true by rw [← HL.out.2]; unfold riseB; rw [HL.out.1, ← show k = L by omega]; exact HT.out.1)
      go_wp2_with fail
      go_ret
      exact ⟨by rw [HRR.out]; rfl, HT.out.2⟩

end Go.Proofs.Ytampheimonmggaa
