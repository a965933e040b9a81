/-
  The document's functions of layer 1 (Same, Both, row), walked. Conditions: lengths within the form's reach.
-/
import Derived.Test.YtfenikoajadiaaaPut
import Derived.BigQuiet
import Derived.Deep.QuietTactic
namespace Go.Proofs.Ytfenikoajadiaaa
open Go Go.RowKit

/-- how many of the first k places hold the same -/
def alikeN (xs ys : List Int) (k : Nat) : Nat := ((xs.zip ys).take k).countP (fun p => p.1 == p.2)

theorem alikeN_le (xs ys : List Int) (k : Nat) : alikeN xs ys k ≤ k ∧ alikeN xs ys k ≤ xs.length := by
  unfold alikeN
  have h := List.countP_le_length (p := fun p : Int × Int => p.1 == p.2) (l := (xs.zip ys).take k)
  simp only [List.length_take, List.length_zip] at h
  omega

theorem alikeN_succ (xs ys : List Int) (k : Nat) (h1 : k < xs.length) (h2 : k < ys.length) : alikeN xs ys (k + 1) = alikeN xs ys k + if xs[k] = ys[k] then 1 else 0 := by
  unfold alikeN
  have hk : k < (xs.zip ys).length := by simp; omega
  rw [List.take_succ_eq_append_getElem hk, List.countP_append]
  congr 1
  by_cases e : xs[k] = ys[k] <;> simp [e]

theorem alikeN_all (xs ys : List Int) (k : Nat) (hk : k = min xs.length ys.length) : ((alikeN xs ys k = xs.length) ∧ (alikeN xs ys k = ys.length)) ↔ xs = ys := by
  unfold alikeN
  rw [List.take_of_length_le (by simp; omega)]
  clear hk
  induction xs generalizing ys with
  | nil => cases ys <;> simp
  | cons x xs ih =>
    cases ys with
    | nil => simp
    | cons y ys =>
      have hle : (xs.zip ys).countP (fun p => p.1 == p.2) ≤ min xs.length ys.length := by
        have := List.countP_le_length (p := fun p : Int × Int => p.1 == p.2) (l := xs.zip ys)
        simpa using this
      simp only [List.zip_cons_cons, List.countP_cons, List.length_cons, List.cons.injEq]
      rw [← ih ys]
      by_cases e : x = y
      · simp [e]
      · simp only [e, beq_iff_eq, if_false, false_and, iff_false]; omega

set_option maxHeartbeats 1000000 in
theorem same_any (v1 v2 : Value) (xs ys : List Int) (w : World) (h1 : Sl w v1 (ofK .u8 xs)) (h2 : Sl w v2 (ofK .u8 ys)) :
    Calls Try.prog 24 #[v1, v2] w (fun e w' => e = .returned (.bool (decide (xs = ys))) ∧ Sm w w') := by
  obtain ⟨ao, c, rfl, a2, a3, a4⟩ := h1.nums
  obtain ⟨bo, d, rfl, b2, b3, b4⟩ := h2.nums
  clear h1 h2
  go_enter Try.func24, Try.ntmps24
  go_wp2
  go_loopw [5, 6] (fun al i wr => ∃ k : Nat, k ≤ xs.length ∧ k ≤ ys.length ∧ i = .int .i64 k ∧ al = .int .i64 (alikeN xs ys k) ∧ Sm w wr) (fun _ i _ => xs.length - (intOf i).toNat)
  case atStart => exact ⟨0, Nat.zero_le _, Nat.zero_le _, rfl, rfl, Sm.refl _⟩
  case round =>
    obtain ⟨k, hk1, hk2, rfl, rfl, hsm⟩ := hrel
    have hle := alikeN_le xs ys k
    by_cases hl : k < xs.length ∧ k < ys.length
    · obtain ⟨l1, l2⟩ := hl
      obtain ⟨b, o, rfl, hbw, hcell⟩ := a4 (by omega)
      obtain ⟨b', o', rfl, hbw', hcell'⟩ := b4 (by omega)
      have c1 : wr.cell? ⟨b, o + k, none⟩ = some (.int .u8 xs[k]) := (hsm.cell _).trans (hcell k l1)
      have c2 : wr.cell? ⟨b', o' + k, none⟩ = some (.int .u8 ys[k]) := (hsm.cell _).trans (hcell' k l2)
      have hs := Lib.hid (alikeN_succ xs ys k l1 l2)
      have i1 : (0 : Int) ≤ (k : Int) := by omega
      have i2 : (k : Int) < (xs.length : Int) := by omega
      have i3 : (k : Int) < (ys.length : Int) := by omega
      clear hcell hcell' a4 b4
      have hsm' := Lib.hid hsm
      clear hsm
      by_cases e : xs[k] = ys[k]
      · have e' : (xs[k] == ys[k]) = true := by simpa using e
        have hs2 : Hid (alikeN xs ys (k + 1) = alikeN xs ys k + 1) := by rw [Hid, hs.out, if_pos e]
        clear e hs
        go_wp2
        go_quiet (fail)
        go_wp2
        go_roundw
        case rel => exact ⟨k + 1, by omega, by omega, by go_num, by rw [hs2.out]; go_num, hsm'.out.drewN _⟩
        case measure => simp [intOf]; omega
      · have e' : (xs[k] == ys[k]) = false := by simpa using e
        have hs2 : Hid (alikeN xs ys (k + 1) = alikeN xs ys k) := by rw [Hid, hs.out, if_neg e]; rfl
        clear e hs
        go_wp2
        go_quiet (fail)
        go_wp2
        go_roundw
        case rel => exact ⟨k + 1, by omega, by omega, by go_num, by rw [hs2.out], hsm'.out.drewN _⟩
        case measure => simp [intOf]; omega
    · have hmin : k = min xs.length ys.length := by omega
      have hall := alikeN_all xs ys k hmin
      have hsm' := Lib.hid hsm
      clear hsm a4 b4 hmin
      have hq : (((alikeN xs ys k : Int) == (xs.length : Int)) && ((alikeN xs ys k : Int) == (ys.length : Int))) = decide (xs = ys) := by
        rw [Bool.eq_iff_iff, Bool.and_eq_true, beq_iff_eq, beq_iff_eq, decide_eq_true_eq, ← hall]; omega
      clear hall
      have fin : ∀ x : Bool, x = decide (xs = ys) → Ending.returned (.bool x) = .returned (.bool (decide (xs = ys))) := fun x h => by rw [h]
      have HF := Lib.hid fin
      clear fin
      by_cases g1 : ((alikeN xs ys k : Int) == (xs.length : Int)) = true
      · by_cases g2 : ((alikeN xs ys k : Int) == (ys.length : Int)) = true
        · rw [g1, g2] at hq
          have HQ := Lib.hid hq
          clear hq
          by_cases l1 : k < xs.length
          · have l2 : ¬ k < ys.length := by omega
            go_wp2
            go_ret
            exact ⟨HF.out _ HQ.out, hsm'.out⟩
          · go_wp2
            go_ret
            exact ⟨HF.out _ HQ.out, hsm'.out⟩
        · have g2' : ((alikeN xs ys k : Int) == (ys.length : Int)) = false := by simpa using g2
          rw [g1, g2'] at hq
          have HQ := Lib.hid hq
          clear hq g2
          by_cases l1 : k < xs.length
          · have l2 : ¬ k < ys.length := by omega
            go_wp2
            go_ret
            exact ⟨HF.out _ HQ.out, hsm'.out⟩
          · go_wp2
            go_ret
            exact ⟨HF.out _ HQ.out, hsm'.out⟩
      · have g1' : ((alikeN xs ys k : Int) == (xs.length : Int)) = false := by simpa using g1
        rw [g1'] at hq
        have HQ := Lib.hid hq
        clear hq g1
        by_cases l1 : k < xs.length
        · have l2 : ¬ k < ys.length := by omega
          go_wp2
          go_ret
          exact ⟨HF.out _ HQ.out, hsm'.out⟩
        · go_wp2
          go_ret
          exact ⟨HF.out _ HQ.out, hsm'.out⟩

theorem same_of (v1 v2 : Value) (xs ys : List Int) (q : Bool) (w : World) (h1 : Sl w v1 (ofK .u8 xs)) (h2 : Sl w v2 (ofK .u8 ys)) (hq : decide (xs = ys) = q) :
    Calls Try.prog 24 #[v1, v2] w (fun e w' => e = .returned (.bool q) ∧ Sm w w') := by
  subst hq; exact same_any v1 v2 xs ys w h1 h2

/-- a row of noughts, filled from the front -/
def fillTo (zs : List Int) (k : Nat) : List Int := zs.take k ++ List.replicate (zs.length - k) 0

theorem fillTo_length (zs : List Int) (k : Nat) (h : k ≤ zs.length) : (fillTo zs k).length = zs.length := by simp [fillTo]; omega

theorem fillTo_zero (zs : List Int) : fillTo zs 0 = List.replicate zs.length 0 := by simp [fillTo]

theorem fillTo_all (zs : List Int) : fillTo zs zs.length = zs := by simp [fillTo]

theorem fillTo_set (kd : IntKind) (zs : List Int) (k : Nat) (h : k < zs.length) : (ofK kd (fillTo zs k)).set k (.int kd zs[k]) = ofK kd (fillTo zs (k + 1)) := by
  unfold ofK
  rw [← List.map_set]
  congr 1
  unfold fillTo
  apply List.ext_getElem
  · simp; omega
  · intro i h1 h2
    simp only [List.getElem_set, List.getElem_append, List.length_take, List.getElem_take, List.getElem_replicate]
    by_cases e : k = i
    · subst e
      rw [if_pos rfl, dif_pos (by omega)]
    · rw [if_neg e]
      by_cases h3 : i < k
      · rw [dif_pos (by omega), dif_pos (by omega)]
      · rw [dif_neg (by omega), dif_neg (by omega)]

theorem fillTo_cell (kd : IntKind) (zs : List Int) (k : Nat) (h : k < zs.length) : (ofK kd (fillTo zs k))[k]? = some (.int kd 0) := by
  rw [get_ofK _ _ _ (by rw [fillTo_length _ _ (by omega)]; exact h)]
  have : (fillTo zs k)[k]'(by rw [fillTo_length _ _ (by omega)]; exact h) = 0 := by
    unfold fillTo
    rw [List.getElem_append_right (by rw [List.length_take]; exact Nat.min_le_left _ _)]
    simp
  rw [this]

theorem replicate_ofK (kd : IntKind) (n : Nat) : List.replicate n (Value.int kd 0) = ofK kd (List.replicate n 0) := by simp [ofK]

set_option maxHeartbeats 1000000 in
set_option maxRecDepth 20000 in
theorem both_any (v1 v2 : Value) (xs ys : List Int) (n : Nat) (w : World) (h1 : Sl w v1 (ofK .u8 xs)) (h2 : Sl w v2 (ofK .u8 ys)) (hn : n = xs.length + ys.length) (hl : n ≤ 281474976710656) :
    Calls Try.prog 49 #[v1, v2] w (NewRow w (xs ++ ys) n) := by
  obtain ⟨i0, hi, hz0, hz1, hz2⟩ := info_parts Try.info5
  obtain ⟨ao, c, rfl, a2, a3, a4⟩ := h1.nums
  obtain ⟨bo, d, rfl, b2, b3, b4⟩ := h2.nums
  subst hn
  clear h1 h2
  go_enter Try.func49, Try.ntmps49
  go_wp2_with (at_make; refine wpList_make_blk _ rfl _ _ 25 rfl 5 i0 (.int .u8 0) Try.underlying25 hi hz0 hz1 rfl _ _ _ _ (xs.length + ys.length) rfl rfl (by omega) (by omega) ?_ ?_ ?_)
  · rw [hz2]; omega
  · unfold maxLen; omega
  · intro w1 hblk hbel hsz
    rw [replicate_ofK, ← List.length_append, ← fillTo_zero] at hblk
    go_wp2
    go_loopw [15] (fun i wr => ∃ k : Nat, k ≤ xs.length + ys.length ∧ i = .int .i64 k ∧ Blk wr w.heap.size 5 (ofK .u8 (fillTo (xs ++ ys) k)) ∧ Below w.heap.size w wr) (fun i _ => xs.length + ys.length - (intOf i).toNat)
    case atStart => exact ⟨0, Nat.zero_le _, rfl, hblk, hbel⟩
    case round =>
      clear hblk hbel
      obtain ⟨k, hk, rfl, hblk, hbel⟩ := hrel
      by_cases hlt : k < xs.length + ys.length
      · have hlt' : k < (xs ++ ys).length := by simpa using hlt
        have hc0 : wr.cell? ⟨w.heap.size, k, none⟩ = some (.int .u8 0) := (hblk.cell k).trans (fillTo_cell .u8 _ _ hlt')
        have hf0 := hblk.free k
        have hset := hblk.set k (.int .u8 (xs ++ ys)[k])
        rw [fillTo_set _ _ _ hlt'] at hset
        have HS := Lib.hid hset
        have HB := Lib.hid hbel
        clear hset hblk
        by_cases hx : k < xs.length
        · obtain ⟨b, o, rfl, hbw, hcell⟩ := a4 (by omega)
          have c1 : wr.cell? ⟨b, o + k, none⟩ = some (.int .u8 xs[k]) := (hbel.cell hbw).trans (hcell k hx)
          have e : (xs ++ ys)[k] = xs[k] := List.getElem_append_left hx
          rw [e] at HS
          clear hcell a4 b4 e hbel
          go_wp2
          go_roundw
          case rel => exact ⟨k + 1, by omega, by go_num, HS.out, HB.out.setCell (Nat.le_refl _) _⟩
          case measure => simp [intOf]; omega
        · obtain ⟨b, o, rfl, hbw, hcell⟩ := b4 (by omega)
          have hj : k - xs.length < ys.length := by omega
          have c1 : wr.cell? ⟨b, o + (k - xs.length), none⟩ = some (.int .u8 ys[k - xs.length]) := (hbel.cell hbw).trans (hcell _ hj)
          have e : (xs ++ ys)[k] = ys[k - xs.length] := List.getElem_append_right (by omega)
          rw [e] at HS
          clear hcell a4 b4 e hbel
          go_wp2
          go_roundw
          case rel => exact ⟨k + 1, by omega, by go_num, HS.out, HB.out.setCell (Nat.le_refl _) _⟩
          case measure => simp [intOf]; omega
      · obtain rfl : k = xs.length + ys.length := by omega
        rw [← List.length_append, fillTo_all] at hblk
        clear a4 b4
        go_wp2
        go_ret
        exact newRow_of_blk hblk (by simp) hbel (by simp; unfold maxLen; omega)

end Go.Proofs.Ytfenikoajadiaaa
