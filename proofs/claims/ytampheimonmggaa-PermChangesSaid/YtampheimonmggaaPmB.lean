/-
  Slices of ints: Index, Contains, IndexFunc, ContainsFunc, Equal, Clone, walked. Conditions: lengths within the form's reach.
-/
import Derived.Test.YtampheimonmggaaPmA
import Derived.Lib.SliceRun
namespace Go.Proofs.Ytampheimonmggaa
open Go Go.RowKit
set_option linter.unusedSimpArgs false

/-- where the first one stands -/
def idxG (P : Int → Bool) : List Int → Nat → Int
  | [], _ => -1
  | x :: t, i => if P x = true then (i : Int) else idxG P t (i + 1)
theorem idxG_any (P : Int → Bool) : ∀ (l : List Int) (i : Nat), decide (0 ≤ idxG P l i) = l.any P
  | [], i => rfl
  | x :: t, i => by
    unfold idxG
    rw [List.any_cons]
    by_cases h : P x = true
    · rw [if_pos h, h, decide_eq_true (by omega)]; rfl
    · rw [if_neg h, idxG_any P t, Bool.eq_false_iff.2 h]; rfl
theorem idxG_drop (P : Int → Bool) (l : List Int) (k : Nat) (h : k < l.length) : idxG P (l.drop k) k = if P l[k] = true then (k : Int) else idxG P (l.drop (k + 1)) (k + 1) := by
  rw [List.drop_eq_getElem_cons h]; rfl

set_option maxRecDepth 100000 in
set_option maxHeartbeats 1000000 in
theorem index_any (x : Int) (v : Value) (l : List Int) (w : World) (hv : Sl w v (ofK .i64 l)) :
    Calls Try.prog 47 #[v, .int .i64 x] w (fun e w' => e = .returned (.int .i64 (idxG (x == ·) l 0)) ∧ w = w') := by
  obtain ⟨ao, c, rfl, a2, a3, a4⟩ := hv.nums
  have H := Lib.hid a4
  have HD := Lib.hid (idxG_drop (x == ·) l)
  obtain ⟨L, hL⟩ : ∃ L, l.length = L := ⟨_, rfl⟩
  obtain ⟨R, hR⟩ : ∃ R, idxG (x == ·) l 0 = R := ⟨_, rfl⟩
  have HL := Lib.hid (And.intro hL hR)
  rw [hL] at a2 ⊢
  rw [hR]
  clear hv a4 hL hR
  go_enter Try.func47, Try.ntmps47
  go_wp2_with fail
  go_loop [5, 8] (fun u5 i => ∃ k : Nat, k ≤ L ∧ i = .int .i64 k ∧ Hid (idxG (x == ·) (l.drop k) k = R)) (fun _ i => L - (intOf i).toNat)
  case atStart => exact ⟨0, Nat.zero_le _, rfl, Lib.hid HL.out.2⟩
  case round =>
    obtain ⟨k, hk, rfl, HT⟩ := hrel
    by_cases hlt : k < L
    · have hkl : k < l.length := by rw [HL.out.1]; exact hlt
      have hklz : (k : Int) < (L : Int) := by omega
      have hk0 : (0 : Int) ≤ (k : Int) := by omega
      obtain ⟨b, o, rfl, -, hcell⟩ := H.out (by omega)
      have c1 := hcell k hkl
      have hd := HD.out k hkl
      rw [HT.out] at hd
      generalize l[k] = y at c1 hd
      by_cases hxy : x = y
      · have hb : (x == y) = true := by simpa using hxy
        have HA := Lib.hid (show R = (k : Int) by rw [hd, if_pos hb])
        clear hd hcell hkl hxy
        go_wp2_with fail
        go_ret
        exact ⟨by rw [HA.out]; rfl, rfl⟩
      · have hb : (x == y) = false := by simpa using hxy
        have HA := Lib.hid (show idxG (x == ·) (l.drop (k + 1)) (k + 1) = R by rw [hd, if_neg (by rw [hb]; simp)])
        clear hd hcell hkl hxy
        go_wp2_with fail
        go_round
        case rel => exact ⟨k + 1, by omega, by go_num, HA⟩
        case measure => simp [intOf]; omega
    · have hge : ¬ (k : Int) < (L : Int) := by omega
      have hR : R = -1 := by rw [← HT.out, List.drop_of_length_le (by rw [HL.out.1]; omega)]; rfl
      have HRR := Lib.hid hR
      clear hR
      go_wp2_with fail
      go_ret
      exact ⟨by rw [HRR.out]; rfl, rfl⟩

theorem contains_any (x : Int) (v : Value) (l : List Int) (w : World) (hv : Sl w v (ofK .i64 l)) :
    Calls Try.prog 27 #[v, .int .i64 x] w (fun e w' => e = .returned (.bool (l.any (x == ·))) ∧ w = w') := by
  have H := Lib.hid (index_any x v l w hv)
  have hA := idxG_any (x == ·) l 0
  generalize l.any (x == ·) = b at hA ⊢
  generalize idxG (x == ·) l 0 = r at hA H
  clear hv
  cases b
  · have hr : decide (0 ≤ r) = false := hA
    have hr2 : ¬ 0 ≤ r := by simpa using hr
    clear hA
    go_enter Try.func27, Try.ntmps27
    go_wp2_with fail
    refine H.out.mono ?_
    rintro e w' ⟨rfl, rfl⟩
    go_wp2_with fail
    go_ret
    exact ⟨rfl, rfl⟩
  · have hr : decide (0 ≤ r) = true := hA
    have hr2 : 0 ≤ r := by simpa using hr
    clear hA
    go_enter Try.func27, Try.ntmps27
    go_wp2_with fail
    refine H.out.mono ?_
    rintro e w' ⟨rfl, rfl⟩
    go_wp2_with fail
    go_ret
    exact ⟨rfl, rfl⟩

set_option maxRecDepth 100000 in
set_option maxHeartbeats 1000000 in
theorem indexF_any (P : Int → Bool) (gf : Nat) (lb : List Value) (v : Value) (l : List Int) (w : World) (hv : Sl w v (ofK .i64 l))
    (hcf : ∀ args w1, Sem.run Try.prog (callFunc gf args) w1 = .ok (.enter gf args) w1) (hst : ∀ (n : Int), Calls Try.prog gf (.int .i64 n :: lb).toArray w (fun e w' => e = .returned (.bool (P n)) ∧ w = w')) :
    Calls Try.prog 50 #[v, .func (.func gf) #[] lb.toArray] w (fun e w' => e = .returned (.int .i64 (idxG P l 0)) ∧ w = w') := by
  obtain ⟨ao, c, rfl, a2, a3, a4⟩ := hv.nums
  have H := Lib.hid (And.intro a4 hst)
  have HD := Lib.hid (idxG_drop P l)
  obtain ⟨L, hL⟩ : ∃ L, l.length = L := ⟨_, rfl⟩
  obtain ⟨R, hR⟩ : ∃ R, idxG P l 0 = R := ⟨_, rfl⟩
  have HL := Lib.hid (And.intro hL hR)
  rw [hL] at a2 ⊢
  rw [hR]
  have hcf' := hcf
  clear hv a4 hL hR hst
  go_enter Try.func50, Try.ntmps50
  go_wp2_with fail
  go_loop [5, 8] (fun u5 i => ∃ k : Nat, k ≤ L ∧ i = .int .i64 k ∧ Hid (idxG P (l.drop k) k = R)) (fun _ i => L - (intOf i).toNat)
  case atStart => exact ⟨0, Nat.zero_le _, rfl, Lib.hid HL.out.2⟩
  case round =>
    obtain ⟨k, hk, rfl, HT⟩ := hrel
    by_cases hlt : k < L
    · have hkl : k < l.length := by rw [HL.out.1]; exact hlt
      have hklz : (k : Int) < (L : Int) := by omega
      have hk0 : (0 : Int) ≤ (k : Int) := by omega
      obtain ⟨b, o, rfl, -, hcell⟩ := H.out.1 (by omega)
      have c1 := hcell k hkl
      have hd := HD.out k hkl
      rw [HT.out] at hd
      generalize l[k] = y at c1 hd
      obtain ⟨py, hpy⟩ : ∃ b, P y = b := ⟨_, rfl⟩
      rw [hpy] at hd
      have HC := Lib.hid (H.out.2 y)
      rw [hpy] at HC
      clear hpy
      cases py
      · have HA := Lib.hid (show idxG P (l.drop (k + 1)) (k + 1) = R by rw [hd, if_neg (by simp)])
        clear hd hcell hkl
        go_wp2_with fail
        refine HC.out.mono ?_
        rintro e w' ⟨rfl, rfl⟩
        go_wp2_with fail
        go_round
        case rel => exact ⟨k + 1, by omega, by go_num, HA⟩
        case measure => simp [intOf]; omega
      · have HA := Lib.hid (show R = (k : Int) by rw [hd, if_pos rfl])
        clear hd hcell hkl
        go_wp2_with fail
        refine HC.out.mono ?_
        rintro e w' ⟨rfl, rfl⟩
        go_wp2_with fail
        go_ret
        exact ⟨by rw [HA.out]; rfl, rfl⟩
    · have hge : ¬ (k : Int) < (L : Int) := by omega
      have hR : R = -1 := by rw [← HT.out, List.drop_of_length_le (by rw [HL.out.1]; omega)]; rfl
      have HRR := Lib.hid hR
      clear hR
      go_wp2_with fail
      go_ret
      exact ⟨by rw [HRR.out]; rfl, rfl⟩

theorem containsF_any (P : Int → Bool) (gf : Nat) (lb : List Value) (v : Value) (l : List Int) (w : World) (hv : Sl w v (ofK .i64 l))
    (hcf : ∀ args w1, Sem.run Try.prog (callFunc gf args) w1 = .ok (.enter gf args) w1) (hst : ∀ (n : Int), Calls Try.prog gf (.int .i64 n :: lb).toArray w (fun e w' => e = .returned (.bool (P n)) ∧ w = w')) :
    Calls Try.prog 32 #[v, .func (.func gf) #[] lb.toArray] w (fun e w' => e = .returned (.bool (l.any P)) ∧ w = w') := by
  have H := Lib.hid (indexF_any P gf lb v l w hv hcf hst)
  have hA := idxG_any P l 0
  generalize l.any P = b at hA ⊢
  generalize idxG P l 0 = r at hA H
  clear hv hst hcf
  cases b
  · have hr : decide (0 ≤ r) = false := hA
    have hr2 : ¬ 0 ≤ r := by simpa using hr
    clear hA
    go_enter Try.func32, Try.ntmps32
    go_wp2_with fail
    refine H.out.mono ?_
    rintro e w' ⟨rfl, rfl⟩
    go_wp2_with fail
    go_ret
    exact ⟨rfl, rfl⟩
  · have hr : decide (0 ≤ r) = true := hA
    have hr2 : 0 ≤ r := by simpa using hr
    clear hA
    go_enter Try.func32, Try.ntmps32
    go_wp2_with fail
    refine H.out.mono ?_
    rintro e w' ⟨rfl, rfl⟩
    go_wp2_with fail
    go_ret
    exact ⟨rfl, rfl⟩

theorem nil_or {w : World} {v : Value} {xs : List Value} (h : Sl w v xs) : (v = .slice none 0 0 ∧ xs = []) ∨ ∃ ad n c, v = .slice (some ad) n c := by
  rcases h with h | ⟨ad, c, h, _⟩
  · exact .inl h
  · exact .inr ⟨ad, _, c, h⟩

theorem Try.infoI : (Try.prog.info? 3).map (fun i => (i.zero, i.size, i.bytes)) = some (some (.int .i64 0), 1, 8) := by kernel_rfl
/-- an own row of ints, whatever ints behind it -/
theorem wpList_append_is {w : World} {ops : Array Oper} {rest : List Oper} {o : Oper} {a : Act} {Q : Exit → Act → World → Prop} (base : Nat) (s x' : Operand) (hgd : o.guard = none)
    (ho : o.op = .call { callee := .builtin .append, args := #[s, x'], argTypes := #[22, 22] }) {v : Value} {n : Nat} {xs : List Int} (hr : w.ownsRow base 3 1 v n (ofK .i64 xs)) (hs : a.eval s = v)
    {vx : Value} {ys : List Int} (hx : a.eval x' = vx) (hsl : Sl w vx (ofK .i64 ys)) (N : Nat) (hN : n + ys.length = N) (hn : N ≤ 1000000000) (hb : base ≤ w.heap.size)
    (h : ∀ ao c w', w'.ownsRow base 3 1 (.slice ao N c) N (ofK .i64 (xs ++ ys)) → w.grownBy w' v.ownBlock → ((Value.slice ao N c).ownBlock = v.ownBlock ∨ (Value.slice ao N c).ownBlock = some w.heap.size) → wpList Try.prog ops Q rest (a.put o.dst (.slice ao N c)) w') :
    wpList Try.prog ops Q (o :: rest) a w := by
  obtain ⟨i0, hi, hz0, hz1, hz2⟩ := info_parts Try.infoI
  refine wpList_append_sl w hgd s x' _ ho base 3 i0 (.int .i64 0) 8 Try.underlying22 hi hz0 hz1 hz2 rfl v n (ofK .i64 xs) hs hr vx (ofK .i64 ys) hx hsl (one_ofK _ _) N (by rw [length_ofK]; exact hN) (by unfold maxLen; omega) (by omega) hb ?_
  intro ao c w' hown hgr hbl
  refine h ao c w' ?_ hgr hbl
  have e : ofK .i64 (xs ++ ys) = ofK .i64 xs ++ ofK .i64 ys := by simp [ofK]
  rw [e]; exact hown
/-- a row of no ints, made -/
theorem wpList_slice_is0 (w : World) {ops : Array Oper} {rest : List Oper} {o : Oper} {a : Act} {Q : Exit → Act → World → Prop} (hgd : o.guard = none) (ho : o.op = .buildSlice 22 0 #[])
    (h : ∀ w', w'.ownsRow w.heap.size 3 1 (.slice (some ⟨w.heap.size, 0, none⟩) 0 0) 0 (ofK .i64 ([] : List Int)) → Below w.heap.size w w' → w'.heap.size = w.heap.size + 1 → wpList Try.prog ops Q rest (a.put o.dst (.slice (some ⟨w.heap.size, 0, none⟩) 0 0)) w') :
    wpList Try.prog ops Q (o :: rest) a w := by
  refine wpList_plain hgd fun K hK => ?_
  have hrun : (execOp a.eval o).run Try.prog w = .ok (.value (.slice (some ⟨w.heap.size, 0, none⟩) 0 0)) (w.alloc (.cells #[] 3)) := by
    have hb : (Instr.buildSlice 22 0 #[]).run Try.prog w = .ok (.slice (some ⟨w.heap.size, 0, none⟩) 0 0) (w.alloc (.cells #[] 3)) := by
      have sz : ∀ w, (sizeOf 3).run Try.prog w = .ok 1 w := fun w => by kernel_rfl
      have zv : ∀ w, (zeroValue 3).run Try.prog w = .ok (.int .i64 0) w := fun w => by kernel_rfl
      have nr : ∀ cs, (newRow 3 cs).run Try.prog w = .ok ⟨w.heap.size, 0, none⟩ (w.alloc (.cells cs 3)) := fun cs => by simp [newRow, Result.andThen]
      simp [Instr.buildSlice, run_underlying Try.underlying22, sz, zv, Result.andThen, Instr.fill, nr]
      have e : ∀ f : Nat → Value, Array.map f (Array.range 0) = #[] := fun f => Array.eq_empty_of_size_eq_zero (by simp)
      rw [e]
    unfold execOp
    simp [ho, hb, Result.andThen]
  unfold Oper.wp
  rw [hrun]
  refine hK _ _ (h _ ⟨rfl, .inr ⟨w.heap.size, 0, #[], rfl, Nat.le_refl _, ?_, Nat.le_refl _, Nat.zero_le _, rfl, rfl⟩⟩ ((Below.refl _ _).alloc (Nat.le_refl _) _) (World.size_alloc _ _))
  have := Blk.new w [] 3
  unfold Blk at this
  exact this

set_option maxRecDepth 100000 in
set_option maxHeartbeats 1000000 in
theorem clone_any (v : Value) (l : List Int) (w : World) (hv : Sl w v (ofK .i64 l)) (hl : l.length ≤ 1000000000) :
    Calls Try.prog 46 #[v] w (fun e w' => ∃ v', e = .returned v' ∧ w'.ownsRow w.heap.size 3 1 v' l.length (ofK .i64 l) ∧ Below w.heap.size w w') := by
  have q22 : ∀ (w : World) (a : Option Addr) (n c n' c' : Nat), (binOp .eql 22 (.slice a n c) (.slice none n' c')).run Try.prog w = .ok (.bool a.isNone) w := fun w a n c n' c' => Lib.run_eql_slice_nil w _ _ a n c n' c' Try.underlying22
  rcases nil_or hv with ⟨rfl, h0⟩ | ⟨ad, n, c, rfl⟩
  · have : l = [] := by cases l with
      | nil => rfl
      | cons x t => cases h0
    subst this
    clear hv h0 hl
    go_enter Try.func46, Try.ntmps46
    go_wp2_with fail
    go_ret
    exact ⟨_, rfl, World.ownsRow_nil _ _ _ _, Below.refl _ _⟩
  · have HV := Lib.hid hv
    have HL := Lib.hid hl
    clear hv hl
    go_enter Try.func46, Try.ntmps46
    go_wp2_with (first
      | ((with_reducible refine wpList_slice_is0 w rfl rfl ?_); intro w1 hown hbel hsz; have H1 := Lib.hid (And.intro hown hbel); clear hown hbel hsz)
      | (at_builtin; refine wpList_append_is w.heap.size (.tmp 5) (.tmp 6) rfl rfl H1.out.1 rfl rfl (HV.out.below H1.out.2 (Nat.le_refl _)) l.length (by omega) HL.out H1.out.2.size ?_))
    intro ao c2 w2 hown hgr _
    have hb2 : Below w.heap.size w w2 := H1.out.2.grown hgr H1.out.2.size (fun j e => by cases e; exact Nat.le_refl _)
    have H2 := Lib.hid (And.intro hown hb2)
    clear hown hgr hb2
    go_wp2_with fail
    go_ret
    exact ⟨_, rfl, by simpa using H2.out.1, H2.out.2⟩

end Go.Proofs.Ytampheimonmggaa
