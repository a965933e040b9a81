/-
  Package perm: Check, walked. Conditions: lengths within the form's reach.
-/
import Derived.Test.YtampheimonmggaaPmB
import Derived.Test.YtampheimonmggaaWide
namespace Go.Proofs.Ytampheimonmggaa
open Go Go.RowKit
set_option linter.unusedSimpArgs false

/-- permissions -/
structure PmD where
  o : Int
  e : Int
  r : List Int
  q : List Int
  g : List Int
def pmC (o e : Int) (vr vq vg : Value) : List Value := [.int .i64 o, .int .i64 e, vr, vq, vg]
theorem Try.infoPm : (Try.prog.info? 24).map (·.size) = some 5 := by kernel_rfl
theorem Try.zeroPm : ∀ w, (zeroValue 24).run Try.prog w = .ok (.agg (pmC 0 0 (.slice none 0 0) (.slice none 0 0) (.slice none 0 0)).toArray) w := fun w => by kernel_rfl
theorem pmC_info (o e : Int) (vr vq vg : Value) : (Try.prog.info? 24).map (·.size) = some (pmC o e vr vq vg).length := Try.infoPm
theorem pmC_one (o e : Int) (ra qa ga : Option Addr) (rn rc qn qc gn gc : Nat) : ∀ v ∈ pmC o e (.slice ra rn rc) (.slice qa qn qc) (.slice ga gn gc), v.oneCell' = true := fun v hv => by
  simp only [pmC, List.mem_cons, List.not_mem_nil, or_false] at hv
  rcases hv with rfl | rfl | rfl | rfl | rfl <;> rfl
/-- the slices of permissions read so -/
def PmS (w : World) (p : PmD) (vr vq vg : Value) : Prop := Sl w vr (ofK .i64 p.r) ∧ Sl w vq (ofK .i64 p.q) ∧ Sl w vg (ofK .i64 p.g)
theorem PmS.below {w w' : World} {p : PmD} {vr vq vg : Value} (h : PmS w p vr vq vg) (hb : Below w.heap.size w w') : PmS w' p vr vq vg :=
  ⟨h.1.below hb (Nat.le_refl _), h.2.1.below hb (Nat.le_refl _), h.2.2.below hb (Nat.le_refl _)⟩
def otherB (o n : Int) : Bool := userB n && (n != o)
def okB (p : PmD) : Bool := userB p.o && (decide (1 ≤ p.e) && (decide (p.e ≤ 8) && (riseB (otherB p.o) p.r && (riseB (otherB p.o) p.q && (riseB groupB p.g && !(p.q.any (fun n => !(p.r.any (n == ·)))))))))

theorem other_any (n o : Int) (b : Nat) (w : World) (hc : w.cell? ⟨b, 0, none⟩ = some (.int .i64 o)) :
    Calls Try.prog 29 #[.int .i64 n, .pointer (some ⟨b, 0, none⟩)] w (fun e w' => e = .returned (.bool (otherB o n)) ∧ w = w') := by
  have HU := Lib.hid (user_any n w)
  obtain ⟨u, hu⟩ : ∃ u, userB n = u := ⟨_, rfl⟩
  have HO := Lib.hid (show otherB o n = (u && (n != o)) by rw [← hu]; rfl)
  rw [hu] at HU
  rw [HO.out]
  clear hu
  cases u
  · go_enter Try.func29, Try.ntmps29
    go_wp2_with fail
    refine HU.out.mono ?_
    rintro e w' ⟨rfl, rfl⟩
    go_wp2_with fail
    go_ret
    exact ⟨rfl, rfl⟩
  · obtain ⟨z, hz⟩ : ∃ z, (n != o) = z := ⟨_, rfl⟩
    rw [hz]
    cases z
    · go_enter Try.func29, Try.ntmps29
      go_wp2_with fail
      refine HU.out.mono ?_
      rintro e w' ⟨rfl, rfl⟩
      go_wp2_with fail
      go_ret
      exact ⟨rfl, rfl⟩
    · go_enter Try.func29, Try.ntmps29
      go_wp2_with fail
      refine HU.out.mono ?_
      rintro e w' ⟨rfl, rfl⟩
      go_wp2_with fail
      go_ret
      exact ⟨rfl, rfl⟩

theorem writer_any (n : Int) (b : Nat) (vr : Value) (r : List Int) (w : World) (hc : w.cell? ⟨b, 2, none⟩ = some vr) (hr : Sl w vr (ofK .i64 r)) :
    Calls Try.prog 33 #[.int .i64 n, .pointer (some ⟨b, 0, none⟩)] w (fun e w' => e = .returned (.bool (!(r.any (n == ·)))) ∧ w = w') := by
  have HU := Lib.hid (contains_any n vr r w hr)
  obtain ⟨ao, c, rfl, -⟩ := hr.shape
  generalize r.any (n == ·) = u at HU ⊢
  generalize (ofK .i64 r).length = rl at hc HU
  clear hr
  go_enter Try.func33, Try.ntmps33
  go_wp2_with fail
  refine HU.out.mono ?_
  rintro e w' ⟨rfl, rfl⟩
  go_wp2_with fail
  go_ret
  exact ⟨rfl, rfl⟩

theorem run_callFunc29 (args : Array Value) (w : World) : Sem.run Try.prog (callFunc 29 args) w = .ok (.enter 29 args) w :=
  run_callFunc_body Try.func29 (by kernel_rfl) (by kernel_rfl) args w
theorem run_callFunc33 (args : Array Value) (w : World) : Sem.run Try.prog (callFunc 33 args) w = .ok (.enter 33 args) w :=
  run_callFunc_body Try.func33 (by kernel_rfl) (by kernel_rfl) args w
theorem run_callFunc31 (args : Array Value) (w : World) : Sem.run Try.prog (callFunc 31 args) w = .ok (.enter 31 args) w :=
  run_callFunc_body Try.func31 (by kernel_rfl) (by kernel_rfl) args w

set_option maxRecDepth 100000 in
set_option maxHeartbeats 4000000 in
theorem check_any (p : PmD) (vr vq vg : Value) (w : World) (hp : PmS w p vr vq vg) :
    Calls Try.prog 10 #[.agg (pmC p.o p.e vr vq vg).toArray] w (fun e w' => e = .returned (.int .i64 (if okB p = true then 0 else 210)) ∧ Below w.heap.size w w') := by
  obtain ⟨o, pe, r, q, g⟩ := p
  have HP := Lib.hid hp
  obtain ⟨ra, rc, rfl, -⟩ := hp.1.shape
  obtain ⟨qa, qc, rfl, -⟩ := hp.2.1.shape
  obtain ⟨ga, gc, rfl, -⟩ := hp.2.2.shape
  simp only at hp HP ⊢
  rw [length_ofK] at HP ⊢
  rw [length_ofK] at HP ⊢
  rw [length_ofK] at HP ⊢
  have HC := Lib.hid (fun (w1 : World) (hb : Blk w1 w.heap.size 24 (pmC o pe (.slice ra r.length rc) (.slice qa q.length qc) (.slice ga g.length gc))) (hbel : Below w.heap.size w w1) =>
    show Calls Try.prog 26 #[.int .i64 o] w1 (fun e w' => e = .returned (.bool (userB o)) ∧ w1 = w') ∧
      Calls Try.prog 30 #[.slice ra r.length rc, .func (.func 29) #[] #[.pointer (some ⟨w.heap.size, 0, none⟩)]] w1 (fun e w' => e = .returned (.bool (riseB (otherB o) r)) ∧ w1 = w') ∧
      Calls Try.prog 30 #[.slice qa q.length qc, .func (.func 29) #[] #[.pointer (some ⟨w.heap.size, 0, none⟩)]] w1 (fun e w' => e = .returned (.bool (riseB (otherB o) q)) ∧ w1 = w') ∧
      Calls Try.prog 30 #[.slice ga g.length gc, .func (.func 31) #[] #[]] w1 (fun e w' => e = .returned (.bool (riseB groupB g)) ∧ w1 = w') ∧
      Calls Try.prog 32 #[.slice qa q.length qc, .func (.func 33) #[] #[.pointer (some ⟨w.heap.size, 0, none⟩)]] w1 (fun e w' => e = .returned (.bool (q.any (fun n => !(r.any (n == ·))))) ∧ w1 = w')
    from ⟨user_any o w1,
      rising_any (otherB o) 29 [.pointer (some ⟨w.heap.size, 0, none⟩)] _ r w1 (HP.out.below hbel).1 run_callFunc29 (fun n => other_any n o _ w1 (hb.cell 0)),
      rising_any (otherB o) 29 [.pointer (some ⟨w.heap.size, 0, none⟩)] _ q w1 (HP.out.below hbel).2.1 run_callFunc29 (fun n => other_any n o _ w1 (hb.cell 0)),
      rising_any groupB 31 [] _ g w1 (HP.out.below hbel).2.2 run_callFunc31 (fun n => group_any n w1),
      containsF_any (fun n => !(r.any (n == ·))) 33 [.pointer (some ⟨w.heap.size, 0, none⟩)] _ q w1 (HP.out.below hbel).2.1 run_callFunc33 (fun n => writer_any n _ _ r w1 (hb.cell 2) (HP.out.below hbel).1)⟩)
  have hok : okB ⟨o, pe, r, q, g⟩ = (userB o && (decide (1 ≤ pe) && (decide (pe ≤ 8) && (riseB (otherB o) r && (riseB (otherB o) q && (riseB groupB g && !(q.any (fun n => !(r.any (n == ·)))))))))) := rfl
  obtain ⟨b1, hb1⟩ : ∃ b, userB o = b := ⟨_, rfl⟩
  obtain ⟨b2, hb2⟩ : ∃ b, riseB (otherB o) r = b := ⟨_, rfl⟩
  obtain ⟨b3, hb3⟩ : ∃ b, riseB (otherB o) q = b := ⟨_, rfl⟩
  obtain ⟨b4, hb4⟩ : ∃ b, riseB groupB g = b := ⟨_, rfl⟩
  obtain ⟨b5, hb5⟩ : ∃ b, q.any (fun n => !(r.any (n == ·))) = b := ⟨_, rfl⟩
  rw [hb1, hb2, hb3, hb4, hb5] at HC hok
  rw [hok]
  generalize r.length = rl at HC ⊢
  generalize q.length = ql at HC ⊢
  generalize g.length = gl at HC ⊢
  clear hok hb1 hb2 hb3 hb4 hb5 HP hp
  by_cases h1 : 1 ≤ pe
  · by_cases h8 : pe ≤ 8
    · simp only [h1, h8, decide_true, Bool.true_and]
      go_enter Try.func10, Try.ntmps10
      go_wp2_with ((with_reducible refine wpList_box_blk w rfl 24 (.tmp 0) rfl (pmC o pe (.slice ra rl rc) (.slice qa ql qc) (.slice ga gl gc)) rfl ?_); intro w1 hb hbel hsz; have c0 := hb.cell 0; have c1 := hb.cell 1; have c2 := hb.cell 2; have c3 := hb.cell 3; have c4 := hb.cell 4; simp only [pmC, List.getElem?_cons_zero, List.getElem?_cons_succ] at c0 c1 c2 c3 c4; have H1 := Lib.hid hbel; have HD := Lib.hid (HC.out w1 hb hbel); clear hb hbel hsz)
      go_wp2_with fail
      refine HD.out.1.mono ?_
      rintro e w' ⟨rfl, rfl⟩
      cases b1
      · skip
        go_wp2_with fail
        go_ret
        exact ⟨rfl, H1.out⟩
      · skip
        go_wp2_with fail
        refine HD.out.2.1.mono ?_
        rintro e w' ⟨rfl, rfl⟩
        cases b2
        · skip
          go_wp2_with fail
          go_ret
          exact ⟨rfl, H1.out⟩
        · skip
          go_wp2_with fail
          refine HD.out.2.2.1.mono ?_
          rintro e w' ⟨rfl, rfl⟩
          cases b3
          · skip
            go_wp2_with fail
            go_ret
            exact ⟨rfl, H1.out⟩
          · skip
            go_wp2_with fail
            refine HD.out.2.2.2.1.mono ?_
            rintro e w' ⟨rfl, rfl⟩
            cases b4
            · skip
              go_wp2_with fail
              go_ret
              exact ⟨rfl, H1.out⟩
            · skip
              go_wp2_with fail
              refine HD.out.2.2.2.2.mono ?_
              rintro e w' ⟨rfl, rfl⟩
              cases b5
              · skip
                go_wp2_with fail
                go_ret
                exact ⟨rfl, H1.out⟩
              · skip
                go_wp2_with fail
                go_ret
                exact ⟨rfl, H1.out⟩
    · simp only [h1, h8, decide_true, decide_false, Bool.true_and, Bool.false_and, Bool.and_false]
      go_enter Try.func10, Try.ntmps10
      go_wp2_with ((with_reducible refine wpList_box_blk w rfl 24 (.tmp 0) rfl (pmC o pe (.slice ra rl rc) (.slice qa ql qc) (.slice ga gl gc)) rfl ?_); intro w1 hb hbel hsz; have c0 := hb.cell 0; have c1 := hb.cell 1; have c2 := hb.cell 2; have c3 := hb.cell 3; have c4 := hb.cell 4; simp only [pmC, List.getElem?_cons_zero, List.getElem?_cons_succ] at c0 c1 c2 c3 c4; have H1 := Lib.hid hbel; have HD := Lib.hid (HC.out w1 hb hbel); clear hb hbel hsz)
      go_wp2_with fail
      refine HD.out.1.mono ?_
      rintro e w' ⟨rfl, rfl⟩
      cases b1
      · skip
        go_wp2_with fail
        go_ret
        exact ⟨rfl, H1.out⟩
      · skip
        go_wp2_with fail
        go_ret
        exact ⟨rfl, H1.out⟩
  · simp only [h1, decide_false, Bool.false_and, Bool.and_false]
    go_enter Try.func10, Try.ntmps10
    go_wp2_with ((with_reducible refine wpList_box_blk w rfl 24 (.tmp 0) rfl (pmC o pe (.slice ra rl rc) (.slice qa ql qc) (.slice ga gl gc)) rfl ?_); intro w1 hb hbel hsz; have c0 := hb.cell 0; have c1 := hb.cell 1; have c2 := hb.cell 2; have c3 := hb.cell 3; have c4 := hb.cell 4; simp only [pmC, List.getElem?_cons_zero, List.getElem?_cons_succ] at c0 c1 c2 c3 c4; have H1 := Lib.hid hbel; have HD := Lib.hid (HC.out w1 hb hbel); clear hb hbel hsz)
    go_wp2_with fail
    refine HD.out.1.mono ?_
    rintro e w' ⟨rfl, rfl⟩
    cases b1
    · skip
      go_wp2_with fail
      go_ret
      exact ⟨rfl, H1.out⟩
    · skip
      go_wp2_with fail
      go_ret
      exact ⟨rfl, H1.out⟩

theorem check_of (p : PmD) (b : Bool) (hb : okB p = b) (vr vq vg : Value) (w : World) (hp : PmS w p vr vq vg) :
    Calls Try.prog 10 #[.agg (pmC p.o p.e vr vq vg).toArray] w (fun e w' => e = .returned (.int .i64 (if b = true then 0 else 210)) ∧ Below w.heap.size w w') := by
  rw [← hb]; exact check_any p vr vq vg w hp

end Go.Proofs.Ytampheimonmggaa
