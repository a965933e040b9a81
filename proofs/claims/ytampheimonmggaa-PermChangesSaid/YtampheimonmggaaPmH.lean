/-
  perm.without, next, walked. Conditions: lengths within the form's reach.
-/
import Derived.Test.YtampheimonmggaaPmG
namespace Go.Proofs.Ytampheimonmggaa
open Go Go.RowKit Go.Sort
set_option linter.unusedSimpArgs false

/-- a value of one cell, boxed -/
theorem wpList_box_val {P : Program} (w : World) {ops : Array Oper} {rest : List Oper} {o : Oper} {a : Act} {Q : Exit → Act → World → Prop} (hgd : o.guard = none) (t : TypeId) (x : Operand) (ho : o.op = .box t x) (v : Value) (hv : v.cells = #[v]) (hx : a.eval x = v)
    (h : ∀ w', Blk w' w.heap.size t [v] → Below w.heap.size w w' → w'.heap.size = w.heap.size + 1 → wpList P ops Q rest (a.put o.dst (.pointer (some ⟨w.heap.size, 0, none⟩))) w') : wpList P ops Q (o :: rest) a w := by
  refine wpList_plain hgd fun K' hK' => ?_
  have hrun : (execOp a.eval o).run P w = .ok (.value (.pointer (some ⟨w.heap.size, 0, none⟩))) (w.alloc (.cells [v].toArray t)) := by
    simp [execOp, ho, Instr.box, hx, Result.andThen, run_newVar', hv]
  unfold Oper.wp
  rw [hrun]
  exact hK' _ _ (h _ (Blk.new w [v] t) ((Below.refl _ _).alloc (Nat.le_refl _) _) (by simp))

theorem strike_any (x n : Int) (b : Nat) (w : World) (hc : w.cell? ⟨b, 0, none⟩ = some (.int .i64 x)) :
    Calls Try.prog 52 #[.int .i64 n, .pointer (some ⟨b, 0, none⟩)] w (fun e w' => e = .returned (.bool (x == n)) ∧ w = w') := by
  obtain ⟨z, hz⟩ : ∃ z, (x == n) = z := ⟨_, rfl⟩
  rw [hz]
  cases z
  · go_enter Try.func52, Try.ntmps52
    go_wp2_with fail
    go_ret
    exact ⟨rfl, rfl⟩
  · go_enter Try.func52, Try.ntmps52
    go_wp2_with fail
    go_ret
    exact ⟨rfl, rfl⟩
theorem run_callFunc52 (args : Array Value) (w : World) : Sem.run Try.prog (callFunc 52 args) w = .ok (.enter 52 args) w :=
  run_callFunc_body Try.func52 (by kernel_rfl) (by kernel_rfl) args w

set_option maxRecDepth 100000 in
set_option maxHeartbeats 2000000 in
theorem without_any (x : Int) (v : Value) (l : List Int) (w : World) (hv : Sl w v (ofK .i64 l)) (hl : l.length ≤ 1000000) :
    Calls Try.prog 35 #[v, .int .i64 x] w (InsP w.heap.size w (keepL (x == ·) l)) := by
  have HV := Lib.hid (And.intro hv hl)
  obtain ⟨ao, n, c, rfl⟩ : ∃ ao n c, v = .slice ao n c := by obtain ⟨ao, c, e, _⟩ := hv.nums; exact ⟨_, _, _, e⟩
  clear hv hl
  go_enter Try.func35, Try.ntmps35
  go_wp2_with ((with_reducible refine wpList_box_val w rfl 3 (.tmp 1) rfl (.int .i64 x) rfl rfl ?_); intro w1 hb hbel hsz; have H1 := Lib.hid (And.intro hb (And.intro hbel hsz)); clear hb hbel hsz)
  refine (clone_any _ l w1 (HV.out.1.below H1.out.2.1 (Nat.le_refl _)) (by have := HV.out.2; omega)).mono ?_
  rintro e w2 ⟨v2, rfl, hown, hb2⟩
  have H2 := Lib.hid (And.intro hown (And.intro hb2 (H1.out.1.below hb2 H1.out.1.lt)))
  obtain ⟨ao2, c2, rfl⟩ := own_shape hown
  clear hown hb2
  go_wp2_with fail
  refine (delete_any w1.heap.size (x == ·) 52 [.pointer (some ⟨w.heap.size, 0, none⟩)] _ l w2 H2.out.1 H2.out.2.1.size HV.out.2 run_callFunc52 (fun n w3 hc => strike_any x n _ w3 ((H2.out.2.2.keep hc (fun hk => by have := (H2.out.1.lt _ hk).1; have := H1.out.2.2; omega)).cell 0))).mono ?_
  rintro e w3 ⟨ao3, n3, c3, rfl, h3, h4, h5⟩
  have H3 := Lib.hid (show Sl w3 (.slice ao3 n3 c3) (ofK .i64 (keepL (x == ·) l)) ∧ Abv w.heap.size (.slice ao3 n3 c3) ∧ Below w.heap.size w w3 from ⟨h3, fun k hk => Nat.le_trans H1.out.2.1.size (h5 k hk), (below_thn H1.out.2.1 H2.out.2.1 (Nat.le_refl _)).trans (h4.mono (by have := H1.out.2.2; omega))⟩)
  clear h3 h4 h5
  go_wp2_with fail
  go_ret
  exact ⟨_, _, _, rfl, H3.out.1, H3.out.2.2, H3.out.2.1⟩

/-- what a change answers, and leaves of the permissions -/
def AbvS (B : Nat) (vr vq vg : Value) : Prop := Abv B vr ∧ Abv B vq ∧ Abv B vg
def DoneP (w : World) (g B : Nat) (r : Int × PmD) (e : Ending) (w' : World) : Prop :=
  e = .returned (.int .i64 r.1) ∧ ∃ vr vq vg, Blk w' g 24 (pmC r.2.o r.2.e vr vq vg) ∧ PmS w' r.2 vr vq vg ∧ Ch (· = g) w w' ∧ AbvS B vr vq vg
def nextR (p : PmD) : Int × PmD := if p.e = 8 then (212, p) else (0, { p with e := p.e + 1 })

theorem PmS.ch {w w' : World} {p : PmD} {g : Nat} {vr vq vg : Value} (h : PmS w p vr vq vg) (hc : Ch (· = g) w w') (hn : (∀ k, vr.ownBlock = some k → k ≠ g) ∧ (∀ k, vq.ownBlock = some k → k ≠ g) ∧ (∀ k, vg.ownBlock = some k → k ≠ g)) : PmS w' p vr vq vg :=
  ⟨h.1.keep hc hn.1, h.2.1.keep hc hn.2.1, h.2.2.keep hc hn.2.2⟩

/-- the slices' blocks are others than g -/
def Off (g : Nat) (vr vq vg : Value) : Prop := (∀ k, vr.ownBlock = some k → k ≠ g) ∧ (∀ k, vq.ownBlock = some k → k ≠ g) ∧ (∀ k, vg.ownBlock = some k → k ≠ g)

set_option maxRecDepth 100000 in
theorem next_any (p : PmD) (g B : Nat) (vr vq vg : Value) (w : World) (hb : Blk w g 24 (pmC p.o p.e vr vq vg)) (hp : PmS w p vr vq vg) (hn : Off g vr vq vg) (hB : AbvS B vr vq vg) (h1 : 1 ≤ p.e) (h8 : p.e ≤ 8) :
    Calls Try.prog 36 #[.pointer (some ⟨g, 0, none⟩)] w (fun e w' => DoneP w g B (nextR p) e w') := by
  have c1 : w.cell? ⟨g, 1, none⟩ = some (.int .i64 p.e) := hb.cell 1
  have f1 := hb.free 1
  have HB := Lib.hid (And.intro hb (And.intro hp (And.intro hn hB)))
  obtain ⟨o, pe, r, q, gg⟩ := p
  simp only at c1 h1 h8 HB
  clear hb hp hn hB
  by_cases h : pe = 8
  · subst h
    have HR := Lib.hid (show nextR ⟨o, 8, r, q, gg⟩ = (212, ⟨o, 8, r, q, gg⟩) from rfl)
    rw [HR.out]
    go_enter Try.func36, Try.ntmps36
    go_wp2_with fail
    go_ret
    exact ⟨rfl, vr, vq, vg, HB.out.1, HB.out.2.1, Ch.refl _ _, HB.out.2.2.2⟩
  · have HR := Lib.hid (show nextR ⟨o, pe, r, q, gg⟩ = (0, ⟨o, pe + 1, r, q, gg⟩) from if_neg h)
    have hw : IntKind.i64.wrap (pe + 1) = pe + 1 := by rw [IntKind.wrap_i64]; omega
    have hbq : (pe == 8) = false := by simpa using h
    rw [HR.out]
    clear h
    go_enter Try.func36, Try.ntmps36
    go_wp2_with fail
    go_ret
    exact ⟨rfl, vr, vq, vg, HB.out.1.set 1 _, HB.out.2.1.ch (Ch.set w ⟨g, 1, none⟩ _) HB.out.2.2.1, Ch.set w ⟨g, 1, none⟩ _, HB.out.2.2.2⟩

end Go.Proofs.Ytampheimonmggaa
