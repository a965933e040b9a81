/-
  The iterator over the loose writes, walked. Conditions: at most 2^30 writes.
-/
import Derived.Test.YticcjaccpcnjhaaDkH
import Derived.RangeFuncNested
import Derived.RangeFuncBound
import Derived.RangeFuncCalls
import Derived.RangeFuncLeaves
import Derived.Shelf.Abstract
import Derived.Shelf.RegionOpen
import Derived.WalkKit
import Derived.OwnWalkIn
import Derived.TacticsInMore
import Derived.LoopNIn
import Derived.LoopIn
namespace Go.Proofs.Yticcjaccpcnjhaa
open Go Go.RowKit Go.Shelf
attribute [local go_sem] Oper.semAt_some

section
variable {F : Fence} {nF : Nat} {P : Program}
theorem wpListIn_load_any (w : World) {ops : Array Oper} {rest : List Oper} {o : Oper} {a : Act} {Q : Exit → Act → World → Prop} (hgd : o.guard = none) (ty : TypeId) (x : Operand) (ho : o.op = .load ty x)
    (b off : Nat) (hx : a.eval x = .pointer (some ⟨b, off, none⟩)) (cs : List Value) (d : TypeDesc) (hc : w.rangeAt b off cs)
    (hu : P.underlying ty = some d) (hd : d.isRow = true) (hi : (P.info? ty).map (·.size) = some cs.length)
    (h : wpListIn F nF P ops Q rest (a.put o.dst (.agg cs.toArray)) w) : wpListIn F nF P ops Q (o :: rest) a w := by
  refine wpListIn_plain hgd fun K' hK' => ?_
  unfold Oper.wpIn
  refine ⟨by simp [Oper.about, ho], ?_⟩
  rw [Oper.semAt_plain F _ _ (by rw [ho]; intro c hc'; cases hc'), exec_load_mid ho hx hc hu hd hi]
  exact hK' _ _ h

theorem wpListIn_alloc_blk (w : World) {ops : Array Oper} {rest : List Oper} {o : Oper} {a : Act} {Q : Exit → Act → World → Prop} (hgd : o.guard = none) (t : TypeId) (ho : o.op = .alloc t) (zs : List Value) (hz : ∀ w, (zeroValue t).run P w = .ok (.agg zs.toArray) w)
    (h : ∀ w', Blk w' w.heap.size t zs → w' = w.alloc (.cells zs.toArray t) → wpListIn F nF P ops Q rest (a.put o.dst (.pointer (some ⟨w.heap.size, 0, none⟩))) w') : wpListIn F nF P ops Q (o :: rest) a w := by
  refine wpListIn_plain hgd fun K' hK' => ?_
  have hrun : (execOp a.eval o).run P w = .ok (.value (.pointer (some ⟨w.heap.size, 0, none⟩))) (w.alloc (.cells zs.toArray t)) := by
    simp [execOp, ho, Instr.alloc, hz, Result.andThen, run_newVar', Value.cells]
  unfold Oper.wpIn
  refine ⟨by simp [Oper.about, ho], ?_⟩
  rw [Oper.semAt_plain F _ _ (by rw [ho]; intro c hc'; cases hc'), hrun]
  exact hK' _ _ (h _ (Blk.new w zs t) rfl)

theorem wpListIn_store_blk (w : World) {ops : Array Oper} {rest : List Oper} {o : Oper} {a : Act} {Q : Exit → Act → World → Prop} (hgd : o.guard = none) (ty : TypeId) (x y : Operand) (ho : o.op = .store ty x y)
    (g : Nat) (e : TypeId) (xs cells : List Value) (hb : Blk w g e xs) (hx : a.eval x = .pointer (some ⟨g, 0, none⟩)) (hy : a.eval y = .agg cells.toArray) (hl : cells.length = xs.length) (hi : (P.info? ty).map (·.size) = some cells.length) (h1 : ∀ v ∈ cells, v.oneCell' = true)
    (h : ∀ w', Blk w' g e cells → w' = w.setCells g 0 cells → wpListIn F nF P ops Q rest (a.put o.dst undef) w') : wpListIn F nF P ops Q (o :: rest) a w := by
  refine wpListIn_plain hgd fun K' hK' => ?_
  have hrun : (execOp a.eval o).run P w = .ok .skip (w.setCells g 0 cells) := by
    have := run_storeAt_mid (P := P) w g 0 ty cells.toArray (fun j hj => by
      have hj' : j < xs.length := by simp at hj; omega
      rw [hb.cell, hb.free]
      simp [hj']) (by simpa using hi) (all_oneCell_toArray h1)
    simp [execOp, ho, hx, hy, this, Result.andThen]
  unfold Oper.wpIn
  refine ⟨by simp [Oper.about, ho], ?_⟩
  rw [Oper.semAt_plain F _ _ (by rw [ho]; intro c hc'; cases hc'), hrun]
  have hb' := hb.setCells cells 0
  rw [setFrom_all cells xs hl] at hb'
  exact hK' _ _ (h _ hb' rfl)
end

/-- below n only block b has turned -/
def Kq (n b : Nat) (W W' : World) : Prop := ∀ k, k < n → k ≠ b → W'.heap[k]? = W.heap[k]?
theorem Kq.trans {n b : Nat} {A B C : World} (h : Kq n b A B) (k : Kq n b B C) : Kq n b A C := fun i hi hb => (k i hi hb).trans (h i hi hb)
theorem Kq.putObj {n b : Nat} {w : World} (hn : n ≤ w.heap.size) (W : World) (l : Nat) (o o' : Obj) (hl : w.heap.size ≤ l) (_ : W.heap[l]? = some o) (_ : o.isCells = false) (_ : o.isWalk = false) : Kq n b W (W.putObj l o') := fun k hk _ => World.putObj_heap_other (fun e => by omega)
theorem Kq.cell {n b : Nat} {W W' : World} (h : Kq n b W W') {p : Addr} (hp : p.block < n) (hb : p.block ≠ b) : W'.cell? p = W.cell? p := World.cell?_of_block (w := W) (h p.block hp hb)
theorem Kq.of_ch {n b : Nat} {W W' : World} (h : Ch (· = b) W W') (hn : n ≤ W.heap.size) : Kq n b W W' := fun k hk hb => h.block k (by omega) hb

abbrev WrB := { e : Wr // IsB e.2 }

/-- what the iterator reads -/
structure BackW (n₁ bb Bs p : Nat) (lv : Value) (ls : List WrB) (W : World) : Prop where
  c0 : W.cell? ⟨Bs, 0, none⟩ = some (.pointer (some ⟨p, 0, none⟩))
  c2 : W.cell? ⟨p, 0 + 2, none⟩ = some lv
  row : 0 < ls.length → ∃ g cap, lv = .slice (some ⟨g, 0, none⟩) ls.length cap ∧ g < n₁ ∧ g ≠ bb ∧ ∀ k (hk : k < ls.length), W.rangeAt g (k * 65) (wrC ls[k].1)
  b0 : Bs < n₁ ∧ Bs ≠ bb
  p0 : p < n₁ ∧ p ≠ bb

theorem BackW.kq {n₁ bb Bs p : Nat} {lv : Value} {ls : List WrB} {W W' : World} (h : BackW n₁ bb Bs p lv ls W) (k : Kq n₁ bb W W') : BackW n₁ bb Bs p lv ls W' :=
  ⟨(k.cell (p := ⟨Bs, 0, none⟩) h.b0.1 h.b0.2).trans h.c0, (k.cell (p := ⟨p, 0 + 2, none⟩) h.p0.1 h.p0.2).trans h.c2, fun h0 => by
    obtain ⟨g, cap, h1, h2, h3, h4⟩ := h.row h0
    exact ⟨g, cap, h1, h2, h3, fun i hi j v hv => (k.cell (p := ⟨g, _, none⟩) h2 h3).trans (h4 i hi j v hv)⟩, h.b0, h.p0⟩

set_option maxRecDepth 100000 in
set_option maxHeartbeats 2000000 in
theorem back1_in (F : Fence) (n : Nat) (h52 : F.fn 52) (hro : F.round = none) (hn : 1 ≤ n) (l n₁ bb Bs p : Nat) (ao : Option Addr) (cp : Nat) (ls : List WrB) (hlen : ls.length ≤ 1073741824) (J Jx : List WrB → World → Prop)
    (hY : ∀ pre x W, J pre W → pre.length < ls.length → YieldAt F (n - 1) Try.prog l #[.agg (wrC x.1).toArray] W fun e W' =>
      (e = .returned (.bool true) ∧ J (pre ++ [x]) W' ∧ Kq n₁ bb W W') ∨ (e = .returned (.bool false) ∧ Jx (pre ++ [x]) W'))
    (W : World) (hb : BackW n₁ bb Bs p (.slice ao ls.length cp) ls W) (h0 : J [] W) :
    CallsIn F n Try.prog 52 #[.func (.yield l) #[] #[], .pointer (some ⟨Bs, 0, none⟩)] W fun e W' => (∃ v, e = .returned v) ∧
      ((∃ ys, ys = ls.reverse ∧ J ys W') ∨ (∃ pre, pre <+: ls.reverse ∧ Jx pre W')) := by
  refine callsIn_of_wp Try.func52 rfl h52 ?_ hro
  simp only [Try.ntmps52, List.size_toArray, List.length_cons, List.length_nil, Nat.reduceAdd, Nat.reduceSub, Array.replicate_succ, Array.replicate_zero, List.push_toArray, List.append_toArray, List.nil_append, List.cons_append]
  have k0 := hb.c0
  have k2 := hb.c2
  have HB := Lib.hid hb
  obtain ⟨L, hL⟩ : ∃ L, L = ls.length := ⟨_, rfl⟩
  rw [← hL] at k2 hlen
  have HL := Lib.hid hL
  clear hb hL
  gi_wp2
  gi_loopw [3] (fun i wr => ∃ r : Nat, r ≤ L ∧ i = .int .i64 r ∧ J (ls.reverse.take (L - r)) wr ∧ Hid (BackW n₁ bb Bs p (.slice ao L cp) ls wr)) (fun i _ => (intOf i).toNat)
  case atStart => exact ⟨L, Nat.le_refl _, rfl, by simpa using h0, by rw [HL.out]; exact HB⟩
  case round =>
    obtain ⟨r, hr, rfl, hJs, HW⟩ := hrel
    cases r with
    | zero =>
      gi_wp2
      go_end0
      refine ⟨⟨_, rfl⟩, .inl ⟨_, rfl, ?_⟩⟩
      rw [List.take_of_length_le (by rw [List.length_reverse, ← HL.out]; omega)] at hJs
      exact hJs
    | succ q =>
      have hql : q < ls.length := by rw [← HL.out]; omega
      obtain ⟨g, cap, he, hg1, hg2, hrow⟩ := HW.out.row (by omega)
      simp only [Value.slice.injEq] at he
      obtain ⟨rfl, -, rfl⟩ := he
      obtain ⟨E, hE⟩ : ∃ E, E = ls[q] := ⟨_, rfl⟩
      have hr1 : wr.rangeAt g (q * 65) (wrC E.1) := by rw [hE]; exact hrow q hql
      have hpre : ls.reverse.take (L - q) = ls.reverse.take (L - (q + 1)) ++ [E] := by
        have hlt : L - (q + 1) < ls.reverse.length := by rw [List.length_reverse, ← HL.out]; omega
        rw [show L - q = (L - (q + 1)) + 1 by omega, List.take_succ_eq_append_getElem hlt, List.getElem_reverse, hE]
        congr 3
        rw [← HL.out]; omega
      obtain ⟨fn, tmps, assign, body, hy, hR⟩ := hY _ E wr hJs (by rw [List.length_take, List.length_reverse, ← HL.out]; omega)
      have d0 := HW.out.c0
      have d2 := HW.out.c2
      have HW1 := Lib.hid (show (Try.prog.info? 84).map (·.size) = some (wrC E.1).length from by rw [wrC_len E.2]; kernel_rfl)
      have HH := Lib.hid hr1
      have HP := Lib.hid hpre
      have hq0 : (0 : Int) ≤ (q : Int) := by omega
      have hq1 : (q : Int) < (L : Int) := by omega
      clear hr1 hE hrow hpre hql k0 k2 hJs
      gi_wp2_with (with_reducible refine wpListIn_load_any _ rfl 84 (.tmp 20) rfl g (q * 65) rfl (wrC E.1) _ HH.out Try.underlying84 rfl HW1.out ?_)
      refine hR.mono ?_
      rintro e W3 (⟨rfl, hJ3, hk3⟩ | ⟨rfl, hJx3⟩)
      · have HK3 := Lib.hid (And.intro hJ3 (HW.out.kq hk3))
        clear hJ3 hk3 d0 d2
        gi_wp2
        go_roundw
        case rel => exact ⟨q, by omega, by go_num, by rw [HP.out]; exact HK3.out.1, Lib.hid HK3.out.2⟩
        case measure => simp [intOf]
      · gi_wp2
        refine bodyPost_ret (results_none rfl _ _ _) rfl ?_
        exact ⟨⟨_, rfl⟩, .inr ⟨_, by rw [← HP.out]; exact List.take_prefix _ _, hJx3⟩⟩

theorem back_any (p : Nat) (w : World) : Calls Try.prog 51 #[.pointer (some ⟨p, 0, none⟩)] w (fun e w' => e = .returned (.func (.func 52) #[] #[.pointer (some ⟨w.heap.size, 0, none⟩)]) ∧ w' = w.alloc (.cells #[.pointer (some ⟨p, 0, none⟩)] 89)) := by
  go_enter Try.func51, Try.ntmps51
  go_wp2
  go_ret
  exact ⟨rfl, rfl⟩

/-- what back hands back -/
theorem back_stops (F : Fence) (n : Nat) (h52 : F.fn 52) (hro : F.round = none) (hn : 1 ≤ n) (n₁ bb Bs p : Nat) (ao : Option Addr) (cp : Nat) (ls : List WrB) (hlen : ls.length ≤ 1073741824) (w : World) (hn1 : n₁ ≤ w.heap.size) (hb : BackW n₁ bb Bs p (.slice ao ls.length cp) ls w) :
    SeqStopsK F n Try.prog 52 #[.pointer (some ⟨Bs, 0, none⟩)] (fun x : WrB => #[.agg (wrC x.1).toArray]) (Kq n₁ bb) (fun ys => ys = ls.reverse) (fun pre => pre <+: ls.reverse) ls.length w := fun l J Jx W hW _ _ hY h0 =>
  back1_in F n h52 hro hn l n₁ bb Bs p ao cp ls hlen J Jx hY W (hb.kq (fun k hk _ => hW.block k (by omega))) h0

end Go.Proofs.Yticcjaccpcnjhaa
