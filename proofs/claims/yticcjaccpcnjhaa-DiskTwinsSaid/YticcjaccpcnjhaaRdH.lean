/-
  The reference's disk: Ask that dies and Ask that does, walked. Conditions: numbers of their kinds; at most 2^30 lines.
-/
import Derived.Test.YticcjaccpcnjhaaRdG
import Derived.Deep.Cut
namespace Go.Proofs.Yticcjaccpcnjhaa
open Go Go.RowKit

/-- one cell of a block is stored -/
theorem wpList_store1 {P : Program} (w : World) {ops : Array Oper} {rest : List Oper} {o : Oper} {a : Act} {Q : Exit → Act → World → Prop} (hgd : o.guard = none) (ty : TypeId) (x y : Operand) (ho : o.op = .store ty x y)
    (g i : Nat) (e : TypeId) (xs : List Value) (hb : Blk w g e xs) (hx : a.eval x = .pointer (some ⟨g, i, none⟩)) (v : Value) (hy : a.eval y = v) (hl : i < xs.length) (hi : (P.info? ty).map (·.size) = some 1) (h1 : v.oneCell' = true) (hc : v.cells = #[v])
    (h : ∀ w', Blk w' g e (xs.set i v) → Ch (· = g) w w' → w'.heap.size = w.heap.size → wpList P ops Q rest (a.put o.dst undef) w') : wpList P ops Q (o :: rest) a w := by
  refine wpList_plain hgd fun K' hK' => ?_
  have hrun : (execOp a.eval o).run P w = .ok .skip (w.setCell ⟨g, i, none⟩ v) := by
    have hce := hb.cell i
    rw [List.getElem?_eq_getElem hl] at hce
    have hst := run_store P w ⟨g, i, none⟩ v .plain h1
    rw [hce] at hst
    simp only [hb.free] at hst
    unfold execOp
    have hsv : (storeVar ty ⟨g, i, none⟩ v).run P w = .ok () (w.setCell ⟨g, i, none⟩ v) := by
      cases hq : P.info? ty with
      | none => simp [hq] at hi
      | some ii =>
        have hs : 1 = ii.size := by simp [hq] at hi; omega
        have e1 := run_storeCells_cells (P := P) g i [v] 0 w (fun j hj => by obtain rfl : j = 0 := by simpa using hj
                                                                             simp [hce]) (fun j hj => hb.free _) (fun u hu => by obtain rfl : u = v := by simpa using hu
                                                                                                                                 exact h1)
        simp only [Nat.add_zero] at e1
        simp [storeVar, sizeOf, typeInfo, hq, hc, hs.symm, e1, World.setCells]
    simp only [ho, hx, hy, Instr.storeAt, Instr.sureAddr, Sem.run_bind, Sem.run_pure, Result.andThen_ok, hsv]
  unfold Oper.wp
  rw [hrun]
  exact hK' _ _ (h _ (hb.set i v) (Ch.set w ⟨g, i, none⟩ v) (by simp))

/-- the reference's disk, as cells of numbers -/
def rQ (size fm : Int) (sv : Value) (out : Bool) (arms fails ops : Int) : List Value := [.int .i64 size, .int .i64 fm, sv, .bool out, .int .i64 arms, .int .i64 fails, .int .i64 ops]
theorem rC_rQ (x : Dk) (fm : Nat) (sv : Value) : rC x fm sv = rQ x.size fm sv x.out x.arms x.fails x.ops := rfl
theorem oneQ (size fm : Int) (ao : Option Addr) (len c : Nat) (out : Bool) (arms fails ops : Int) : ∀ v ∈ rQ size fm (.slice ao len c) out arms fails ops, v.oneCell' = true := by
  intro v hv
  simp only [rQ, List.mem_cons, List.not_mem_nil, or_false] at hv
  rcases hv with rfl | rfl | rfl | rfl | rfl | rfl | rfl <;> rfl

/-- how the walk stands: the box, the block, the result -/
structure AskI (w : World) (B0 B1 B2 : Nat) (L : List Value) (b : List Int) (wc : World) : Prop where
  box : Blk wc B0 30 L
  blk : Blk wc B1 39 (ofK .u8 b)
  res : Blk wc B2 30 rZ
  bel : Below w.heap.size w wc
  b0 : B0 = w.heap.size
  b1 : B0 < B1
  b2 : B1 < B2

theorem AskI.set {w wc w' : World} {B0 B1 B2 : Nat} {L L' : List Value} {b : List Int} (h : AskI w B0 B1 B2 L b wc) (hb : Blk w' B0 30 L') (hc : Ch (· = B0) wc w') : AskI w B0 B1 B2 L' b w' where
  box := hb
  blk := h.blk.keep hc (fun e => by have := h.b1; have e : B1 = B0 := e; omega)
  res := h.res.keep hc (fun e => by have := h.b1; have := h.b2; have e : B2 = B0 := e; omega)
  bel := below_ch h.bel hc (Nat.le_refl _) (fun k hk => by have hk : k = B0 := hk; have := h.b0; omega)
  b0 := h.b0
  b1 := h.b1
  b2 := h.b2

theorem Try.infoI1 : (Try.prog.info? 3).map (·.size) = some 1 := by kernel_rfl
theorem Try.infoB1 : (Try.prog.info? 4).map (·.size) = some 1 := by kernel_rfl
theorem rQ_lt {size fm : Int} {sv : Value} {out : Bool} {arms fails ops : Int} {i : Nat} (h : i < 7) : i < (rQ size fm sv out arms fails ops).length := h
theorem int_one (k : IntKind) (n : Int) : (Value.int k n).oneCell' = true := rfl
theorem int_cells (k : IntKind) (n : Int) : (Value.int k n).cells = #[.int k n] := rfl
theorem bool_one (b : Bool) : (Value.bool b).oneCell' = true := rfl
theorem bool_cells (b : Bool) : (Value.bool b).cells = #[.bool b] := rfl
theorem decF_neg {n : Int} (h : n ≠ 0) (h1 : ¬ 0 < n) : decF n = n := by unfold decF; rw [if_neg h, if_neg h1]

set_option maxRecDepth 100000 in
set_option maxHeartbeats 4000000 in
theorem rask_die1 (size fm fails ops : Int) (ao : Option Addr) (len c : Nat) (at_ : Int) (b : List Int) (w : World) (h0 : 0 ≤ at_) (h1 : at_ < size) (hf : fails ≠ 0) (hf1 : -1 ≤ fails) (hf2 : fails ≤ 9223372036854775807) :
    Calls Try.prog 49 #[.agg (rQ size fm (.slice ao len c) false 0 fails ops).toArray, .int .i64 1, .int .i64 at_, .agg (ofK .u8 b).toArray] w
      (fun e w' => e = .returned (.tuple #[.agg (rQ size fm (.slice ao len c) true (-1) (decF fails) ops).toArray, .int .i64 9]) ∧ Below w.heap.size w w') := by
    have HF := Lib.hid (And.intro hf hf1)
    have HI := Lib.hid (show (Try.prog.info? 30).map (·.size) = some (rQ size fm (.slice ao len c) true (-1) (decF fails) ops).length from Try.infoRd)
    have HL := Lib.hid (show (rQ size fm (.slice ao len c) true (-1) (decF fails) ops).length = rZ.length from rfl)
    have HO := Lib.hid (oneQ size fm ao len c true (-1) (decF fails) ops)
    go_enter Try.func49, Try.ntmps49
    go_upto_if 33 with (first
      | (with_reducible refine wpList_box_blk w rfl 30 (.tmp 0) rfl (rQ size fm (.slice ao len c) false 0 fails ops) rfl ?_; intro w1 hb1 hbel1 hsz1; have HB1 := Lib.hid (And.intro hb1 (And.intro hbel1 hsz1)); clear hb1 hbel1 hsz1)
      | (with_reducible refine wpList_box_blk w1 rfl 39 (.tmp 3) rfl (ofK .u8 b) rfl ?_; intro w2 hb2 hbel2 hsz2; have HB2 := Lib.hid (And.intro (HB1.out.1.below hbel2 HB1.out.1.lt) (And.intro (below_thn HB1.out.2.1 hbel2 (Nat.le_refl _)) (And.intro (show w.heap.size < w1.heap.size ∧ w1.heap.size < w2.heap.size by have := HB1.out.2.2; omega) hb2))); clear hb2 hbel2 hsz2)
      | ((with_reducible refine wpList_alloc_blk w2 rfl 30 rfl rZ Try.zeroRd ?_); intro w3 hb hbel hsz; have HI3 := Lib.hid (show AskI w w.heap.size w1.heap.size w2.heap.size (rQ size fm (.slice ao len c) false 0 fails ops) b w3 from ⟨HB2.out.1.below hbel HB2.out.1.lt, HB2.out.2.2.2.below hbel HB2.out.2.2.2.lt, hb, below_thn HB2.out.2.1 hbel (Nat.le_refl _), rfl, HB2.out.2.2.1.1, HB2.out.2.2.1.2⟩); have c0 := HI3.out.box.cell 0; simp only [rQ, List.getElem?_cons_zero] at c0; have c3 := HI3.out.box.cell 3; simp only [rQ, List.getElem?_cons_succ, List.getElem?_cons_zero] at c3; have c5 := HI3.out.box.cell 5; simp only [rQ, List.getElem?_cons_succ, List.getElem?_cons_zero] at c5; clear hb hbel hsz))
    go_cut [9] from 10 (fun s wc => s = .int .i64 0 ∧ Hid (AskI w w.heap.size w1.heap.size w2.heap.size (rQ size fm (.slice ao len c) false 0 (decF fails) ops) b wc))
    case first =>
      by_cases hp : 0 < fails
      · have HD := Lib.hid (decF_pos hp)
        go_wp2_with (first
          | ((with_reducible refine wpList_store1 w3 rfl 3 (.tmp 37) (.tmp 36) rfl w.heap.size 5 30 (rQ size fm (.slice ao len c) false 0 fails ops) HI3.out.box rfl (.int .i64 (fails - 1)) rfl (rQ_lt (by omega)) Try.infoI1 (int_one _ _) (int_cells _ _) ?_); intro w4 hb hc hs; have HI4 := Lib.hid (show AskI w w.heap.size w1.heap.size w2.heap.size (rQ size fm (.slice ao len c) false 0 (decF fails) ops) b w4 from HI3.out.set (by rw [HD.out]; exact hb) hc); clear hb hc hs))
        go_meet
        exact ⟨rfl, HI4⟩
      · have HD := Lib.hid (show decF fails = fails from decF_neg HF.out.1 hp)
        go_wp2_with fail
        go_meet
        exact ⟨rfl, by rw [HD.out]; exact HI3⟩
    case rest =>
    obtain ⟨rfl, HC⟩ := hcut
    clear c0 c3 c5 HI3 HB1 HB2
    have c4 := HC.out.box.cell 4; simp only [rQ, List.getElem?_cons_succ, List.getElem?_cons_zero] at c4; 
    go_wp2_with (first
      | ((with_reducible refine wpList_store1 wc rfl 4 (.tmp 45) (.const (.bool true)) rfl w.heap.size 3 30 (rQ size fm (.slice ao len c) false 0 (decF fails) ops) HC.out.box rfl (.bool true) rfl (rQ_lt (by omega)) Try.infoB1 (bool_one _) (bool_cells _) ?_); intro w4 hb hc hs; have HI4 := Lib.hid (show AskI w w.heap.size w1.heap.size w2.heap.size (rQ size fm (.slice ao len c) true 0 (decF fails) ops) b w4 from HC.out.set hb hc); clear hb hc hs)
      | ((with_reducible refine wpList_store1 w4 rfl 3 (.tmp 46) (.const (.int .i64 (-1))) rfl w.heap.size 4 30 (rQ size fm (.slice ao len c) true 0 (decF fails) ops) HI4.out.box rfl (.int .i64 (-1)) rfl (rQ_lt (by omega)) Try.infoI1 (int_one _ _) (int_cells _ _) ?_); intro w5 hb hc hs; have HI5 := Lib.hid (show AskI w w.heap.size w1.heap.size w2.heap.size (rQ size fm (.slice ao len c) true (-1) (decF fails) ops) b w5 from HI4.out.set hb hc); have HR := Lib.hid (rangeW_blk HI5.out.box); clear hb hc hs)
      | (with_reducible refine wpList_load_any rfl 30 (.tmp 4) rfl w.heap.size 0 rfl (rQ size fm (.slice ao len c) true (-1) (decF fails) ops) _ HR.out Try.underlying30 rfl HI.out ?_)
      | ((with_reducible refine wpList_store_blk w5 rfl 30 (.tmp 8) (.tmp 47) rfl w2.heap.size 30 rZ (rQ size fm (.slice ao len c) true (-1) (decF fails) ops) HI5.out.res rfl rfl HL.out HI.out HO.out ?_); intro w6 hb hc hs; have H6 := Lib.hid (And.intro hb hc); clear hb hc hs))
    refine bodyPost_ret (results_cellTmp Try.results49 _ _ w2.heap.size _ _ rfl H6.out.1 _ Try.underlying30 rfl HI.out _ rfl) rfl ⟨rfl, ?_⟩
    exact below_ch HI5.out.bel H6.out.2 (Nat.le_refl _) (fun k hk => by have : k = w2.heap.size := hk; have := HI5.out.b1; have := HI5.out.b2; omega)

set_option maxRecDepth 100000 in
set_option maxHeartbeats 4000000 in
theorem rask_die2 (size fm fails ops : Int) (ao : Option Addr) (len c : Nat) (at_ : Int) (b : List Int) (w : World) (hf : fails ≠ 0) (hf1 : -1 ≤ fails) (hf2 : fails ≤ 9223372036854775807) :
    Calls Try.prog 49 #[.agg (rQ size fm (.slice ao len c) false 0 fails ops).toArray, .int .i64 2, .int .i64 at_, .agg (ofK .u8 b).toArray] w
      (fun e w' => e = .returned (.tuple #[.agg (rQ size fm (.slice ao len c) true (-1) (decF fails) ops).toArray, .int .i64 9]) ∧ Below w.heap.size w w') := by
    have HF := Lib.hid (And.intro hf hf1)
    have HI := Lib.hid (show (Try.prog.info? 30).map (·.size) = some (rQ size fm (.slice ao len c) true (-1) (decF fails) ops).length from Try.infoRd)
    have HL := Lib.hid (show (rQ size fm (.slice ao len c) true (-1) (decF fails) ops).length = rZ.length from rfl)
    have HO := Lib.hid (oneQ size fm ao len c true (-1) (decF fails) ops)
    go_enter Try.func49, Try.ntmps49
    go_upto_if 33 with (first
      | (with_reducible refine wpList_box_blk w rfl 30 (.tmp 0) rfl (rQ size fm (.slice ao len c) false 0 fails ops) rfl ?_; intro w1 hb1 hbel1 hsz1; have HB1 := Lib.hid (And.intro hb1 (And.intro hbel1 hsz1)); clear hb1 hbel1 hsz1)
      | (with_reducible refine wpList_box_blk w1 rfl 39 (.tmp 3) rfl (ofK .u8 b) rfl ?_; intro w2 hb2 hbel2 hsz2; have HB2 := Lib.hid (And.intro (HB1.out.1.below hbel2 HB1.out.1.lt) (And.intro (below_thn HB1.out.2.1 hbel2 (Nat.le_refl _)) (And.intro (show w.heap.size < w1.heap.size ∧ w1.heap.size < w2.heap.size by have := HB1.out.2.2; omega) hb2))); clear hb2 hbel2 hsz2)
      | ((with_reducible refine wpList_alloc_blk w2 rfl 30 rfl rZ Try.zeroRd ?_); intro w3 hb hbel hsz; have HI3 := Lib.hid (show AskI w w.heap.size w1.heap.size w2.heap.size (rQ size fm (.slice ao len c) false 0 fails ops) b w3 from ⟨HB2.out.1.below hbel HB2.out.1.lt, HB2.out.2.2.2.below hbel HB2.out.2.2.2.lt, hb, below_thn HB2.out.2.1 hbel (Nat.le_refl _), rfl, HB2.out.2.2.1.1, HB2.out.2.2.1.2⟩); have c0 := HI3.out.box.cell 0; simp only [rQ, List.getElem?_cons_zero] at c0; have c3 := HI3.out.box.cell 3; simp only [rQ, List.getElem?_cons_succ, List.getElem?_cons_zero] at c3; have c5 := HI3.out.box.cell 5; simp only [rQ, List.getElem?_cons_succ, List.getElem?_cons_zero] at c5; clear hb hbel hsz))
    go_cut [9] from 10 (fun s wc => s = .int .i64 0 ∧ Hid (AskI w w.heap.size w1.heap.size w2.heap.size (rQ size fm (.slice ao len c) false 0 (decF fails) ops) b wc))
    case first =>
      by_cases hp : 0 < fails
      · have HD := Lib.hid (decF_pos hp)
        go_wp2_with (first
          | ((with_reducible refine wpList_store1 w3 rfl 3 (.tmp 37) (.tmp 36) rfl w.heap.size 5 30 (rQ size fm (.slice ao len c) false 0 fails ops) HI3.out.box rfl (.int .i64 (fails - 1)) rfl (rQ_lt (by omega)) Try.infoI1 (int_one _ _) (int_cells _ _) ?_); intro w4 hb hc hs; have HI4 := Lib.hid (show AskI w w.heap.size w1.heap.size w2.heap.size (rQ size fm (.slice ao len c) false 0 (decF fails) ops) b w4 from HI3.out.set (by rw [HD.out]; exact hb) hc); clear hb hc hs))
        go_meet
        exact ⟨rfl, HI4⟩
      · have HD := Lib.hid (show decF fails = fails from decF_neg HF.out.1 hp)
        go_wp2_with fail
        go_meet
        exact ⟨rfl, by rw [HD.out]; exact HI3⟩
    case rest =>
    obtain ⟨rfl, HC⟩ := hcut
    clear c0 c3 c5 HI3 HB1 HB2
    have c4 := HC.out.box.cell 4; simp only [rQ, List.getElem?_cons_succ, List.getElem?_cons_zero] at c4; 
    go_wp2_with (first
      | ((with_reducible refine wpList_store1 wc rfl 4 (.tmp 45) (.const (.bool true)) rfl w.heap.size 3 30 (rQ size fm (.slice ao len c) false 0 (decF fails) ops) HC.out.box rfl (.bool true) rfl (rQ_lt (by omega)) Try.infoB1 (bool_one _) (bool_cells _) ?_); intro w4 hb hc hs; have HI4 := Lib.hid (show AskI w w.heap.size w1.heap.size w2.heap.size (rQ size fm (.slice ao len c) true 0 (decF fails) ops) b w4 from HC.out.set hb hc); clear hb hc hs)
      | ((with_reducible refine wpList_store1 w4 rfl 3 (.tmp 46) (.const (.int .i64 (-1))) rfl w.heap.size 4 30 (rQ size fm (.slice ao len c) true 0 (decF fails) ops) HI4.out.box rfl (.int .i64 (-1)) rfl (rQ_lt (by omega)) Try.infoI1 (int_one _ _) (int_cells _ _) ?_); intro w5 hb hc hs; have HI5 := Lib.hid (show AskI w w.heap.size w1.heap.size w2.heap.size (rQ size fm (.slice ao len c) true (-1) (decF fails) ops) b w5 from HI4.out.set hb hc); have HR := Lib.hid (rangeW_blk HI5.out.box); clear hb hc hs)
      | (with_reducible refine wpList_load_any rfl 30 (.tmp 4) rfl w.heap.size 0 rfl (rQ size fm (.slice ao len c) true (-1) (decF fails) ops) _ HR.out Try.underlying30 rfl HI.out ?_)
      | ((with_reducible refine wpList_store_blk w5 rfl 30 (.tmp 8) (.tmp 47) rfl w2.heap.size 30 rZ (rQ size fm (.slice ao len c) true (-1) (decF fails) ops) HI5.out.res rfl rfl HL.out HI.out HO.out ?_); intro w6 hb hc hs; have H6 := Lib.hid (And.intro hb hc); clear hb hc hs))
    refine bodyPost_ret (results_cellTmp Try.results49 _ _ w2.heap.size _ _ rfl H6.out.1 _ Try.underlying30 rfl HI.out _ rfl) rfl ⟨rfl, ?_⟩
    exact below_ch HI5.out.bel H6.out.2 (Nat.le_refl _) (fun k hk => by have : k = w2.heap.size := hk; have := HI5.out.b1; have := HI5.out.b2; omega)

set_option maxRecDepth 100000 in
set_option maxHeartbeats 4000000 in
theorem rask_read (size fm arms fails ops : Int) (ao : Option Addr) (len c : Nat) (at_ : Int) (b : List Int) (w : World) (h0 : 0 ≤ at_) (h1 : at_ < size) (hf : fails ≠ 0) (hf1 : -1 ≤ fails) (hf2 : fails ≤ 9223372036854775807) (ho1 : 0 ≤ ops) (ho2 : ops ≤ 1073741824) :
    Calls Try.prog 49 #[.agg (rQ size fm (.slice ao len c) false arms fails ops).toArray, .int .i64 0, .int .i64 at_, .agg (ofK .u8 b).toArray] w
      (fun e w' => e = .returned (.tuple #[.agg (rQ size fm (.slice ao len c) false arms (decF fails) (ops + 1)).toArray, .int .i64 0]) ∧ Below w.heap.size w w') := by
    have HF := Lib.hid (And.intro hf hf1)

    have HI := Lib.hid (show (Try.prog.info? 30).map (·.size) = some (rQ size fm (.slice ao len c) false arms (decF fails) (ops + 1)).length from Try.infoRd)
    have HL := Lib.hid (show (rQ size fm (.slice ao len c) false arms (decF fails) (ops + 1)).length = rZ.length from rfl)
    have HO := Lib.hid (oneQ size fm ao len c false arms (decF fails) (ops + 1))
    go_enter Try.func49, Try.ntmps49
    go_upto_if 33 with (first
      | (with_reducible refine wpList_box_blk w rfl 30 (.tmp 0) rfl (rQ size fm (.slice ao len c) false arms fails ops) rfl ?_; intro w1 hb1 hbel1 hsz1; have HB1 := Lib.hid (And.intro hb1 (And.intro hbel1 hsz1)); clear hb1 hbel1 hsz1)
      | (with_reducible refine wpList_box_blk w1 rfl 39 (.tmp 3) rfl (ofK .u8 b) rfl ?_; intro w2 hb2 hbel2 hsz2; have HB2 := Lib.hid (And.intro (HB1.out.1.below hbel2 HB1.out.1.lt) (And.intro (below_thn HB1.out.2.1 hbel2 (Nat.le_refl _)) (And.intro (show w.heap.size < w1.heap.size ∧ w1.heap.size < w2.heap.size by have := HB1.out.2.2; omega) hb2))); clear hb2 hbel2 hsz2)
      | ((with_reducible refine wpList_alloc_blk w2 rfl 30 rfl rZ Try.zeroRd ?_); intro w3 hb hbel hsz; have HI3 := Lib.hid (show AskI w w.heap.size w1.heap.size w2.heap.size (rQ size fm (.slice ao len c) false arms fails ops) b w3 from ⟨HB2.out.1.below hbel HB2.out.1.lt, HB2.out.2.2.2.below hbel HB2.out.2.2.2.lt, hb, below_thn HB2.out.2.1 hbel (Nat.le_refl _), rfl, HB2.out.2.2.1.1, HB2.out.2.2.1.2⟩); have c0 := HI3.out.box.cell 0; simp only [rQ, List.getElem?_cons_zero] at c0; have c3 := HI3.out.box.cell 3; simp only [rQ, List.getElem?_cons_succ, List.getElem?_cons_zero] at c3; have c5 := HI3.out.box.cell 5; simp only [rQ, List.getElem?_cons_succ, List.getElem?_cons_zero] at c5; clear hb hbel hsz))
    go_cut [9] from 10 (fun s wc => s = .int .i64 0 ∧ Hid (AskI w w.heap.size w1.heap.size w2.heap.size (rQ size fm (.slice ao len c) false arms (decF fails) ops) b wc))
    case first =>
      by_cases hp : 0 < fails
      · have HD := Lib.hid (decF_pos hp)
        go_wp2_with (first
          | ((with_reducible refine wpList_store1 w3 rfl 3 (.tmp 37) (.tmp 36) rfl w.heap.size 5 30 (rQ size fm (.slice ao len c) false arms fails ops) HI3.out.box rfl (.int .i64 (fails - 1)) rfl (rQ_lt (by omega)) Try.infoI1 (int_one _ _) (int_cells _ _) ?_); intro w4 hb hc hs; have HI4 := Lib.hid (show AskI w w.heap.size w1.heap.size w2.heap.size (rQ size fm (.slice ao len c) false arms (decF fails) ops) b w4 from HI3.out.set (by rw [HD.out]; exact hb) hc); clear hb hc hs))
        go_meet
        exact ⟨rfl, HI4⟩
      · have HD := Lib.hid (show decF fails = fails from decF_neg HF.out.1 hp)
        go_wp2_with fail
        go_meet
        exact ⟨rfl, by rw [HD.out]; exact HI3⟩
    case rest =>
    obtain ⟨rfl, HC⟩ := hcut
    clear c0 c3 c5 HI3 HB1 HB2
    have c4 := HC.out.box.cell 4; simp only [rQ, List.getElem?_cons_succ, List.getElem?_cons_zero] at c4; 
    have c6 := HC.out.box.cell 6; simp only [rQ, List.getElem?_cons_succ, List.getElem?_cons_zero] at c6; 
    go_wp2_with (first
      | ((with_reducible refine wpList_store1 wc rfl 3 (.tmp 62) (.tmp 61) rfl w.heap.size 6 30 (rQ size fm (.slice ao len c) false arms (decF fails) ops) HC.out.box rfl (.int .i64 (ops + 1)) rfl (rQ_lt (by omega)) Try.infoI1 (int_one _ _) (int_cells _ _) ?_); intro w5 hb hc hs; have HI5 := Lib.hid (show AskI w w.heap.size w1.heap.size w2.heap.size (rQ size fm (.slice ao len c) false arms (decF fails) (ops + 1)) b w5 from HC.out.set hb hc); have HR := Lib.hid (rangeW_blk HI5.out.box); clear hb hc hs)
      | (with_reducible refine wpList_load_any rfl 30 (.tmp 4) rfl w.heap.size 0 rfl (rQ size fm (.slice ao len c) false arms (decF fails) (ops + 1)) _ HR.out Try.underlying30 rfl HI.out ?_)
      | ((with_reducible refine wpList_store_blk w5 rfl 30 (.tmp 8) (.tmp 81) rfl w2.heap.size 30 rZ (rQ size fm (.slice ao len c) false arms (decF fails) (ops + 1)) HI5.out.res rfl rfl HL.out HI.out HO.out ?_); intro w7 hb hc hs; have H7 := Lib.hid (And.intro hb hc); clear hb hc hs))
    refine bodyPost_ret (results_cellTmp Try.results49 _ _ w2.heap.size _ _ rfl H7.out.1 _ Try.underlying30 rfl HI.out _ rfl) rfl ⟨rfl, ?_⟩
    exact below_ch HI5.out.bel H7.out.2 (Nat.le_refl _) (fun k hk => by have : k = w2.heap.size := hk; have := HI5.out.b1; have := HI5.out.b2; omega)

set_option maxRecDepth 100000 in
set_option maxHeartbeats 4000000 in
theorem rask_sync (size fm arms fails ops : Int) (ao : Option Addr) (len c : Nat) (at_ : Int) (b : List Int) (w : World) (hf : fails ≠ 0) (hf1 : -1 ≤ fails) (hf2 : fails ≤ 9223372036854775807) (ha : arms ≠ 0) (ha1 : -1 ≤ arms) (ha2 : arms ≤ 9223372036854775807) (ho1 : 0 ≤ ops) (ho2 : ops ≤ 1073741824) :
    Calls Try.prog 49 #[.agg (rQ size fm (.slice ao len c) false arms fails ops).toArray, .int .i64 2, .int .i64 at_, .agg (ofK .u8 b).toArray] w
      (fun e w' => e = .returned (.tuple #[.agg (rQ size (len : Int) (.slice ao len c) false (decF arms) (decF fails) (ops + 1)).toArray, .int .i64 0]) ∧ Below w.heap.size w w') := by
    have HF := Lib.hid (And.intro hf hf1)
    have HA := Lib.hid (And.intro ha ha1)
    have HI := Lib.hid (show (Try.prog.info? 30).map (·.size) = some (rQ size (len : Int) (.slice ao len c) false (decF arms) (decF fails) (ops + 1)).length from Try.infoRd)
    have HL := Lib.hid (show (rQ size (len : Int) (.slice ao len c) false (decF arms) (decF fails) (ops + 1)).length = rZ.length from rfl)
    have HO := Lib.hid (oneQ size (len : Int) ao len c false (decF arms) (decF fails) (ops + 1))
    go_enter Try.func49, Try.ntmps49
    go_upto_if 33 with (first
      | (with_reducible refine wpList_box_blk w rfl 30 (.tmp 0) rfl (rQ size fm (.slice ao len c) false arms fails ops) rfl ?_; intro w1 hb1 hbel1 hsz1; have HB1 := Lib.hid (And.intro hb1 (And.intro hbel1 hsz1)); clear hb1 hbel1 hsz1)
      | (with_reducible refine wpList_box_blk w1 rfl 39 (.tmp 3) rfl (ofK .u8 b) rfl ?_; intro w2 hb2 hbel2 hsz2; have HB2 := Lib.hid (And.intro (HB1.out.1.below hbel2 HB1.out.1.lt) (And.intro (below_thn HB1.out.2.1 hbel2 (Nat.le_refl _)) (And.intro (show w.heap.size < w1.heap.size ∧ w1.heap.size < w2.heap.size by have := HB1.out.2.2; omega) hb2))); clear hb2 hbel2 hsz2)
      | ((with_reducible refine wpList_alloc_blk w2 rfl 30 rfl rZ Try.zeroRd ?_); intro w3 hb hbel hsz; have HI3 := Lib.hid (show AskI w w.heap.size w1.heap.size w2.heap.size (rQ size fm (.slice ao len c) false arms fails ops) b w3 from ⟨HB2.out.1.below hbel HB2.out.1.lt, HB2.out.2.2.2.below hbel HB2.out.2.2.2.lt, hb, below_thn HB2.out.2.1 hbel (Nat.le_refl _), rfl, HB2.out.2.2.1.1, HB2.out.2.2.1.2⟩); have c0 := HI3.out.box.cell 0; simp only [rQ, List.getElem?_cons_zero] at c0; have c3 := HI3.out.box.cell 3; simp only [rQ, List.getElem?_cons_succ, List.getElem?_cons_zero] at c3; have c5 := HI3.out.box.cell 5; simp only [rQ, List.getElem?_cons_succ, List.getElem?_cons_zero] at c5; clear hb hbel hsz))
    go_cut [9] from 10 (fun s wc => s = .int .i64 0 ∧ Hid (AskI w w.heap.size w1.heap.size w2.heap.size (rQ size fm (.slice ao len c) false arms (decF fails) ops) b wc))
    case first =>
      by_cases hp : 0 < fails
      · have HD := Lib.hid (decF_pos hp)
        go_wp2_with (first
          | ((with_reducible refine wpList_store1 w3 rfl 3 (.tmp 37) (.tmp 36) rfl w.heap.size 5 30 (rQ size fm (.slice ao len c) false arms fails ops) HI3.out.box rfl (.int .i64 (fails - 1)) rfl (rQ_lt (by omega)) Try.infoI1 (int_one _ _) (int_cells _ _) ?_); intro w4 hb hc hs; have HI4 := Lib.hid (show AskI w w.heap.size w1.heap.size w2.heap.size (rQ size fm (.slice ao len c) false arms (decF fails) ops) b w4 from HI3.out.set (by rw [HD.out]; exact hb) hc); clear hb hc hs))
        go_meet
        exact ⟨rfl, HI4⟩
      · have HD := Lib.hid (show decF fails = fails from decF_neg HF.out.1 hp)
        go_wp2_with fail
        go_meet
        exact ⟨rfl, by rw [HD.out]; exact HI3⟩
    case rest =>
    obtain ⟨rfl, HC⟩ := hcut
    clear c0 c3 c5 HI3 HB1 HB2
    have c4 := HC.out.box.cell 4; simp only [rQ, List.getElem?_cons_succ, List.getElem?_cons_zero] at c4; 
    go_upto_if 54 with fail
    go_cut [9] from 10 (fun s wd => s = .int .i64 0 ∧ Hid (AskI w w.heap.size w1.heap.size w2.heap.size (rQ size fm (.slice ao len c) false (decF arms) (decF fails) ops) b wd))
    case first =>
      by_cases hp : 0 < arms
      · have HD := Lib.hid (decF_pos hp)
        go_wp2_with (first
          | ((with_reducible refine wpList_store1 wc rfl 3 (.tmp 58) (.tmp 57) rfl w.heap.size 4 30 (rQ size fm (.slice ao len c) false arms (decF fails) ops) HC.out.box rfl (.int .i64 (arms - 1)) rfl (rQ_lt (by omega)) Try.infoI1 (int_one _ _) (int_cells _ _) ?_); intro w4 hb hc hs; have HI4 := Lib.hid (show AskI w w.heap.size w1.heap.size w2.heap.size (rQ size fm (.slice ao len c) false (decF arms) (decF fails) ops) b w4 from HC.out.set (by rw [HD.out]; exact hb) hc); clear hb hc hs))
        go_meet
        exact ⟨rfl, HI4⟩
      · have HD := Lib.hid (show decF arms = arms from decF_neg HA.out.1 hp)
        go_wp2_with fail
        go_meet
        exact ⟨rfl, by rw [HD.out]; exact HC⟩
    case rest =>
    obtain ⟨rfl, HE⟩ := hcut
    clear c4 HC
    have c6 := HE.out.box.cell 6; simp only [rQ, List.getElem?_cons_succ, List.getElem?_cons_zero] at c6; 
    go_wp2_with (first
      | ((with_reducible refine wpList_store1 wc rfl 3 (.tmp 62) (.tmp 61) rfl w.heap.size 6 30 (rQ size fm (.slice ao len c) false (decF arms) (decF fails) ops) HE.out.box rfl (.int .i64 (ops + 1)) rfl (rQ_lt (by omega)) Try.infoI1 (int_one _ _) (int_cells _ _) ?_); intro w5 hb hc hs; have HI5 := Lib.hid (show AskI w w.heap.size w1.heap.size w2.heap.size (rQ size fm (.slice ao len c) false (decF arms) (decF fails) (ops + 1)) b w5 from HE.out.set hb hc); have c2 := HI5.out.box.cell 2; simp only [rQ, List.getElem?_cons_succ, List.getElem?_cons_zero] at c2; clear hb hc hs)
      | ((with_reducible refine wpList_store1 w5 rfl 3 (.tmp 80) (.tmp 79) rfl w.heap.size 1 30 (rQ size fm (.slice ao len c) false (decF arms) (decF fails) (ops + 1)) HI5.out.box rfl (.int .i64 len) rfl (rQ_lt (by omega)) Try.infoI1 (int_one _ _) (int_cells _ _) ?_); intro w6 hb hc hs; have HI6 := Lib.hid (show AskI w w.heap.size w1.heap.size w2.heap.size (rQ size (len : Int) (.slice ao len c) false (decF arms) (decF fails) (ops + 1)) b w6 from HI5.out.set hb hc); have HR := Lib.hid (rangeW_blk HI6.out.box); clear hb hc hs)
      | (with_reducible refine wpList_load_any rfl 30 (.tmp 4) rfl w.heap.size 0 rfl (rQ size (len : Int) (.slice ao len c) false (decF arms) (decF fails) (ops + 1)) _ HR.out Try.underlying30 rfl HI.out ?_)
      | ((with_reducible refine wpList_store_blk w6 rfl 30 (.tmp 8) (.tmp 81) rfl w2.heap.size 30 rZ (rQ size (len : Int) (.slice ao len c) false (decF arms) (decF fails) (ops + 1)) HI6.out.res rfl rfl HL.out HI.out HO.out ?_); intro w7 hb hc hs; have H7 := Lib.hid (And.intro hb hc); clear hb hc hs))
    refine bodyPost_ret (results_cellTmp Try.results49 _ _ w2.heap.size _ _ rfl H7.out.1 _ Try.underlying30 rfl HI.out _ rfl) rfl ⟨rfl, ?_⟩
    exact below_ch HI6.out.bel H7.out.2 (Nat.le_refl _) (fun k hk => by have : k = w2.heap.size := hk; have := HI6.out.b1; have := HI6.out.b2; omega)

end Go.Proofs.Yticcjaccpcnjhaa
