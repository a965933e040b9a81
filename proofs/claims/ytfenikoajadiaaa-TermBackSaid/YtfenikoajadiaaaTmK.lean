/-
  Layer 5: term.Text, Fresh, Secret, of, Pair, Lock, walked. Conditions: none.
-/
import Derived.Test.YtfenikoajadiaaaTmS
namespace Go.Proofs.Ytfenikoajadiaaa
open Go Go.RowKit
set_option linter.unusedSimpArgs false
set_option linter.unusedVariables false


theorem Try.buildText (s : ByteArray) : ∀ w, (Instr.build 24 #[(0, .int .i64 1), (3, .string s)]).run Try.prog w = .ok (.agg (tmC 1 0 0 s (.slice none 0 0)).toArray) w := fun w => by kernel_rfl
theorem wpList_buildText {ops : Array Oper} {rest : List Oper} {op : Oper} {a : Act} {w : World} {Q : Exit → Act → World → Prop} (hgd : op.guard = none) (x0 : Operand) (ho : op.op = .build 24 #[(0, .const (.int .i64 1)), (3, x0)])
    (s : ByteArray) (h0 : a.eval x0 = .string s)
    (h : wpList Try.prog ops Q rest (a.put op.dst (.agg (tmC 1 0 0 s (.slice none 0 0)).toArray)) w) : wpList Try.prog ops Q (op :: rest) a w := by
  refine wpList_plain hgd fun K hK => ?_
  have hrun : (execOp a.eval op).run Try.prog w = .ok (.value (.agg (tmC 1 0 0 s (.slice none 0 0)).toArray)) w := by
    unfold execOp
    simp only [ho]
    have hc : ∀ v, a.eval (.const v) = v := fun _ => rfl
    rw [show (#[(0, .const (.int .i64 1)), (3, x0)].map fun (i, x) => (i, a.eval x)) = #[(0, .int .i64 1), (3, .string s)] by simp [h0, hc]]
    simp [Try.buildText, Result.andThen]
  unfold Oper.wp
  rw [hrun]
  exact hK _ _ h

theorem Try.buildFresh (u n : Int) : ∀ w, (Instr.build 24 #[(0, .int .i64 2), (1, .int .i64 u), (2, .int .i64 n)]).run Try.prog w = .ok (.agg (tmC 2 u n ⟨#[]⟩ (.slice none 0 0)).toArray) w := fun w => by kernel_rfl
theorem wpList_buildFresh {ops : Array Oper} {rest : List Oper} {op : Oper} {a : Act} {w : World} {Q : Exit → Act → World → Prop} (hgd : op.guard = none) (x0 x1 : Operand) (ho : op.op = .build 24 #[(0, .const (.int .i64 2)), (1, x0), (2, x1)])
    (u n : Int) (h0 : a.eval x0 = .int .i64 u) (h1 : a.eval x1 = .int .i64 n)
    (h : wpList Try.prog ops Q rest (a.put op.dst (.agg (tmC 2 u n ⟨#[]⟩ (.slice none 0 0)).toArray)) w) : wpList Try.prog ops Q (op :: rest) a w := by
  refine wpList_plain hgd fun K hK => ?_
  have hrun : (execOp a.eval op).run Try.prog w = .ok (.value (.agg (tmC 2 u n ⟨#[]⟩ (.slice none 0 0)).toArray)) w := by
    unfold execOp
    simp only [ho]
    have hc : ∀ v, a.eval (.const v) = v := fun _ => rfl
    rw [show (#[(0, .const (.int .i64 2)), (1, x0), (2, x1)].map fun (i, x) => (i, a.eval x)) = #[(0, .int .i64 2), (1, .int .i64 u), (2, .int .i64 n)] by simp [h0, h1, hc]]
    simp [Try.buildFresh, Result.andThen]
  unfold Oper.wp
  rw [hrun]
  exact hK _ _ h

theorem Try.buildSecret (u : Int) : ∀ w, (Instr.build 24 #[(0, .int .i64 3), (1, .int .i64 u)]).run Try.prog w = .ok (.agg (tmC 3 u 0 ⟨#[]⟩ (.slice none 0 0)).toArray) w := fun w => by kernel_rfl
theorem wpList_buildSecret {ops : Array Oper} {rest : List Oper} {op : Oper} {a : Act} {w : World} {Q : Exit → Act → World → Prop} (hgd : op.guard = none) (x0 : Operand) (ho : op.op = .build 24 #[(0, .const (.int .i64 3)), (1, x0)])
    (u : Int) (h0 : a.eval x0 = .int .i64 u)
    (h : wpList Try.prog ops Q rest (a.put op.dst (.agg (tmC 3 u 0 ⟨#[]⟩ (.slice none 0 0)).toArray)) w) : wpList Try.prog ops Q (op :: rest) a w := by
  refine wpList_plain hgd fun K hK => ?_
  have hrun : (execOp a.eval op).run Try.prog w = .ok (.value (.agg (tmC 3 u 0 ⟨#[]⟩ (.slice none 0 0)).toArray)) w := by
    unfold execOp
    simp only [ho]
    have hc : ∀ v, a.eval (.const v) = v := fun _ => rfl
    rw [show (#[(0, .const (.int .i64 3)), (1, x0)].map fun (i, x) => (i, a.eval x)) = #[(0, .int .i64 3), (1, .int .i64 u)] by simp [h0, hc]]
    simp [Try.buildSecret, Result.andThen]
  unfold Oper.wp
  rw [hrun]
  exact hK _ _ h

theorem Try.buildOf (k : Int) (ao : Option Addr) (m c : Nat) : ∀ w, (Instr.build 24 #[(0, .int .i64 k), (4, .slice ao m c)]).run Try.prog w = .ok (.agg (tmC k 0 0 ⟨#[]⟩ (.slice ao m c)).toArray) w := fun w => by kernel_rfl
theorem wpList_buildOf {ops : Array Oper} {rest : List Oper} {op : Oper} {a : Act} {w : World} {Q : Exit → Act → World → Prop} (hgd : op.guard = none) (x0 x1 : Operand) (ho : op.op = .build 24 #[(0, x0), (4, x1)])
    (k : Int) (ao : Option Addr) (m c : Nat) (h0 : a.eval x0 = .int .i64 k) (h1 : a.eval x1 = .slice ao m c)
    (h : wpList Try.prog ops Q rest (a.put op.dst (.agg (tmC k 0 0 ⟨#[]⟩ (.slice ao m c)).toArray)) w) : wpList Try.prog ops Q (op :: rest) a w := by
  refine wpList_plain hgd fun K hK => ?_
  have hrun : (execOp a.eval op).run Try.prog w = .ok (.value (.agg (tmC k 0 0 ⟨#[]⟩ (.slice ao m c)).toArray)) w := by
    unfold execOp
    simp only [ho]
    have hc : ∀ v, a.eval (.const v) = v := fun _ => rfl
    rw [show (#[(0, x0), (4, x1)].map fun (i, x) => (i, a.eval x)) = #[(0, .int .i64 k), (4, .slice ao m c)] by simp [h0, h1, hc]]
    simp [Try.buildOf, Result.andThen]
  unfold Oper.wp
  rw [hrun]
  exact hK _ _ h


/-- a slice of two elements of many cells, built -/
theorem run_buildSlice_two {P : Program} {t e : TypeId} {n : Nat} {zs : Array Value} (ht : P.underlying t = some (.slice e)) (hs : ∀ w, (sizeOf e).run P w = .ok n w) (hz : ∀ w, (zeroValue e).run P w = .ok (.agg zs) w) (hzs : zs.size = n) (hn0 : 0 < n) (hn : n ≤ 1000)
    (cs ds : List Value) (hcs : cs.length = n) (hds : ds.length = n) (w : World) : (Instr.buildSlice t 2 #[(0, .agg cs.toArray), (1, .agg ds.toArray)]).run P w = .ok (.slice (some ⟨w.heap.size, 0, none⟩) 2 2) (w.alloc (.cells (cs ++ ds).toArray e)) := by
  have ca : (Value.agg cs.toArray).cells = cs.toArray := rfl
  have cb : (Value.agg ds.toArray).cells = ds.toArray := rfl
  have e1 : ∀ c : Array Value, c.size = 2 * n → (Instr.fill (fun i => some (i * n, n)) c [(0, .agg cs.toArray), (1, .agg ds.toArray)]) = some (cs ++ ds).toArray := by
    intro c hc
    rw [fill_one _ _ 0 0 (.agg cs.toArray) _ (by rw [ca]; simp [hcs]) (by rw [ca]; simp [hcs, hc]; omega), ca, fill_one _ _ 1 n (.agg ds.toArray) _ (by rw [cb]; simp [hds]) (by rw [cb]; simp [hcs, hds, hc]; omega), cb]
    simp only [Instr.fill, List.size_toArray, hcs, hds, List.take_zero, List.nil_append, Nat.zero_add, Option.some.injEq]
    congr 1
    rw [List.take_append_of_le_length (by omega), List.take_of_length_le (by omega), List.drop_append, List.drop_of_length_le (by omega)]
    simp [hc, hcs]; omega
  have h1 : ¬ n > 2 ^ 24 := by omega
  have h2 : ¬ n = 0 := by omega
  have h3 : ¬ 2 ^ 24 < 2 * n := by omega
  simp [Instr.buildSlice, run_underlying ht, hs, hz, hzs, Value.cells, Result.andThen, h1, h2, h3, e1, run_newRow']


theorem Try.sizeTm : ∀ w, (sizeOf 24).run Try.prog w = .ok 5 w := fun w => by kernel_rfl
/-- a row of two terms, made -/
theorem wpList_slice_t2 (w : World) {ops : Array Oper} {rest : List Oper} {o : Oper} {a : Act} {Q : Exit → Act → World → Prop} (hgd : o.guard = none) (x y : Operand) (ho : o.op = .buildSlice 22 2 #[(0, x), (1, y)]) (cs ds : List Value) (hcs : cs.length = 5) (hds : ds.length = 5)
    (hx : a.eval x = .agg cs.toArray) (hy : a.eval y = .agg ds.toArray) (h : ∀ w', Blk w' w.heap.size 24 (cs ++ ds) → Below w.heap.size w w' → wpList Try.prog ops Q rest (a.put o.dst (.slice (some ⟨w.heap.size, 0, none⟩) 2 2)) w') : wpList Try.prog ops Q (o :: rest) a w := by
  refine wpList_plain hgd fun K' hK' => ?_
  have hrun : (execOp a.eval o).run Try.prog w = .ok (.value (.slice (some ⟨w.heap.size, 0, none⟩) 2 2)) (w.alloc (.cells (cs ++ ds).toArray 24)) := by
    unfold execOp
    simp only [ho]
    rw [show (#[((0 : Nat), x), (1, y)].map fun (i, x) => (i, a.eval x)) = #[(0, .agg cs.toArray), (1, .agg ds.toArray)] by simp [hx, hy]]
    simp [run_buildSlice_two Try.underlying22 Try.sizeTm Try.zeroTm rfl (by decide) (by decide) cs ds hcs hds, Result.andThen]
  unfold Oper.wp
  rw [hrun]
  exact hK' _ _ (h _ (Blk.new w _ _) ((Below.refl _ _).alloc (Nat.le_refl _) _))
/-- a row of one term, made -/
theorem wpList_slice_t1 (w : World) {ops : Array Oper} {rest : List Oper} {o : Oper} {a : Act} {Q : Exit → Act → World → Prop} (hgd : o.guard = none) (x : Operand) (ho : o.op = .buildSlice 22 1 #[(0, x)]) (cs : List Value) (hcs : cs.length = 5)
    (hx : a.eval x = .agg cs.toArray) (h : ∀ w', Blk w' w.heap.size 24 cs → Below w.heap.size w w' → w'.heap.size = w.heap.size + 1 → wpList Try.prog ops Q rest (a.put o.dst (.slice (some ⟨w.heap.size, 0, none⟩) 1 1)) w') : wpList Try.prog ops Q (o :: rest) a w :=
  wpList_slice_one w hgd 22 x ho Try.underlying22 Try.sizeTm Try.zeroTm (by decide) (by decide) cs hcs hx h
theorem SlT.of_one {F : Nat → Prop} {w : World} {b : Nat} {cs : List Value} {t : Tm} (hb : Blk w b 24 cs) (hF : F b) (ht : TmC F w cs t) : SlT F w (.slice (some ⟨b, 0, none⟩) 1 1) [t] :=
  ⟨some ⟨b, 0, none⟩, 1, rfl, Nat.le_refl _, by unfold maxLen; omega, fun _ => ⟨b, 0, rfl, hF, hb.lt, AtC.mk' fun j hj => match j, hj with | 0, _ => ⟨cs, by simpa using rangeW_blk hb, ht⟩⟩⟩
theorem SlT.of_two {F : Nat → Prop} {w : World} {b : Nat} {cs ds : List Value} {t u : Tm} (hb : Blk w b 24 (cs ++ ds)) (hF : F b) (ht : TmC F w cs t) (hu : TmC F w ds u) : SlT F w (.slice (some ⟨b, 0, none⟩) 2 2) [t, u] :=
  ⟨some ⟨b, 0, none⟩, 2, rfl, Nat.le_refl _, by unfold maxLen; omega, fun _ => ⟨b, 0, rfl, hF, hb.lt, AtC.mk' fun j hj => match j, hj with
    | 0, _ => ⟨cs, fun i v hv => by have h := rangeW_blk hb i v (by rw [List.getElem?_append_left (by have := List.getElem?_eq_some_iff.1 hv; exact this.1)]; exact hv); simpa using h, ht⟩
    | 1, _ => ⟨ds, fun i v hv => by have h := rangeW_blk hb (5 + i) v (by rw [List.getElem?_append_right (by rw [ht.len]; omega), ht.len, show 5 + i - 5 = i by omega]; exact hv); simpa using h, hu⟩⟩⟩


set_option maxRecDepth 100000 in
theorem text_any (s : ByteArray) (w : World) : Calls Try.prog 27 #[.string s] w (fun e w' => e = .returned (.agg (tmC 1 0 0 s (.slice none 0 0)).toArray) ∧ Below w.heap.size w w') := by
  go_enter Try.func27, Try.ntmps27
  go_wp2_with (first
    | ((with_reducible refine wpList_alloc_blk w rfl 24 rfl (tmC 0 0 0 ⟨#[]⟩ (.slice none 0 0)) Try.zeroTm ?_); intro b1 hb hbel hsz; have HB1 := Lib.hid (And.intro hb hbel); clear hb hbel hsz)
    | ((with_reducible refine wpList_buildText rfl (.tmp 3) rfl s rfl ?_))
    | ((with_reducible refine wpList_store_blk b1 rfl 24 (.tmp 2) (.tmp 4) rfl w.heap.size 24 (tmC 0 0 0 ⟨#[]⟩ (.slice none 0 0)) (tmC 1 0 0 s (.slice none 0 0)) HB1.out.1 rfl rfl rfl (tmC_info _ _ _ _ _) (tmC_one _ _ _ _ _ _ _) ?_); intro b2 hb hc hs; have HB2 := Lib.hid (And.intro hb (below_ch HB1.out.2 hc (Nat.le_refl _) (fun k hk => by have e : k = w.heap.size := hk; omega))); clear hb hc hs))
  refine bodyPost_ret (results_blk Try.results27 _ _ w.heap.size _ _ rfl HB2.out.1 _ Try.underlying24 rfl (tmC_info _ _ _ _ _)) rfl ?_
  exact ⟨rfl, HB2.out.2⟩


set_option maxRecDepth 100000 in
theorem fresh_any (u n : Int) (w : World) : Calls Try.prog 29 #[.int .i64 u, .int .i64 n] w (fun e w' => e = .returned (.agg (tmC 2 u n ⟨#[]⟩ (.slice none 0 0)).toArray) ∧ Below w.heap.size w w') := by
  go_enter Try.func29, Try.ntmps29
  go_wp2_with (first
    | ((with_reducible refine wpList_alloc_blk w rfl 24 rfl (tmC 0 0 0 ⟨#[]⟩ (.slice none 0 0)) Try.zeroTm ?_); intro b1 hb hbel hsz; have HB1 := Lib.hid (And.intro hb hbel); clear hb hbel hsz)
    | ((with_reducible refine wpList_buildFresh rfl (.tmp 5) (.tmp 6) rfl u n rfl rfl ?_))
    | ((with_reducible refine wpList_store_blk b1 rfl 24 (.tmp 4) (.tmp 7) rfl w.heap.size 24 (tmC 0 0 0 ⟨#[]⟩ (.slice none 0 0)) (tmC 2 u n ⟨#[]⟩ (.slice none 0 0)) HB1.out.1 rfl rfl rfl (tmC_info _ _ _ _ _) (tmC_one _ _ _ _ _ _ _) ?_); intro b2 hb hc hs; have HB2 := Lib.hid (And.intro hb (below_ch HB1.out.2 hc (Nat.le_refl _) (fun k hk => by have e : k = w.heap.size := hk; omega))); clear hb hc hs))
  refine bodyPost_ret (results_blk Try.results29 _ _ w.heap.size _ _ rfl HB2.out.1 _ Try.underlying24 rfl (tmC_info _ _ _ _ _)) rfl ?_
  exact ⟨rfl, HB2.out.2⟩


set_option maxRecDepth 100000 in
theorem secret_any (u : Int) (w : World) : Calls Try.prog 30 #[.int .i64 u] w (fun e w' => e = .returned (.agg (tmC 3 u 0 ⟨#[]⟩ (.slice none 0 0)).toArray) ∧ Below w.heap.size w w') := by
  go_enter Try.func30, Try.ntmps30
  go_wp2_with (first
    | ((with_reducible refine wpList_alloc_blk w rfl 24 rfl (tmC 0 0 0 ⟨#[]⟩ (.slice none 0 0)) Try.zeroTm ?_); intro b1 hb hbel hsz; have HB1 := Lib.hid (And.intro hb hbel); clear hb hbel hsz)
    | ((with_reducible refine wpList_buildSecret rfl (.tmp 3) rfl u rfl ?_))
    | ((with_reducible refine wpList_store_blk b1 rfl 24 (.tmp 2) (.tmp 4) rfl w.heap.size 24 (tmC 0 0 0 ⟨#[]⟩ (.slice none 0 0)) (tmC 3 u 0 ⟨#[]⟩ (.slice none 0 0)) HB1.out.1 rfl rfl rfl (tmC_info _ _ _ _ _) (tmC_one _ _ _ _ _ _ _) ?_); intro b2 hb hc hs; have HB2 := Lib.hid (And.intro hb (below_ch HB1.out.2 hc (Nat.le_refl _) (fun k hk => by have e : k = w.heap.size := hk; omega))); clear hb hc hs))
  refine bodyPost_ret (results_blk Try.results30 _ _ w.heap.size _ _ rfl HB2.out.1 _ Try.underlying24 rfl (tmC_info _ _ _ _ _)) rfl ?_
  exact ⟨rfl, HB2.out.2⟩


set_option maxRecDepth 100000 in
theorem of_any (k : Int) (ao : Option Addr) (m c : Nat) (w : World) : Calls Try.prog 55 #[.int .i64 k, .slice ao m c] w (fun e w' => e = .returned (.agg (tmC k 0 0 ⟨#[]⟩ (.slice ao m c)).toArray) ∧ Below w.heap.size w w') := by
  go_enter Try.func55, Try.ntmps55
  go_wp2_with (first
    | ((with_reducible refine wpList_alloc_blk w rfl 24 rfl (tmC 0 0 0 ⟨#[]⟩ (.slice none 0 0)) Try.zeroTm ?_); intro b1 hb hbel hsz; have HB1 := Lib.hid (And.intro hb hbel); clear hb hbel hsz)
    | ((with_reducible refine wpList_buildOf rfl (.tmp 5) (.tmp 6) rfl k ao m c rfl rfl ?_))
    | ((with_reducible refine wpList_store_blk b1 rfl 24 (.tmp 4) (.tmp 7) rfl w.heap.size 24 (tmC 0 0 0 ⟨#[]⟩ (.slice none 0 0)) (tmC k 0 0 ⟨#[]⟩ (.slice ao m c)) HB1.out.1 rfl rfl rfl (tmC_info _ _ _ _ _) (tmC_one _ _ _ _ _ _ _) ?_); intro b2 hb hc hs; have HB2 := Lib.hid (And.intro hb (below_ch HB1.out.2 hc (Nat.le_refl _) (fun k hk => by have e : k = w.heap.size := hk; omega))); clear hb hc hs))
  refine bodyPost_ret (results_blk Try.results55 _ _ w.heap.size _ _ rfl HB2.out.1 _ Try.underlying24 rfl (tmC_info _ _ _ _ _)) rfl ?_
  exact ⟨rfl, HB2.out.2⟩


set_option maxRecDepth 100000 in
theorem rtext_any (s : ByteArray) (w : World) : Calls Try.prog 28 #[.string s] w (fun e w' => e = .returned (.agg (tmC 1 0 0 s (.slice none 0 0)).toArray) ∧ Below w.heap.size w w') := by
  go_enter Try.func28, Try.ntmps28
  go_wp2_with (first
    | ((with_reducible refine wpList_alloc_blk w rfl 24 rfl (tmC 0 0 0 ⟨#[]⟩ (.slice none 0 0)) Try.zeroTm ?_); intro b1 hb hbel hsz; have HB1 := Lib.hid (And.intro hb hbel); clear hb hbel hsz)
    | ((with_reducible refine wpList_buildText rfl (.tmp 3) rfl s rfl ?_))
    | ((with_reducible refine wpList_store_blk b1 rfl 24 (.tmp 2) (.tmp 4) rfl w.heap.size 24 (tmC 0 0 0 ⟨#[]⟩ (.slice none 0 0)) (tmC 1 0 0 s (.slice none 0 0)) HB1.out.1 rfl rfl rfl (tmC_info _ _ _ _ _) (tmC_one _ _ _ _ _ _ _) ?_); intro b2 hb hc hs; have HB2 := Lib.hid (And.intro hb (below_ch HB1.out.2 hc (Nat.le_refl _) (fun k hk => by have e : k = w.heap.size := hk; omega))); clear hb hc hs))
  refine bodyPost_ret (results_blk Try.results28 _ _ w.heap.size _ _ rfl HB2.out.1 _ Try.underlying24 rfl (tmC_info _ _ _ _ _)) rfl ?_
  exact ⟨rfl, HB2.out.2⟩


/-- a term of two, made: where its kids stand -/
def TwoP (w : World) (k : Int) (ca cb : List Value) (e : Ending) (w' : World) : Prop := ∃ b, e = .returned (.agg (tmC k 0 0 ⟨#[]⟩ (.slice (some ⟨b, 0, none⟩) 2 2)).toArray) ∧ Blk w' b 24 (ca ++ cb) ∧ w.heap.size ≤ b ∧ Below w.heap.size w w'
theorem TwoP.tm {F : Nat → Prop} {w w' : World} {b : Nat} {k : Int} {ca cb : List Value} {t u : Tm} (hb : Blk w' b 24 (ca ++ cb)) (hF : F b) (ht : TmC F w' ca t) (hu : TmC F w' cb u) : TmC F w' (tmC k 0 0 ⟨#[]⟩ (.slice (some ⟨b, 0, none⟩) 2 2)) (.mk k 0 0 ⟨#[]⟩ [t, u]) :=
  TmC_iff.2 ⟨_, rfl, SlT.of_two hb hF ht hu⟩


set_option maxRecDepth 100000 in
set_option maxHeartbeats 1000000 in
theorem pair_any (k1 u1 n1 : Int) (s1 : ByteArray) (a1 : Option Addr) (m1 c1 : Nat) (k2 u2 n2 : Int) (s2 : ByteArray) (a2 : Option Addr) (m2 c2 : Nat) (w : World) :
    Calls Try.prog 31 #[.agg (tmC k1 u1 n1 s1 (.slice a1 m1 c1)).toArray, .agg (tmC k2 u2 n2 s2 (.slice a2 m2 c2)).toArray] w (TwoP w 4 (tmC k1 u1 n1 s1 (.slice a1 m1 c1)) (tmC k2 u2 n2 s2 (.slice a2 m2 c2))) := by
  have H0 := Lib.hid (Below.refl w.heap.size w)
  go_enter Try.func31, Try.ntmps31
  go_wp2_with (first
    | ((with_reducible refine wpList_box_blk w rfl 24 (.tmp 0) rfl (tmC k1 u1 n1 s1 (.slice a1 m1 c1)) rfl ?_); intro d1 hb hbel hsz; have HD1 := Lib.hid (show Below w.heap.size w d1 ∧ Blk d1 w.heap.size 24 (tmC k1 u1 n1 s1 (.slice a1 m1 c1)) from ⟨below_thn H0.out hbel (Nat.le_refl _), hb⟩); clear hb hbel hsz)
    | ((with_reducible refine wpList_box_blk d1 rfl 24 (.tmp 1) rfl (tmC k2 u2 n2 s2 (.slice a2 m2 c2)) rfl ?_); intro d2 hb hbel hsz; have HD2 := Lib.hid (show Below w.heap.size w d2 ∧ Blk d2 w.heap.size 24 (tmC k1 u1 n1 s1 (.slice a1 m1 c1)) ∧ Blk d2 d1.heap.size 24 (tmC k2 u2 n2 s2 (.slice a2 m2 c2)) from ⟨below_thn HD1.out.1 hbel (Nat.le_refl _), HD1.out.2.below hbel HD1.out.2.lt, hb⟩); clear hb hbel hsz)
    | ((with_reducible refine wpList_alloc_blk d2 rfl 24 rfl (tmC 0 0 0 ⟨#[]⟩ (.slice none 0 0)) Try.zeroTm ?_); intro d3 hb hbel hsz; have HD3 := Lib.hid (show Below w.heap.size w d3 ∧ Blk d3 w.heap.size 24 (tmC k1 u1 n1 s1 (.slice a1 m1 c1)) ∧ Blk d3 d1.heap.size 24 (tmC k2 u2 n2 s2 (.slice a2 m2 c2)) ∧ Blk d3 d2.heap.size 24 (tmC 0 0 0 ⟨#[]⟩ (.slice none 0 0)) from ⟨below_thn HD2.out.1 hbel (Nat.le_refl _), HD2.out.2.1.below hbel HD2.out.2.1.lt, HD2.out.2.2.below hbel HD2.out.2.2.lt, hb⟩); clear hb hbel hsz)
    | (with_reducible refine wpList_load_any rfl 24 (.tmp 2) rfl w.heap.size 0 rfl (tmC k1 u1 n1 s1 (.slice a1 m1 c1)) _ (rangeW_blk HD3.out.2.1) Try.underlying24 rfl (tmC_info _ _ _ _ _) ?_)
    | (with_reducible refine wpList_load_any rfl 24 (.tmp 3) rfl d1.heap.size 0 rfl (tmC k2 u2 n2 s2 (.slice a2 m2 c2)) _ (rangeW_blk HD3.out.2.2.1) Try.underlying24 rfl (tmC_info _ _ _ _ _) ?_)
    | ((with_reducible refine wpList_slice_t2 d3 rfl (.tmp 5) (.tmp 6) rfl (tmC k1 u1 n1 s1 (.slice a1 m1 c1)) (tmC k2 u2 n2 s2 (.slice a2 m2 c2)) rfl rfl rfl rfl ?_); intro d4 hb hbel; have HD4 := Lib.hid (show Below w.heap.size w d4 ∧ Blk d4 w.heap.size 24 (tmC k1 u1 n1 s1 (.slice a1 m1 c1)) ∧ Blk d4 d1.heap.size 24 (tmC k2 u2 n2 s2 (.slice a2 m2 c2)) ∧ Blk d4 d2.heap.size 24 (tmC 0 0 0 ⟨#[]⟩ (.slice none 0 0)) ∧ Blk d4 d3.heap.size 24 (tmC k1 u1 n1 s1 (.slice a1 m1 c1) ++ tmC k2 u2 n2 s2 (.slice a2 m2 c2)) from ⟨below_thn HD3.out.1 hbel (Nat.le_refl _), HD3.out.2.1.below hbel HD3.out.2.1.lt, HD3.out.2.2.1.below hbel HD3.out.2.2.1.lt, HD3.out.2.2.2.below hbel HD3.out.2.2.2.lt, hb⟩); clear hb hbel))
  refine (of_any 4 (some ⟨d3.heap.size, 0, none⟩) 2 2 d4).mono ?_
  rintro e' d5 ⟨rfl, hb⟩
  have HD5 := Lib.hid (show Below w.heap.size w d5 ∧ Blk d5 w.heap.size 24 (tmC k1 u1 n1 s1 (.slice a1 m1 c1)) ∧ Blk d5 d1.heap.size 24 (tmC k2 u2 n2 s2 (.slice a2 m2 c2)) ∧ Blk d5 d2.heap.size 24 (tmC 0 0 0 ⟨#[]⟩ (.slice none 0 0)) ∧ Blk d5 d3.heap.size 24 (tmC k1 u1 n1 s1 (.slice a1 m1 c1) ++ tmC k2 u2 n2 s2 (.slice a2 m2 c2)) from ⟨below_thn HD4.out.1 hb (Nat.le_refl _), HD4.out.2.1.below hb HD4.out.2.1.lt, HD4.out.2.2.1.below hb HD4.out.2.2.1.lt, HD4.out.2.2.2.1.below hb HD4.out.2.2.2.1.lt, HD4.out.2.2.2.2.below hb HD4.out.2.2.2.2.lt⟩)
  clear hb
  go_wp2_with (first
    | ((with_reducible refine wpList_store_blk d5 rfl 24 (.tmp 4) (.tmp 8) rfl d2.heap.size 24 (tmC 0 0 0 ⟨#[]⟩ (.slice none 0 0)) (tmC 4 0 0 ⟨#[]⟩ (.slice (some ⟨d3.heap.size, 0, none⟩) 2 2)) HD5.out.2.2.2.1 rfl rfl rfl (tmC_info _ _ _ _ _) (tmC_one _ _ _ _ _ _ _) ?_); intro d6 hb hc hs; have HD6 := Lib.hid (show Below w.heap.size w d6 ∧ Blk d6 d2.heap.size 24 (tmC 4 0 0 ⟨#[]⟩ (.slice (some ⟨d3.heap.size, 0, none⟩) 2 2)) ∧ Blk d6 d3.heap.size 24 (tmC k1 u1 n1 s1 (.slice a1 m1 c1) ++ tmC k2 u2 n2 s2 (.slice a2 m2 c2)) from ⟨below_ch HD5.out.1 hc (Nat.le_refl _) (fun k hk => by have e : k = d2.heap.size := hk; have h1 := HD2.out.1.size; omega), hb, HD5.out.2.2.2.2.keep hc (fun e => by have e : d3.heap.size = d2.heap.size := e; have h1 := HD3.out.2.2.2.lt; omega)⟩); clear hb hc hs))
  refine bodyPost_ret (results_blk Try.results31 _ _ d2.heap.size _ _ rfl HD6.out.2.1 _ Try.underlying24 rfl (tmC_info _ _ _ _ _)) rfl ?_
  exact ⟨_, rfl, HD6.out.2.2, HD3.out.1.size, HD6.out.1⟩


set_option maxRecDepth 100000 in
set_option maxHeartbeats 1000000 in
theorem lock_any (k1 u1 n1 : Int) (s1 : ByteArray) (a1 : Option Addr) (m1 c1 : Nat) (k2 u2 n2 : Int) (s2 : ByteArray) (a2 : Option Addr) (m2 c2 : Nat) (w : World) :
    Calls Try.prog 33 #[.agg (tmC k1 u1 n1 s1 (.slice a1 m1 c1)).toArray, .agg (tmC k2 u2 n2 s2 (.slice a2 m2 c2)).toArray] w (TwoP w 6 (tmC k1 u1 n1 s1 (.slice a1 m1 c1)) (tmC k2 u2 n2 s2 (.slice a2 m2 c2))) := by
  have H0 := Lib.hid (Below.refl w.heap.size w)
  go_enter Try.func33, Try.ntmps33
  go_wp2_with (first
    | ((with_reducible refine wpList_box_blk w rfl 24 (.tmp 0) rfl (tmC k1 u1 n1 s1 (.slice a1 m1 c1)) rfl ?_); intro d1 hb hbel hsz; have HD1 := Lib.hid (show Below w.heap.size w d1 ∧ Blk d1 w.heap.size 24 (tmC k1 u1 n1 s1 (.slice a1 m1 c1)) from ⟨below_thn H0.out hbel (Nat.le_refl _), hb⟩); clear hb hbel hsz)
    | ((with_reducible refine wpList_box_blk d1 rfl 24 (.tmp 1) rfl (tmC k2 u2 n2 s2 (.slice a2 m2 c2)) rfl ?_); intro d2 hb hbel hsz; have HD2 := Lib.hid (show Below w.heap.size w d2 ∧ Blk d2 w.heap.size 24 (tmC k1 u1 n1 s1 (.slice a1 m1 c1)) ∧ Blk d2 d1.heap.size 24 (tmC k2 u2 n2 s2 (.slice a2 m2 c2)) from ⟨below_thn HD1.out.1 hbel (Nat.le_refl _), HD1.out.2.below hbel HD1.out.2.lt, hb⟩); clear hb hbel hsz)
    | ((with_reducible refine wpList_alloc_blk d2 rfl 24 rfl (tmC 0 0 0 ⟨#[]⟩ (.slice none 0 0)) Try.zeroTm ?_); intro d3 hb hbel hsz; have HD3 := Lib.hid (show Below w.heap.size w d3 ∧ Blk d3 w.heap.size 24 (tmC k1 u1 n1 s1 (.slice a1 m1 c1)) ∧ Blk d3 d1.heap.size 24 (tmC k2 u2 n2 s2 (.slice a2 m2 c2)) ∧ Blk d3 d2.heap.size 24 (tmC 0 0 0 ⟨#[]⟩ (.slice none 0 0)) from ⟨below_thn HD2.out.1 hbel (Nat.le_refl _), HD2.out.2.1.below hbel HD2.out.2.1.lt, HD2.out.2.2.below hbel HD2.out.2.2.lt, hb⟩); clear hb hbel hsz)
    | (with_reducible refine wpList_load_any rfl 24 (.tmp 2) rfl w.heap.size 0 rfl (tmC k1 u1 n1 s1 (.slice a1 m1 c1)) _ (rangeW_blk HD3.out.2.1) Try.underlying24 rfl (tmC_info _ _ _ _ _) ?_)
    | (with_reducible refine wpList_load_any rfl 24 (.tmp 3) rfl d1.heap.size 0 rfl (tmC k2 u2 n2 s2 (.slice a2 m2 c2)) _ (rangeW_blk HD3.out.2.2.1) Try.underlying24 rfl (tmC_info _ _ _ _ _) ?_)
    | ((with_reducible refine wpList_slice_t2 d3 rfl (.tmp 5) (.tmp 6) rfl (tmC k1 u1 n1 s1 (.slice a1 m1 c1)) (tmC k2 u2 n2 s2 (.slice a2 m2 c2)) rfl rfl rfl rfl ?_); intro d4 hb hbel; have HD4 := Lib.hid (show Below w.heap.size w d4 ∧ Blk d4 w.heap.size 24 (tmC k1 u1 n1 s1 (.slice a1 m1 c1)) ∧ Blk d4 d1.heap.size 24 (tmC k2 u2 n2 s2 (.slice a2 m2 c2)) ∧ Blk d4 d2.heap.size 24 (tmC 0 0 0 ⟨#[]⟩ (.slice none 0 0)) ∧ Blk d4 d3.heap.size 24 (tmC k1 u1 n1 s1 (.slice a1 m1 c1) ++ tmC k2 u2 n2 s2 (.slice a2 m2 c2)) from ⟨below_thn HD3.out.1 hbel (Nat.le_refl _), HD3.out.2.1.below hbel HD3.out.2.1.lt, HD3.out.2.2.1.below hbel HD3.out.2.2.1.lt, HD3.out.2.2.2.below hbel HD3.out.2.2.2.lt, hb⟩); clear hb hbel))
  refine (of_any 6 (some ⟨d3.heap.size, 0, none⟩) 2 2 d4).mono ?_
  rintro e' d5 ⟨rfl, hb⟩
  have HD5 := Lib.hid (show Below w.heap.size w d5 ∧ Blk d5 w.heap.size 24 (tmC k1 u1 n1 s1 (.slice a1 m1 c1)) ∧ Blk d5 d1.heap.size 24 (tmC k2 u2 n2 s2 (.slice a2 m2 c2)) ∧ Blk d5 d2.heap.size 24 (tmC 0 0 0 ⟨#[]⟩ (.slice none 0 0)) ∧ Blk d5 d3.heap.size 24 (tmC k1 u1 n1 s1 (.slice a1 m1 c1) ++ tmC k2 u2 n2 s2 (.slice a2 m2 c2)) from ⟨below_thn HD4.out.1 hb (Nat.le_refl _), HD4.out.2.1.below hb HD4.out.2.1.lt, HD4.out.2.2.1.below hb HD4.out.2.2.1.lt, HD4.out.2.2.2.1.below hb HD4.out.2.2.2.1.lt, HD4.out.2.2.2.2.below hb HD4.out.2.2.2.2.lt⟩)
  clear hb
  go_wp2_with (first
    | ((with_reducible refine wpList_store_blk d5 rfl 24 (.tmp 4) (.tmp 8) rfl d2.heap.size 24 (tmC 0 0 0 ⟨#[]⟩ (.slice none 0 0)) (tmC 6 0 0 ⟨#[]⟩ (.slice (some ⟨d3.heap.size, 0, none⟩) 2 2)) HD5.out.2.2.2.1 rfl rfl rfl (tmC_info _ _ _ _ _) (tmC_one _ _ _ _ _ _ _) ?_); intro d6 hb hc hs; have HD6 := Lib.hid (show Below w.heap.size w d6 ∧ Blk d6 d2.heap.size 24 (tmC 6 0 0 ⟨#[]⟩ (.slice (some ⟨d3.heap.size, 0, none⟩) 2 2)) ∧ Blk d6 d3.heap.size 24 (tmC k1 u1 n1 s1 (.slice a1 m1 c1) ++ tmC k2 u2 n2 s2 (.slice a2 m2 c2)) from ⟨below_ch HD5.out.1 hc (Nat.le_refl _) (fun k hk => by have e : k = d2.heap.size := hk; have h1 := HD2.out.1.size; omega), hb, HD5.out.2.2.2.2.keep hc (fun e => by have e : d3.heap.size = d2.heap.size := e; have h1 := HD3.out.2.2.2.lt; omega)⟩); clear hb hc hs))
  refine bodyPost_ret (results_blk Try.results33 _ _ d2.heap.size _ _ rfl HD6.out.2.1 _ Try.underlying24 rfl (tmC_info _ _ _ _ _)) rfl ?_
  exact ⟨_, rfl, HD6.out.2.2, HD3.out.1.size, HD6.out.1⟩


set_option maxRecDepth 100000 in
set_option maxHeartbeats 1000000 in
theorem rpair_any (k1 u1 n1 : Int) (s1 : ByteArray) (a1 : Option Addr) (m1 c1 : Nat) (k2 u2 n2 : Int) (s2 : ByteArray) (a2 : Option Addr) (m2 c2 : Nat) (w : World) :
    Calls Try.prog 32 #[.agg (tmC k1 u1 n1 s1 (.slice a1 m1 c1)).toArray, .agg (tmC k2 u2 n2 s2 (.slice a2 m2 c2)).toArray] w (TwoP w 4 (tmC k1 u1 n1 s1 (.slice a1 m1 c1)) (tmC k2 u2 n2 s2 (.slice a2 m2 c2))) := by
  have H0 := Lib.hid (Below.refl w.heap.size w)
  go_enter Try.func32, Try.ntmps32
  go_wp2_with (first
    | ((with_reducible refine wpList_box_blk w rfl 24 (.tmp 0) rfl (tmC k1 u1 n1 s1 (.slice a1 m1 c1)) rfl ?_); intro d1 hb hbel hsz; have HD1 := Lib.hid (show Below w.heap.size w d1 ∧ Blk d1 w.heap.size 24 (tmC k1 u1 n1 s1 (.slice a1 m1 c1)) from ⟨below_thn H0.out hbel (Nat.le_refl _), hb⟩); clear hb hbel hsz)
    | ((with_reducible refine wpList_box_blk d1 rfl 24 (.tmp 1) rfl (tmC k2 u2 n2 s2 (.slice a2 m2 c2)) rfl ?_); intro d2 hb hbel hsz; have HD2 := Lib.hid (show Below w.heap.size w d2 ∧ Blk d2 w.heap.size 24 (tmC k1 u1 n1 s1 (.slice a1 m1 c1)) ∧ Blk d2 d1.heap.size 24 (tmC k2 u2 n2 s2 (.slice a2 m2 c2)) from ⟨below_thn HD1.out.1 hbel (Nat.le_refl _), HD1.out.2.below hbel HD1.out.2.lt, hb⟩); clear hb hbel hsz)
    | ((with_reducible refine wpList_alloc_blk d2 rfl 24 rfl (tmC 0 0 0 ⟨#[]⟩ (.slice none 0 0)) Try.zeroTm ?_); intro d3 hb hbel hsz; have HD3 := Lib.hid (show Below w.heap.size w d3 ∧ Blk d3 w.heap.size 24 (tmC k1 u1 n1 s1 (.slice a1 m1 c1)) ∧ Blk d3 d1.heap.size 24 (tmC k2 u2 n2 s2 (.slice a2 m2 c2)) ∧ Blk d3 d2.heap.size 24 (tmC 0 0 0 ⟨#[]⟩ (.slice none 0 0)) from ⟨below_thn HD2.out.1 hbel (Nat.le_refl _), HD2.out.2.1.below hbel HD2.out.2.1.lt, HD2.out.2.2.below hbel HD2.out.2.2.lt, hb⟩); clear hb hbel hsz)
    | (with_reducible refine wpList_load_any rfl 24 (.tmp 2) rfl w.heap.size 0 rfl (tmC k1 u1 n1 s1 (.slice a1 m1 c1)) _ (rangeW_blk HD3.out.2.1) Try.underlying24 rfl (tmC_info _ _ _ _ _) ?_)
    | (with_reducible refine wpList_load_any rfl 24 (.tmp 3) rfl d1.heap.size 0 rfl (tmC k2 u2 n2 s2 (.slice a2 m2 c2)) _ (rangeW_blk HD3.out.2.2.1) Try.underlying24 rfl (tmC_info _ _ _ _ _) ?_)
    | ((with_reducible refine wpList_slice_t2 d3 rfl (.tmp 5) (.tmp 6) rfl (tmC k1 u1 n1 s1 (.slice a1 m1 c1)) (tmC k2 u2 n2 s2 (.slice a2 m2 c2)) rfl rfl rfl rfl ?_); intro d4 hb hbel; have HD4 := Lib.hid (show Below w.heap.size w d4 ∧ Blk d4 w.heap.size 24 (tmC k1 u1 n1 s1 (.slice a1 m1 c1)) ∧ Blk d4 d1.heap.size 24 (tmC k2 u2 n2 s2 (.slice a2 m2 c2)) ∧ Blk d4 d2.heap.size 24 (tmC 0 0 0 ⟨#[]⟩ (.slice none 0 0)) ∧ Blk d4 d3.heap.size 24 (tmC k1 u1 n1 s1 (.slice a1 m1 c1) ++ tmC k2 u2 n2 s2 (.slice a2 m2 c2)) from ⟨below_thn HD3.out.1 hbel (Nat.le_refl _), HD3.out.2.1.below hbel HD3.out.2.1.lt, HD3.out.2.2.1.below hbel HD3.out.2.2.1.lt, HD3.out.2.2.2.below hbel HD3.out.2.2.2.lt, hb⟩); clear hb hbel)
    | ((with_reducible refine wpList_buildOf rfl (.const (.int .i64 4)) (.tmp 7) rfl 4 (some ⟨d3.heap.size, 0, none⟩) 2 2 rfl rfl ?_))
    | ((with_reducible refine wpList_store_blk d4 rfl 24 (.tmp 4) (.tmp 8) rfl d2.heap.size 24 (tmC 0 0 0 ⟨#[]⟩ (.slice none 0 0)) (tmC 4 0 0 ⟨#[]⟩ (.slice (some ⟨d3.heap.size, 0, none⟩) 2 2)) HD4.out.2.2.2.1 rfl rfl rfl (tmC_info _ _ _ _ _) (tmC_one _ _ _ _ _ _ _) ?_); intro d6 hb hc hs; have HD6 := Lib.hid (show Below w.heap.size w d6 ∧ Blk d6 d2.heap.size 24 (tmC 4 0 0 ⟨#[]⟩ (.slice (some ⟨d3.heap.size, 0, none⟩) 2 2)) ∧ Blk d6 d3.heap.size 24 (tmC k1 u1 n1 s1 (.slice a1 m1 c1) ++ tmC k2 u2 n2 s2 (.slice a2 m2 c2)) from ⟨below_ch HD4.out.1 hc (Nat.le_refl _) (fun k hk => by have e : k = d2.heap.size := hk; have h1 := HD2.out.1.size; omega), hb, HD4.out.2.2.2.2.keep hc (fun e => by have e : d3.heap.size = d2.heap.size := e; have h1 := HD3.out.2.2.2.lt; omega)⟩); clear hb hc hs))
  refine bodyPost_ret (results_blk Try.results32 _ _ d2.heap.size _ _ rfl HD6.out.2.1 _ Try.underlying24 rfl (tmC_info _ _ _ _ _)) rfl ?_
  exact ⟨_, rfl, HD6.out.2.2, HD3.out.1.size, HD6.out.1⟩


end Go.Proofs.Ytfenikoajadiaaa
