/-
  Layer 5: law 05: TermBack, walked. Conditions: none.
-/
import Derived.Test.YtfenikoajadiaaaTmBd
import Derived.Test.YtfenikoajadiaaaTmX
import Derived.Test.YtfenikoajadiaaaFrameT
import Derived.Test.YtfenikoajadiaaaTmQ
import Derived.Lib.MinMax
namespace Go.Proofs.Ytfenikoajadiaaa
open Go Go.RowKit
set_option linter.unusedSimpArgs false
set_option linter.unusedVariables false


theorem Try.infoU8 : (Try.prog.info? 5).map (fun i => (i.zero, i.size, i.bytes)) = some (some (.int .u8 0), 1, 1) := by kernel_rfl
/-- a row of no bytes, made -/
theorem wpList_slice_b0 (w : World) {ops : Array Oper} {rest : List Oper} {o : Oper} {a : Act} {Q : Exit → Act → World → Prop} (hgd : o.guard = none) (ho : o.op = .buildSlice 25 0 #[])
    (h : ∀ w', w'.ownsRow w.heap.size 5 1 (.slice (some ⟨w.heap.size, 0, none⟩) 0 0) 0 (ofK .u8 ([] : List Int)) → Below w.heap.size w w' → w'.heap.size = w.heap.size + 1 → wpList Try.prog ops Q rest (a.put o.dst (.slice (some ⟨w.heap.size, 0, none⟩) 0 0)) w') :
    wpList Try.prog ops Q (o :: rest) a w := by
  refine wpList_plain hgd fun K hK => ?_
  have hrun : (execOp a.eval o).run Try.prog w = .ok (.value (.slice (some ⟨w.heap.size, 0, none⟩) 0 0)) (w.alloc (.cells #[] 5)) := by
    have hb : (Instr.buildSlice 25 0 #[]).run Try.prog w = .ok (.slice (some ⟨w.heap.size, 0, none⟩) 0 0) (w.alloc (.cells #[] 5)) := by
      have sz : ∀ w, (sizeOf 5).run Try.prog w = .ok 1 w := fun w => by kernel_rfl
      have zv : ∀ w, (zeroValue 5).run Try.prog w = .ok (.int .u8 0) w := fun w => by kernel_rfl
      have nr : ∀ cs, (newRow 5 cs).run Try.prog w = .ok ⟨w.heap.size, 0, none⟩ (w.alloc (.cells cs 5)) := fun cs => by simp [newRow, Result.andThen]
      simp [Instr.buildSlice, run_underlying Try.underlying25, sz, zv, Result.andThen, Instr.fill, nr]
      have e : ∀ f : Nat → Value, Array.map f (Array.range 0) = #[] := fun f => Array.eq_empty_of_size_eq_zero (by simp)
      rw [e]
    unfold execOp
    simp [ho, hb, Result.andThen]
  unfold Oper.wp
  rw [hrun]
  refine hK _ _ (h _ ⟨rfl, .inr ⟨w.heap.size, 0, #[], rfl, Nat.le_refl _, ?_, Nat.le_refl _, Nat.zero_le _, rfl, rfl⟩⟩ ((Below.refl _ _).alloc (Nat.le_refl _) _) (World.size_alloc _ _))
  have := Blk.new w [] 5
  unfold Blk at this
  exact this
/-- append, bytes behind a row of one's own -/
theorem wpList_append_bs (w0 w : World) {ops : Array Oper} {rest : List Oper} {o : Oper} {a : Act} {Q : Exit → Act → World → Prop} (hgd : o.guard = none) (s x' : Operand)
    (ho : o.op = .call { callee := .builtin .append, args := #[s, x'], argTypes := #[25, 25] })
    (v : Value) (n : Nat) (xs : List Int) (hs : a.eval s = v) (hr : w.ownsRow w0.heap.size 5 1 v n (ofK .u8 xs)) (hbel : Below w0.heap.size w0 w)
    (vx : Value) (ys : List Int) (hx : a.eval x' = vx) (hsl : Sl w vx (ofK .u8 ys)) (N : Nat) (hN : n + ys.length = N) (hm : N ≤ 140737488351232)
    (h : ∀ ao c w', w'.ownsRow w0.heap.size 5 1 (.slice ao N c) N (ofK .u8 (xs ++ ys)) → Below w0.heap.size w0 w' → wpList Try.prog ops Q rest (a.put o.dst (.slice ao N c)) w') :
    wpList Try.prog ops Q (o :: rest) a w := by
  obtain ⟨i0, hi, hz0, hz1, hz2⟩ := info_parts Try.infoU8
  refine wpList_append_sl w hgd s x' _ ho w0.heap.size 5 i0 (.int .u8 0) 1 Try.underlying25 hi hz0 hz1 hz2 rfl v n (ofK .u8 xs) hs hr vx (ofK .u8 ys) hx hsl (one_ofK _ _) N (by rw [length_ofK]; exact hN) (by unfold maxLen; omega) (by omega) hbel.size ?_
  intro ao c w' hown hgr hbl
  refine h ao c w' ?_ (below_ch hbel (ch_row hgr) (Nat.le_refl _) (fun k hk => (hr.lt k hk).1))
  have e : ofK .u8 (xs ++ ys) = ofK .u8 xs ++ ofK .u8 ys := by simp [ofK]
  rw [e]; exact hown


theorem bytesT_pos (t : Tm) : 0 < (bytesT t).length := by
  obtain ⟨k, u, n, s, ks⟩ := t
  rw [bytesT]
  unfold headX
  simp only [List.length_append, List.length_cons]
  omega


set_option maxRecDepth 100000 in
set_option maxHeartbeats 16000000 in
theorem termBack_walk (t : Tm) (cs : List Value) (cut : Int) (rv : Value) (R : List Int) (w : World) (ht : TmC AnyF w cs t) (hcut : -9223372036854775808 ≤ cut ∧ cut ≤ 9223372036854775807) (hr : Sl w rv (ofK .u8 R)) (hAB : AllB R) (hlen : R.length ≤ 140737488351232) : Calls Try.prog 3 #[.agg cs.toArray, .int .i64 cut, rv] w (TrueP w) := by
  obtain ⟨ao, c, rfl, -, -, -⟩ := ht.shape
  have HT := Lib.hid ht.old
  obtain ⟨ro, rc, rfl, hn1, hn2, -⟩ := hr.nums
  obtain ⟨N, hN⟩ : ∃ N, R.length = N := ⟨_, rfl⟩
  have HN := Lib.hid hN
  rw [hN] at hr hn1 hlen ⊢
  obtain ⟨ov, hov⟩ : ∃ x, overB t = x := ⟨_, rfl⟩
  have EO := Lib.hid hov
  have HAB := Lib.hid hAB
  have HCUT := Lib.hid hcut
  have H0 := Lib.hid (And.intro (Below.refl w.heap.size w) hr)
  clear ht hov hr hAB hN hcut
  generalize t.ks.length = m at HT ⊢
  generalize t.k = k at HT ⊢
  generalize t.u = u at HT ⊢
  generalize t.n = n at HT ⊢
  generalize t.s = s at HT ⊢
  go_enter Try.func3, Try.ntmps3
  go_wp2_with (first
    | ((with_reducible refine wpList_box_blk w rfl 24 (.tmp 0) rfl (tmC k u n s (.slice ao m c)) rfl ?_); intro a1 hb hbel hsz; have HA1 := Lib.hid (show Below w.heap.size w a1 ∧ Sl a1 (.slice ro N rc) (ofK .u8 R) ∧ Blk a1 w.heap.size 24 (tmC k u n s (.slice ao m c)) from ⟨below_thn H0.out.1 hbel (Nat.le_refl _), H0.out.2.below hbel (Nat.le_refl _), hb⟩); clear hb hbel hsz))
  have hx := wakes5_any a1
  refine Calls.mono hx ?_
  clear hx
  rintro e' y1 ⟨rfl, hb⟩
  have HY2 := Lib.hid (show Below w.heap.size w y1 ∧ Sl y1 (.slice ro N rc) (ofK .u8 R) ∧ Blk y1 w.heap.size 24 (tmC k u n s (.slice ao m c)) from ⟨below_thn HA1.out.1 hb (Nat.le_refl _), HA1.out.2.1.below hb (Nat.le_refl _), HA1.out.2.2.below hb HA1.out.2.2.lt⟩)
  clear hb
  go_wp2_with (first
    | (with_reducible refine wpList_load_any rfl 24 (.tmp 3) rfl w.heap.size 0 rfl (tmC k u n s (.slice ao m c)) _ (rangeW_blk HY2.out.2.2) Try.underlying24 rfl (tmC_info _ _ _ _ _) ?_)
    | ((with_reducible refine wpList_load_want ?_ 24 (.tmp 3) rfl w.heap.size 0 rfl (tmC k u n s (.slice ao m c)) _ (rangeW_blk HY2.out.2.2) Try.underlying24 rfl (tmC_info _ _ _ _ _) ?_); focus rfl))
  have hx := over_any t _ _ y1 (HT.out.below HY2.out.1)
  rw [EO.out] at hx
  refine Calls.mono hx ?_
  clear hx
  rintro e' y3 ⟨rfl, hb⟩
  have HY4 := Lib.hid (show Below w.heap.size w y3 ∧ Sl y3 (.slice ro N rc) (ofK .u8 R) ∧ Blk y3 w.heap.size 24 (tmC k u n s (.slice ao m c)) from ⟨below_thn HY2.out.1 hb (Nat.le_refl _), HY2.out.2.1.below hb (Nat.le_refl _), HY2.out.2.2.below hb HY2.out.2.2.lt⟩)
  clear hb
  cases ov
  rotate_left
  · skip
    go_wp2_with fail
    go_ret
    exact ⟨rfl, HY4.out.1⟩
  by_cases hNm : N ≤ 10000
  rotate_left
  · have g1 : decide ((10000 : Int) < (N : Int)) = true := by simp; omega
    go_wp2_with fail
    go_ret
    exact ⟨rfl, HY4.out.1⟩
  have g1 : decide ((10000 : Int) < (N : Int)) = false := by simp; omega
  go_wp2_with fail
  clear g1
  cases hd : decF 60 R 1200 with
  | error x =>
    have HX := Lib.hid (show x ≠ 0 from by rcases decF_err _ _ _ _ hd with h | h <;> omega)
    refine (decode_bad R x _ N y3 hd HY4.out.2.1 HAB.out HN.out (by omega)).mono ?_
    clear hd
    rintro e' y5 ⟨rfl, hb⟩
    have HY6 := Lib.hid (show Below w.heap.size w y5 ∧ Sl y5 (.slice ro N rc) (ofK .u8 R) ∧ Blk y5 w.heap.size 24 (tmC k u n s (.slice ao m c)) from ⟨below_thn HY4.out.1 hb (Nat.le_refl _), HY4.out.2.1.below hb (Nat.le_refl _), HY4.out.2.2.below hb HY4.out.2.2.lt⟩)
    clear hb
    have g2 : (x == 0) = false := by simpa using HX.out
    go_wp2_with (first
    | ((with_reducible refine wpList_alloc_blk y5 rfl 24 rfl (tmC 0 0 0 ⟨#[]⟩ (.slice none 0 0)) Try.zeroTm ?_); intro b7 hb hbel hsz; have HB9 := Lib.hid (And.intro hb hbel); clear hb hbel hsz)
    | ((with_reducible refine wpList_store_blk b7 rfl 24 (.tmp 7) (.tmp 32) rfl y5.heap.size 24 (tmC 0 0 0 ⟨#[]⟩ (.slice none 0 0)) (tmC 0 0 0 ⟨#[]⟩ (.slice none 0 0)) HB9.out.1 rfl rfl rfl (tmC_info _ _ _ _ _) (tmC_one _ _ _ _ _ _ _) ?_); intro b8 hb hc hs; have hb3 := below_ch HB9.out.2 hc (Nat.le_refl _) (fun k hk => Nat.le_of_eq (Eq.symm hk)); have HY10 := Lib.hid (show Below w.heap.size w b8 ∧ Sl b8 (.slice ro N rc) (ofK .u8 R) ∧ Blk b8 w.heap.size 24 (tmC k u n s (.slice ao m c)) from ⟨below_thn HY6.out.1 hb3 (Nat.le_refl _), HY6.out.2.1.below hb3 (Nat.le_refl _), HY6.out.2.2.below hb3 HY6.out.2.2.lt⟩); clear hb hc hs hb3 HB9)
    | (with_reducible refine wpList_load_any rfl 24 (.tmp 3) rfl w.heap.size 0 rfl (tmC k u n s (.slice ao m c)) _ (rangeW_blk HY10.out.2.2) Try.underlying24 rfl (tmC_info _ _ _ _ _) ?_))
    have hx := encode_any t _ _ b8 (HT.out.below HY10.out.1)
    by_cases hz : sizeT t = 0
    · have e0 : encT t = [] := if_pos hz
      unfold EncP at hx
      rw [e0, checkN_bad hz] at hx
      clear hz e0
      refine Calls.mono hx ?_
      clear hx
      rintro e' y11 ⟨bo, bc, rfl, -, hb⟩
      have HY12 := Lib.hid (show Below w.heap.size w y11 ∧ Sl y11 (.slice ro N rc) (ofK .u8 R) ∧ Blk y11 w.heap.size 24 (tmC k u n s (.slice ao m c)) from ⟨below_thn HY10.out.1 hb (Nat.le_refl _), HY10.out.2.1.below hb (Nat.le_refl _), HY10.out.2.2.below hb HY10.out.2.2.lt⟩)
      clear hb
      go_wp2_with fail
      go_ret
      exact ⟨rfl, HY12.out.1⟩
    have NZ := Lib.hid hz
    have GT := Lib.hid (sizeT_good hz)
    unfold EncP at hx
    rw [encT_ok hz, checkN_ok hz] at hx
    clear hz
    refine Calls.mono hx ?_
    clear hx
    rintro e' y13 ⟨bo, bc, rfl, hrow, hb⟩
    obtain ⟨bl, hbl⟩ : ∃ l, (bytesT t).length = l := ⟨_, rfl⟩
    have LB := Lib.hid hbl
    rw [hbl] at hrow ⊢
    have HY14 := Lib.hid (show Below w.heap.size w y13 ∧ Sl y13 (.slice ro N rc) (ofK .u8 R) ∧ Blk y13 w.heap.size 24 (tmC k u n s (.slice ao m c)) ∧ Sl y13 (.slice bo bl bc) (ofK .u8 (bytesT t)) from ⟨below_thn HY10.out.1 hb (Nat.le_refl _), HY10.out.2.1.below hb (Nat.le_refl _), HY10.out.2.2.below hb HY10.out.2.2.lt, Sl.of_owns hrow⟩)
    have CB := Lib.hid (show bl ≤ bc ∧ bc ≤ 9223372036854775807 from by have h := (Sl.of_owns hrow).nums; obtain ⟨_, _, e, h1, h2, _⟩ := h; simp only [Value.slice.injEq] at e; omega)
    have BL := Lib.hid (show 0 < bl ∧ bl ≤ 82800 from ⟨by rw [← LB.out]; exact bytesT_pos t, by rw [← LB.out]; exact GT.out.2.2.2⟩)
    clear hrow hb hbl
    go_wp2_with (first
    | ((with_reducible refine wpList_slice_b0 y13 rfl rfl ?_); intro x1 hrow hb hsz; have X1 := Lib.hid (And.intro hrow hb); clear hrow hb hsz)
    | ((with_reducible refine wpList_append_bs y13 x1 rfl (.tmp 69) (.tmp 70) rfl (.slice (some ⟨y13.heap.size, 0, none⟩) 0 0) 0 [] rfl X1.out.1 X1.out.2 (.slice bo bl bc) (bytesT t) rfl (HY14.out.2.2.2.below X1.out.2 (Nat.le_refl _)) bl ?_ ?_ ?_); (focus (rw [Nat.zero_add]; exact LB.out)); (focus (have := BL.out; omega)); intro o2 c2 x2 hrow hb; have X2 := Lib.hid (And.intro hrow hb); clear hrow hb)
    | ((with_reducible refine wpList_append_bs y13 x2 rfl (.tmp 71) (.tmp 72) rfl (.slice o2 bl c2) bl ([] ++ bytesT t) rfl X2.out.1 X2.out.2 (.slice ro N rc) R rfl (HY14.out.2.1.below X2.out.2 (Nat.le_refl _)) (bl + N) ?_ ?_ ?_); (focus (rw [HN.out])); (focus (have := BL.out; omega)); intro o3 c3 x3 hrow hb; have X3 := Lib.hid (And.intro hrow hb); clear hrow hb))
    have HX3 := Lib.hid (show Below w.heap.size w x3 ∧ Sl x3 (.slice ro N rc) (ofK .u8 R) ∧ Blk x3 w.heap.size 24 (tmC k u n s (.slice ao m c)) ∧ Sl x3 (.slice bo bl bc) (ofK .u8 (bytesT t)) ∧ Sl x3 (.slice o3 (bl + N) c3) (ofK .u8 (bytesT t ++ R)) from ⟨below_thn HY14.out.1 X3.out.2 (Nat.le_refl _), HY14.out.2.1.below X3.out.2 (Nat.le_refl _), HY14.out.2.2.1.below X3.out.2 HY14.out.2.2.1.lt, HY14.out.2.2.2.below X3.out.2 (Nat.le_refl _), Sl.of_owns X3.out.1⟩)
    clear X1 X2 X3
    refine (decode_ok t R _ (bl + N) x3 NZ.out HX3.out.2.2.2.2 HAB.out (by rw [List.length_append, LB.out, HN.out]) (by have := BL.out; omega)).mono ?_
    rintro e' y15 ⟨ct, rfl, htm, hb⟩
    rw [LB.out]
    have HY16 := Lib.hid (show Below w.heap.size w y15 ∧ Sl y15 (.slice ro N rc) (ofK .u8 R) ∧ Blk y15 w.heap.size 24 (tmC k u n s (.slice ao m c)) ∧ Sl y15 (.slice bo bl bc) (ofK .u8 (bytesT t)) ∧ TmC (x3.heap.size ≤ ·) y15 (ct) t from ⟨below_thn HX3.out.1 hb (Nat.le_refl _), HX3.out.2.1.below hb (Nat.le_refl _), HX3.out.2.2.1.below hb HX3.out.2.2.1.lt, HX3.out.2.2.2.1.below hb (Nat.le_refl _), htm⟩)
    clear htm hb
    obtain ⟨po, pc, hct, -, -, -⟩ := HY16.out.2.2.2.2.shape
    subst hct
    obtain ⟨mm, hm1, hm2, hm3⟩ : ∃ mm : Nat, mm < bl ∧ (max cut 0).tmod (bl : Int) = (mm : Int) ∧ (max cut 0) % (bl : Int) = (mm : Int) := by
      have h0 : 0 < bl := BL.out.1
      have h1 : 0 ≤ max cut 0 := by omega
      have h2 := Int.emod_nonneg (max cut 0) (show (bl : Int) ≠ 0 by omega)
      have h3 := Int.emod_lt_of_pos (max cut 0) (show (0 : Int) < (bl : Int) by omega)
      exact ⟨((max cut 0) % (bl : Int)).toNat, by omega, by rw [Int.tmod_eq_emod_of_nonneg h1]; omega, by omega⟩
    have hm4 : (mm : Int) ≤ (bl : Int) := by omega
    have hm5 : (mm : Int) ≤ (bc : Int) := by have := CB.out; omega
    have hm6 : (0 : Int) ≤ (mm : Int) := by omega
    have hz1 : ((bl : Int) == 0) = false := by have := BL.out; simp; omega
    have hz2 : ¬ (bl : Int) = 0 := by have := BL.out; omega
    have HM1 := Lib.hid hm1
    clear hm1
    go_wp2_with (first
    | ((with_reducible refine wpList_alloc_blk y15 rfl 24 rfl (tmC 0 0 0 ⟨#[]⟩ (.slice none 0 0)) Try.zeroTm ?_); intro b17 hb hbel hsz; have HB19 := Lib.hid (And.intro hb hbel); clear hb hbel hsz)
    | ((with_reducible refine wpList_store_blk b17 rfl 24 (.tmp 14) (.tmp 75) rfl y15.heap.size 24 (tmC 0 0 0 ⟨#[]⟩ (.slice none 0 0)) (tmC t.k t.u t.n t.s (.slice po t.ks.length pc)) HB19.out.1 rfl rfl rfl (tmC_info _ _ _ _ _) (tmC_one _ _ _ _ _ _ _) ?_); intro b18 hb hc hs; have hb3 := below_ch HB19.out.2 hc (Nat.le_refl _) (fun k hk => Nat.le_of_eq (Eq.symm hk)); have HY20 := Lib.hid (show Below w.heap.size w b18 ∧ Sl b18 (.slice ro N rc) (ofK .u8 R) ∧ Blk b18 w.heap.size 24 (tmC k u n s (.slice ao m c)) ∧ Sl b18 (.slice bo bl bc) (ofK .u8 (bytesT t)) ∧ TmC (x3.heap.size ≤ ·) b18 (tmC t.k t.u t.n t.s (.slice po t.ks.length pc)) t ∧ Blk b18 y15.heap.size 24 (tmC t.k t.u t.n t.s (.slice po t.ks.length pc)) from ⟨below_thn HY16.out.1 hb3 (Nat.le_refl _), HY16.out.2.1.below hb3 (Nat.le_refl _), HY16.out.2.2.1.below hb3 HY16.out.2.2.1.lt, HY16.out.2.2.2.1.below hb3 (Nat.le_refl _), HY16.out.2.2.2.2.below hb3, hb⟩); clear hb hc hs hb3 HB19))
    clear hm2 hm3 hm4 hm5 hm6 hz1 hz2
    refine (decode_bad ((bytesT t).take mm) 7 (.slice bo mm bc) mm b18 (dec_cut NZ.out (bytesT_B t GT.out.1) (by rw [LB.out]; exact HM1.out)) (HY20.out.2.2.2.1.pre mm (by have := HM1.out; omega)) ((bytesT_B t GT.out.1).take mm) (by rw [List.length_take, LB.out]; have := HM1.out; omega) (by have := HM1.out; have := BL.out; omega)).mono ?_
    rintro e' y21 ⟨rfl, hb⟩
    have HY22 := Lib.hid (show Below w.heap.size w y21 ∧ Sl y21 (.slice ro N rc) (ofK .u8 R) ∧ Blk y21 w.heap.size 24 (tmC k u n s (.slice ao m c)) ∧ Sl y21 (.slice bo bl bc) (ofK .u8 (bytesT t)) ∧ TmC (x3.heap.size ≤ ·) y21 (tmC t.k t.u t.n t.s (.slice po t.ks.length pc)) t ∧ Blk y21 y15.heap.size 24 (tmC t.k t.u t.n t.s (.slice po t.ks.length pc)) from ⟨below_thn HY20.out.1 hb (Nat.le_refl _), HY20.out.2.1.below hb (Nat.le_refl _), HY20.out.2.2.1.below hb HY20.out.2.2.1.lt, HY20.out.2.2.2.1.below hb (Nat.le_refl _), HY20.out.2.2.2.2.1.below hb, HY20.out.2.2.2.2.2.below hb HY20.out.2.2.2.2.2.lt⟩)
    clear hb
    have zz : (bl == bl) = true := by simp
    go_wp2_with (first
    | ((with_reducible refine wpList_alloc_blk y21 rfl 24 rfl (tmC 0 0 0 ⟨#[]⟩ (.slice none 0 0)) Try.zeroTm ?_); intro b23 hb hbel hsz; have HB25 := Lib.hid (And.intro hb hbel); clear hb hbel hsz)
    | ((with_reducible refine wpList_store_blk b23 rfl 24 (.tmp 17) (.tmp 87) rfl y21.heap.size 24 (tmC 0 0 0 ⟨#[]⟩ (.slice none 0 0)) (tmC 0 0 0 ⟨#[]⟩ (.slice none 0 0)) HB25.out.1 rfl rfl rfl (tmC_info _ _ _ _ _) (tmC_one _ _ _ _ _ _ _) ?_); intro b24 hb hc hs; have hb3 := below_ch HB25.out.2 hc (Nat.le_refl _) (fun k hk => Nat.le_of_eq (Eq.symm hk)); have HY26 := Lib.hid (show Below w.heap.size w b24 ∧ Sl b24 (.slice ro N rc) (ofK .u8 R) ∧ Blk b24 w.heap.size 24 (tmC k u n s (.slice ao m c)) ∧ Sl b24 (.slice bo bl bc) (ofK .u8 (bytesT t)) ∧ TmC (x3.heap.size ≤ ·) b24 (tmC t.k t.u t.n t.s (.slice po t.ks.length pc)) t ∧ Blk b24 y15.heap.size 24 (tmC t.k t.u t.n t.s (.slice po t.ks.length pc)) from ⟨below_thn HY22.out.1 hb3 (Nat.le_refl _), HY22.out.2.1.below hb3 (Nat.le_refl _), HY22.out.2.2.1.below hb3 HY22.out.2.2.1.lt, HY22.out.2.2.2.1.below hb3 (Nat.le_refl _), HY22.out.2.2.2.2.1.below hb3, HY22.out.2.2.2.2.2.below hb3 HY22.out.2.2.2.2.2.lt⟩); clear hb hc hs hb3 HB25)
    | (with_reducible refine wpList_load_any rfl 24 (.tmp 3) rfl w.heap.size 0 rfl (tmC k u n s (.slice ao m c)) _ (rangeW_blk HY26.out.2.2.1) Try.underlying24 rfl (tmC_info _ _ _ _ _) ?_)
    | ((with_reducible refine wpList_load_want ?_ 24 (.tmp 3) rfl w.heap.size 0 rfl (tmC k u n s (.slice ao m c)) _ (rangeW_blk HY26.out.2.2.1) Try.underlying24 rfl (tmC_info _ _ _ _ _) ?_); focus rfl)
    | (with_reducible refine wpList_load_any rfl 24 (.tmp 14) rfl y15.heap.size 0 rfl (tmC t.k t.u t.n t.s (.slice po t.ks.length pc)) _ (rangeW_blk HY26.out.2.2.2.2.2) Try.underlying24 rfl (tmC_info _ _ _ _ _) ?_)
    | ((with_reducible refine wpList_load_want ?_ 24 (.tmp 14) rfl y15.heap.size 0 rfl (tmC t.k t.u t.n t.s (.slice po t.ks.length pc)) _ (rangeW_blk HY26.out.2.2.2.2.2) Try.underlying24 rfl (tmC_info _ _ _ _ _) ?_); focus rfl))
    have hx := same_any5 t t _ _ _ _ b24 HY26.out.2.2.2.2.1 (HT.out.below HY26.out.1)
    rw [show sameT t t = true from (sameT_iff t t).2 rfl] at hx
    refine Calls.mono hx ?_
    clear hx
    rintro e' y27 ⟨rfl, hb⟩
    have HY28 := Lib.hid (show Below w.heap.size w y27 ∧ Sl y27 (.slice ro N rc) (ofK .u8 R) ∧ Blk y27 w.heap.size 24 (tmC k u n s (.slice ao m c)) ∧ Sl y27 (.slice bo bl bc) (ofK .u8 (bytesT t)) ∧ TmC (x3.heap.size ≤ ·) y27 (tmC t.k t.u t.n t.s (.slice po t.ks.length pc)) t ∧ Blk y27 y15.heap.size 24 (tmC t.k t.u t.n t.s (.slice po t.ks.length pc)) from ⟨below_thn HY26.out.1 hb (Nat.le_refl _), HY26.out.2.1.below hb (Nat.le_refl _), HY26.out.2.2.1.below hb HY26.out.2.2.1.lt, HY26.out.2.2.2.1.below hb (Nat.le_refl _), HY26.out.2.2.2.2.1.below hb, HY26.out.2.2.2.2.2.below hb HY26.out.2.2.2.2.2.lt⟩)
    clear hb
    go_wp2_with fail
    go_ret
    exact ⟨rfl, HY28.out.1⟩
  | ok px =>
    obtain ⟨x, rest, lx⟩ := px
    have hok := decF_ok 60 R 1200 x rest lx HAB.out hd
    have NX := Lib.hid (show sizeT x ≠ 0 from sizeT_ok.2 (by have h : walkM x 1 1200 = (true, lx) := hok.2; rw [h]))
    have GX := Lib.hid (sizeT_good NX.out)
    have HRX := Lib.hid hok.1
    clear hd hok
    refine (decode_ok x rest _ N y3 NX.out (by rw [← HRX.out]; exact HY4.out.2.1) (by have h := HAB.out; rw [HRX.out] at h; exact h.right) (by rw [← HRX.out]; exact HN.out) (by omega)).mono ?_
    rintro e' y29 ⟨cx, rfl, htm, hb⟩
    obtain ⟨xl, hxl⟩ : ∃ l, (bytesT x).length = l := ⟨_, rfl⟩
    have LX := Lib.hid hxl
    rw [hxl]
    have hxN : xl ≤ N := by rw [← hxl, ← HN.out, HRX.out, List.length_append]; omega
    have HY30 := Lib.hid (show Below w.heap.size w y29 ∧ Sl y29 (.slice ro N rc) (ofK .u8 R) ∧ Blk y29 w.heap.size 24 (tmC k u n s (.slice ao m c)) ∧ TmC (y3.heap.size ≤ ·) y29 (cx) x from ⟨below_thn HY4.out.1 hb (Nat.le_refl _), HY4.out.2.1.below hb (Nat.le_refl _), HY4.out.2.2.below hb HY4.out.2.2.lt, htm⟩)
    clear htm hb hxl
    obtain ⟨xo, xc, hcx, -, -, -⟩ := HY30.out.2.2.2.shape
    subst hcx
    go_wp2_with (first
    | ((with_reducible refine wpList_alloc_blk y29 rfl 24 rfl (tmC 0 0 0 ⟨#[]⟩ (.slice none 0 0)) Try.zeroTm ?_); intro b31 hb hbel hsz; have HB33 := Lib.hid (And.intro hb hbel); clear hb hbel hsz)
    | ((with_reducible refine wpList_store_blk b31 rfl 24 (.tmp 7) (.tmp 32) rfl y29.heap.size 24 (tmC 0 0 0 ⟨#[]⟩ (.slice none 0 0)) (tmC x.k x.u x.n x.s (.slice xo x.ks.length xc)) HB33.out.1 rfl rfl rfl (tmC_info _ _ _ _ _) (tmC_one _ _ _ _ _ _ _) ?_); intro b32 hb hc hs; have hb3 := below_ch HB33.out.2 hc (Nat.le_refl _) (fun k hk => Nat.le_of_eq (Eq.symm hk)); have HY34 := Lib.hid (show Below w.heap.size w b32 ∧ Sl b32 (.slice ro N rc) (ofK .u8 R) ∧ Blk b32 w.heap.size 24 (tmC k u n s (.slice ao m c)) ∧ TmC (y3.heap.size ≤ ·) b32 (tmC x.k x.u x.n x.s (.slice xo x.ks.length xc)) x ∧ Blk b32 y29.heap.size 24 (tmC x.k x.u x.n x.s (.slice xo x.ks.length xc)) from ⟨below_thn HY30.out.1 hb3 (Nat.le_refl _), HY30.out.2.1.below hb3 (Nat.le_refl _), HY30.out.2.2.1.below hb3 HY30.out.2.2.1.lt, HY30.out.2.2.2.below hb3, hb⟩); clear hb hc hs hb3 HB33)
    | (with_reducible refine wpList_load_any rfl 24 (.tmp 7) rfl y29.heap.size 0 rfl (tmC x.k x.u x.n x.s (.slice xo x.ks.length xc)) _ (rangeW_blk HY34.out.2.2.2.2) Try.underlying24 rfl (tmC_info _ _ _ _ _) ?_))
    have hx := encode_any x _ _ b32 HY34.out.2.2.2.1
    unfold EncP at hx
    rw [encT_ok NX.out, checkN_ok NX.out] at hx
    refine Calls.mono hx ?_
    clear hx
    rintro e' y35 ⟨yo, yc, rfl, hrow, hb⟩
    rw [LX.out] at hrow ⊢
    have HY36 := Lib.hid (show Below w.heap.size w y35 ∧ Sl y35 (.slice ro N rc) (ofK .u8 R) ∧ Blk y35 w.heap.size 24 (tmC k u n s (.slice ao m c)) ∧ TmC (y3.heap.size ≤ ·) y35 (tmC x.k x.u x.n x.s (.slice xo x.ks.length xc)) x ∧ Blk y35 y29.heap.size 24 (tmC x.k x.u x.n x.s (.slice xo x.ks.length xc)) ∧ Sl y35 (.slice yo xl yc) (ofK .u8 (bytesT x)) from ⟨below_thn HY34.out.1 hb (Nat.le_refl _), HY34.out.2.1.below hb (Nat.le_refl _), HY34.out.2.2.1.below hb HY34.out.2.2.1.lt, HY34.out.2.2.2.1.below hb, HY34.out.2.2.2.2.below hb HY34.out.2.2.2.2.lt, Sl.of_owns hrow⟩)
    clear hrow hb
    have g2 : decide ((N : Int) < (xl : Int)) = false := by simp; omega
    have g3 : (xl : Int) ≤ (rc : Int) := by omega
    have g4 : (0 : Int) ≤ (xl : Int) := by omega
    have g5 : (xl : Int) ≤ (N : Int) := by omega
    go_wp2_with fail
    have hx := equal_any _ _ (bytesT x) (R.take xl) y35 HY36.out.2.2.2.2.2 (HY36.out.2.1.pre xl hxN) (bytesT_B x GX.out.1) (AllB.take HAB.out xl)
    rw [show decide (bytesT x = R.take xl) = true from decide_eq_true (by rw [HRX.out, List.take_left' LX.out])] at hx
    refine Calls.mono hx ?_
    clear hx
    rintro e' w9 ⟨rfl, rfl⟩
    clear g2 g3 g4 g5
    go_wp2_with (first
    | (with_reducible refine wpList_load_any rfl 24 (.tmp 3) rfl w.heap.size 0 rfl (tmC k u n s (.slice ao m c)) _ (rangeW_blk HY36.out.2.2.1) Try.underlying24 rfl (tmC_info _ _ _ _ _) ?_)
    | ((with_reducible refine wpList_load_want ?_ 24 (.tmp 3) rfl w.heap.size 0 rfl (tmC k u n s (.slice ao m c)) _ (rangeW_blk HY36.out.2.2.1) Try.underlying24 rfl (tmC_info _ _ _ _ _) ?_); focus rfl))
    have hx := encode_any t _ _ y35 (HT.out.below HY36.out.1)
    by_cases hz : sizeT t = 0
    · have e0 : encT t = [] := if_pos hz
      unfold EncP at hx
      rw [e0, checkN_bad hz] at hx
      clear hz e0
      refine Calls.mono hx ?_
      clear hx
      rintro e' y37 ⟨bo, bc, rfl, -, hb⟩
      have HY38 := Lib.hid (show Below w.heap.size w y37 ∧ Sl y37 (.slice ro N rc) (ofK .u8 R) ∧ Blk y37 w.heap.size 24 (tmC k u n s (.slice ao m c)) ∧ TmC (y3.heap.size ≤ ·) y37 (tmC x.k x.u x.n x.s (.slice xo x.ks.length xc)) x ∧ Blk y37 y29.heap.size 24 (tmC x.k x.u x.n x.s (.slice xo x.ks.length xc)) ∧ Sl y37 (.slice yo xl yc) (ofK .u8 (bytesT x)) from ⟨below_thn HY36.out.1 hb (Nat.le_refl _), HY36.out.2.1.below hb (Nat.le_refl _), HY36.out.2.2.1.below hb HY36.out.2.2.1.lt, HY36.out.2.2.2.1.below hb, HY36.out.2.2.2.2.1.below hb HY36.out.2.2.2.2.1.lt, HY36.out.2.2.2.2.2.below hb (Nat.le_refl _)⟩)
      clear hb
      go_wp2_with fail
      go_ret
      exact ⟨rfl, HY38.out.1⟩
    have NZ := Lib.hid hz
    have GT := Lib.hid (sizeT_good hz)
    unfold EncP at hx
    rw [encT_ok hz, checkN_ok hz] at hx
    clear hz
    refine Calls.mono hx ?_
    clear hx
    rintro e' y39 ⟨bo, bc, rfl, hrow, hb⟩
    obtain ⟨bl, hbl⟩ : ∃ l, (bytesT t).length = l := ⟨_, rfl⟩
    have LB := Lib.hid hbl
    rw [hbl] at hrow ⊢
    have HY40 := Lib.hid (show Below w.heap.size w y39 ∧ Sl y39 (.slice ro N rc) (ofK .u8 R) ∧ Blk y39 w.heap.size 24 (tmC k u n s (.slice ao m c)) ∧ TmC (y3.heap.size ≤ ·) y39 (tmC x.k x.u x.n x.s (.slice xo x.ks.length xc)) x ∧ Blk y39 y29.heap.size 24 (tmC x.k x.u x.n x.s (.slice xo x.ks.length xc)) ∧ Sl y39 (.slice yo xl yc) (ofK .u8 (bytesT x)) ∧ Sl y39 (.slice bo bl bc) (ofK .u8 (bytesT t)) from ⟨below_thn HY36.out.1 hb (Nat.le_refl _), HY36.out.2.1.below hb (Nat.le_refl _), HY36.out.2.2.1.below hb HY36.out.2.2.1.lt, HY36.out.2.2.2.1.below hb, HY36.out.2.2.2.2.1.below hb HY36.out.2.2.2.2.1.lt, HY36.out.2.2.2.2.2.below hb (Nat.le_refl _), Sl.of_owns hrow⟩)
    have CB := Lib.hid (show bl ≤ bc ∧ bc ≤ 9223372036854775807 from by have h := (Sl.of_owns hrow).nums; obtain ⟨_, _, e, h1, h2, _⟩ := h; simp only [Value.slice.injEq] at e; omega)
    have BL := Lib.hid (show 0 < bl ∧ bl ≤ 82800 from ⟨by rw [← LB.out]; exact bytesT_pos t, by rw [← LB.out]; exact GT.out.2.2.2⟩)
    clear hrow hb hbl
    go_wp2_with (first
    | ((with_reducible refine wpList_slice_b0 y39 rfl rfl ?_); intro x1 hrow hb hsz; have X1 := Lib.hid (And.intro hrow hb); clear hrow hb hsz)
    | ((with_reducible refine wpList_append_bs y39 x1 rfl (.tmp 69) (.tmp 70) rfl (.slice (some ⟨y39.heap.size, 0, none⟩) 0 0) 0 [] rfl X1.out.1 X1.out.2 (.slice bo bl bc) (bytesT t) rfl (HY40.out.2.2.2.2.2.2.below X1.out.2 (Nat.le_refl _)) bl ?_ ?_ ?_); (focus (rw [Nat.zero_add]; exact LB.out)); (focus (have := BL.out; omega)); intro o2 c2 x2 hrow hb; have X2 := Lib.hid (And.intro hrow hb); clear hrow hb)
    | ((with_reducible refine wpList_append_bs y39 x2 rfl (.tmp 71) (.tmp 72) rfl (.slice o2 bl c2) bl ([] ++ bytesT t) rfl X2.out.1 X2.out.2 (.slice ro N rc) R rfl (HY40.out.2.1.below X2.out.2 (Nat.le_refl _)) (bl + N) ?_ ?_ ?_); (focus (rw [HN.out])); (focus (have := BL.out; omega)); intro o3 c3 x3 hrow hb; have X3 := Lib.hid (And.intro hrow hb); clear hrow hb))
    have HX3 := Lib.hid (show Below w.heap.size w x3 ∧ Sl x3 (.slice ro N rc) (ofK .u8 R) ∧ Blk x3 w.heap.size 24 (tmC k u n s (.slice ao m c)) ∧ TmC (y3.heap.size ≤ ·) x3 (tmC x.k x.u x.n x.s (.slice xo x.ks.length xc)) x ∧ Blk x3 y29.heap.size 24 (tmC x.k x.u x.n x.s (.slice xo x.ks.length xc)) ∧ Sl x3 (.slice yo xl yc) (ofK .u8 (bytesT x)) ∧ Sl x3 (.slice bo bl bc) (ofK .u8 (bytesT t)) ∧ Sl x3 (.slice o3 (bl + N) c3) (ofK .u8 (bytesT t ++ R)) from ⟨below_thn HY40.out.1 X3.out.2 (Nat.le_refl _), HY40.out.2.1.below X3.out.2 (Nat.le_refl _), HY40.out.2.2.1.below X3.out.2 HY40.out.2.2.1.lt, HY40.out.2.2.2.1.below X3.out.2, HY40.out.2.2.2.2.1.below X3.out.2 HY40.out.2.2.2.2.1.lt, HY40.out.2.2.2.2.2.1.below X3.out.2 (Nat.le_refl _), HY40.out.2.2.2.2.2.2.below X3.out.2 (Nat.le_refl _), Sl.of_owns X3.out.1⟩)
    clear X1 X2 X3
    refine (decode_ok t R _ (bl + N) x3 NZ.out HX3.out.2.2.2.2.2.2.2 HAB.out (by rw [List.length_append, LB.out, HN.out]) (by have := BL.out; omega)).mono ?_
    rintro e' y41 ⟨ct, rfl, htm, hb⟩
    rw [LB.out]
    have HY42 := Lib.hid (show Below w.heap.size w y41 ∧ Sl y41 (.slice ro N rc) (ofK .u8 R) ∧ Blk y41 w.heap.size 24 (tmC k u n s (.slice ao m c)) ∧ TmC (y3.heap.size ≤ ·) y41 (tmC x.k x.u x.n x.s (.slice xo x.ks.length xc)) x ∧ Blk y41 y29.heap.size 24 (tmC x.k x.u x.n x.s (.slice xo x.ks.length xc)) ∧ Sl y41 (.slice yo xl yc) (ofK .u8 (bytesT x)) ∧ Sl y41 (.slice bo bl bc) (ofK .u8 (bytesT t)) ∧ TmC (x3.heap.size ≤ ·) y41 (ct) t from ⟨below_thn HX3.out.1 hb (Nat.le_refl _), HX3.out.2.1.below hb (Nat.le_refl _), HX3.out.2.2.1.below hb HX3.out.2.2.1.lt, HX3.out.2.2.2.1.below hb, HX3.out.2.2.2.2.1.below hb HX3.out.2.2.2.2.1.lt, HX3.out.2.2.2.2.2.1.below hb (Nat.le_refl _), HX3.out.2.2.2.2.2.2.1.below hb (Nat.le_refl _), htm⟩)
    clear htm hb
    obtain ⟨po, pc, hct, -, -, -⟩ := HY42.out.2.2.2.2.2.2.2.shape
    subst hct
    obtain ⟨mm, hm1, hm2, hm3⟩ : ∃ mm : Nat, mm < bl ∧ (max cut 0).tmod (bl : Int) = (mm : Int) ∧ (max cut 0) % (bl : Int) = (mm : Int) := by
      have h0 : 0 < bl := BL.out.1
      have h1 : 0 ≤ max cut 0 := by omega
      have h2 := Int.emod_nonneg (max cut 0) (show (bl : Int) ≠ 0 by omega)
      have h3 := Int.emod_lt_of_pos (max cut 0) (show (0 : Int) < (bl : Int) by omega)
      exact ⟨((max cut 0) % (bl : Int)).toNat, by omega, by rw [Int.tmod_eq_emod_of_nonneg h1]; omega, by omega⟩
    have hm4 : (mm : Int) ≤ (bl : Int) := by omega
    have hm5 : (mm : Int) ≤ (bc : Int) := by have := CB.out; omega
    have hm6 : (0 : Int) ≤ (mm : Int) := by omega
    have hz1 : ((bl : Int) == 0) = false := by have := BL.out; simp; omega
    have hz2 : ¬ (bl : Int) = 0 := by have := BL.out; omega
    have HM1 := Lib.hid hm1
    clear hm1
    go_wp2_with (first
    | ((with_reducible refine wpList_alloc_blk y41 rfl 24 rfl (tmC 0 0 0 ⟨#[]⟩ (.slice none 0 0)) Try.zeroTm ?_); intro b43 hb hbel hsz; have HB45 := Lib.hid (And.intro hb hbel); clear hb hbel hsz)
    | ((with_reducible refine wpList_store_blk b43 rfl 24 (.tmp 14) (.tmp 75) rfl y41.heap.size 24 (tmC 0 0 0 ⟨#[]⟩ (.slice none 0 0)) (tmC t.k t.u t.n t.s (.slice po t.ks.length pc)) HB45.out.1 rfl rfl rfl (tmC_info _ _ _ _ _) (tmC_one _ _ _ _ _ _ _) ?_); intro b44 hb hc hs; have hb3 := below_ch HB45.out.2 hc (Nat.le_refl _) (fun k hk => Nat.le_of_eq (Eq.symm hk)); have HY46 := Lib.hid (show Below w.heap.size w b44 ∧ Sl b44 (.slice ro N rc) (ofK .u8 R) ∧ Blk b44 w.heap.size 24 (tmC k u n s (.slice ao m c)) ∧ TmC (y3.heap.size ≤ ·) b44 (tmC x.k x.u x.n x.s (.slice xo x.ks.length xc)) x ∧ Blk b44 y29.heap.size 24 (tmC x.k x.u x.n x.s (.slice xo x.ks.length xc)) ∧ Sl b44 (.slice yo xl yc) (ofK .u8 (bytesT x)) ∧ Sl b44 (.slice bo bl bc) (ofK .u8 (bytesT t)) ∧ TmC (x3.heap.size ≤ ·) b44 (tmC t.k t.u t.n t.s (.slice po t.ks.length pc)) t ∧ Blk b44 y41.heap.size 24 (tmC t.k t.u t.n t.s (.slice po t.ks.length pc)) from ⟨below_thn HY42.out.1 hb3 (Nat.le_refl _), HY42.out.2.1.below hb3 (Nat.le_refl _), HY42.out.2.2.1.below hb3 HY42.out.2.2.1.lt, HY42.out.2.2.2.1.below hb3, HY42.out.2.2.2.2.1.below hb3 HY42.out.2.2.2.2.1.lt, HY42.out.2.2.2.2.2.1.below hb3 (Nat.le_refl _), HY42.out.2.2.2.2.2.2.1.below hb3 (Nat.le_refl _), HY42.out.2.2.2.2.2.2.2.below hb3, hb⟩); clear hb hc hs hb3 HB45))
    clear hm2 hm3 hm4 hm5 hm6 hz1 hz2
    refine (decode_bad ((bytesT t).take mm) 7 (.slice bo mm bc) mm b44 (dec_cut NZ.out (bytesT_B t GT.out.1) (by rw [LB.out]; exact HM1.out)) (HY46.out.2.2.2.2.2.2.1.pre mm (by have := HM1.out; omega)) ((bytesT_B t GT.out.1).take mm) (by rw [List.length_take, LB.out]; have := HM1.out; omega) (by have := HM1.out; have := BL.out; omega)).mono ?_
    rintro e' y47 ⟨rfl, hb⟩
    have HY48 := Lib.hid (show Below w.heap.size w y47 ∧ Sl y47 (.slice ro N rc) (ofK .u8 R) ∧ Blk y47 w.heap.size 24 (tmC k u n s (.slice ao m c)) ∧ TmC (y3.heap.size ≤ ·) y47 (tmC x.k x.u x.n x.s (.slice xo x.ks.length xc)) x ∧ Blk y47 y29.heap.size 24 (tmC x.k x.u x.n x.s (.slice xo x.ks.length xc)) ∧ Sl y47 (.slice yo xl yc) (ofK .u8 (bytesT x)) ∧ Sl y47 (.slice bo bl bc) (ofK .u8 (bytesT t)) ∧ TmC (x3.heap.size ≤ ·) y47 (tmC t.k t.u t.n t.s (.slice po t.ks.length pc)) t ∧ Blk y47 y41.heap.size 24 (tmC t.k t.u t.n t.s (.slice po t.ks.length pc)) from ⟨below_thn HY46.out.1 hb (Nat.le_refl _), HY46.out.2.1.below hb (Nat.le_refl _), HY46.out.2.2.1.below hb HY46.out.2.2.1.lt, HY46.out.2.2.2.1.below hb, HY46.out.2.2.2.2.1.below hb HY46.out.2.2.2.2.1.lt, HY46.out.2.2.2.2.2.1.below hb (Nat.le_refl _), HY46.out.2.2.2.2.2.2.1.below hb (Nat.le_refl _), HY46.out.2.2.2.2.2.2.2.1.below hb, HY46.out.2.2.2.2.2.2.2.2.below hb HY46.out.2.2.2.2.2.2.2.2.lt⟩)
    clear hb
    have zz : (bl == bl) = true := by simp
    go_wp2_with (first
    | ((with_reducible refine wpList_alloc_blk y47 rfl 24 rfl (tmC 0 0 0 ⟨#[]⟩ (.slice none 0 0)) Try.zeroTm ?_); intro b49 hb hbel hsz; have HB51 := Lib.hid (And.intro hb hbel); clear hb hbel hsz)
    | ((with_reducible refine wpList_store_blk b49 rfl 24 (.tmp 17) (.tmp 87) rfl y47.heap.size 24 (tmC 0 0 0 ⟨#[]⟩ (.slice none 0 0)) (tmC 0 0 0 ⟨#[]⟩ (.slice none 0 0)) HB51.out.1 rfl rfl rfl (tmC_info _ _ _ _ _) (tmC_one _ _ _ _ _ _ _) ?_); intro b50 hb hc hs; have hb3 := below_ch HB51.out.2 hc (Nat.le_refl _) (fun k hk => Nat.le_of_eq (Eq.symm hk)); have HY52 := Lib.hid (show Below w.heap.size w b50 ∧ Sl b50 (.slice ro N rc) (ofK .u8 R) ∧ Blk b50 w.heap.size 24 (tmC k u n s (.slice ao m c)) ∧ TmC (y3.heap.size ≤ ·) b50 (tmC x.k x.u x.n x.s (.slice xo x.ks.length xc)) x ∧ Blk b50 y29.heap.size 24 (tmC x.k x.u x.n x.s (.slice xo x.ks.length xc)) ∧ Sl b50 (.slice yo xl yc) (ofK .u8 (bytesT x)) ∧ Sl b50 (.slice bo bl bc) (ofK .u8 (bytesT t)) ∧ TmC (x3.heap.size ≤ ·) b50 (tmC t.k t.u t.n t.s (.slice po t.ks.length pc)) t ∧ Blk b50 y41.heap.size 24 (tmC t.k t.u t.n t.s (.slice po t.ks.length pc)) from ⟨below_thn HY48.out.1 hb3 (Nat.le_refl _), HY48.out.2.1.below hb3 (Nat.le_refl _), HY48.out.2.2.1.below hb3 HY48.out.2.2.1.lt, HY48.out.2.2.2.1.below hb3, HY48.out.2.2.2.2.1.below hb3 HY48.out.2.2.2.2.1.lt, HY48.out.2.2.2.2.2.1.below hb3 (Nat.le_refl _), HY48.out.2.2.2.2.2.2.1.below hb3 (Nat.le_refl _), HY48.out.2.2.2.2.2.2.2.1.below hb3, HY48.out.2.2.2.2.2.2.2.2.below hb3 HY48.out.2.2.2.2.2.2.2.2.lt⟩); clear hb hc hs hb3 HB51)
    | (with_reducible refine wpList_load_any rfl 24 (.tmp 3) rfl w.heap.size 0 rfl (tmC k u n s (.slice ao m c)) _ (rangeW_blk HY52.out.2.2.1) Try.underlying24 rfl (tmC_info _ _ _ _ _) ?_)
    | ((with_reducible refine wpList_load_want ?_ 24 (.tmp 3) rfl w.heap.size 0 rfl (tmC k u n s (.slice ao m c)) _ (rangeW_blk HY52.out.2.2.1) Try.underlying24 rfl (tmC_info _ _ _ _ _) ?_); focus rfl)
    | (with_reducible refine wpList_load_any rfl 24 (.tmp 14) rfl y41.heap.size 0 rfl (tmC t.k t.u t.n t.s (.slice po t.ks.length pc)) _ (rangeW_blk HY52.out.2.2.2.2.2.2.2.2) Try.underlying24 rfl (tmC_info _ _ _ _ _) ?_)
    | ((with_reducible refine wpList_load_want ?_ 24 (.tmp 14) rfl y41.heap.size 0 rfl (tmC t.k t.u t.n t.s (.slice po t.ks.length pc)) _ (rangeW_blk HY52.out.2.2.2.2.2.2.2.2) Try.underlying24 rfl (tmC_info _ _ _ _ _) ?_); focus rfl))
    have hx := same_any5 t t _ _ _ _ b50 HY52.out.2.2.2.2.2.2.2.1 (HT.out.below HY52.out.1)
    rw [show sameT t t = true from (sameT_iff t t).2 rfl] at hx
    refine Calls.mono hx ?_
    clear hx
    rintro e' y53 ⟨rfl, hb⟩
    have HY54 := Lib.hid (show Below w.heap.size w y53 ∧ Sl y53 (.slice ro N rc) (ofK .u8 R) ∧ Blk y53 w.heap.size 24 (tmC k u n s (.slice ao m c)) ∧ TmC (y3.heap.size ≤ ·) y53 (tmC x.k x.u x.n x.s (.slice xo x.ks.length xc)) x ∧ Blk y53 y29.heap.size 24 (tmC x.k x.u x.n x.s (.slice xo x.ks.length xc)) ∧ Sl y53 (.slice yo xl yc) (ofK .u8 (bytesT x)) ∧ Sl y53 (.slice bo bl bc) (ofK .u8 (bytesT t)) ∧ TmC (x3.heap.size ≤ ·) y53 (tmC t.k t.u t.n t.s (.slice po t.ks.length pc)) t ∧ Blk y53 y41.heap.size 24 (tmC t.k t.u t.n t.s (.slice po t.ks.length pc)) from ⟨below_thn HY52.out.1 hb (Nat.le_refl _), HY52.out.2.1.below hb (Nat.le_refl _), HY52.out.2.2.1.below hb HY52.out.2.2.1.lt, HY52.out.2.2.2.1.below hb, HY52.out.2.2.2.2.1.below hb HY52.out.2.2.2.2.1.lt, HY52.out.2.2.2.2.2.1.below hb (Nat.le_refl _), HY52.out.2.2.2.2.2.2.1.below hb (Nat.le_refl _), HY52.out.2.2.2.2.2.2.2.1.below hb, HY52.out.2.2.2.2.2.2.2.2.below hb HY52.out.2.2.2.2.2.2.2.2.lt⟩)
    clear hb
    go_wp2_with fail
    go_ret
    exact ⟨rfl, HY54.out.1⟩


end Go.Proofs.Ytfenikoajadiaaa
