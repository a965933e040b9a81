/-
  Rows of rows of bytes that come in; law 08: MerkleBytes, walked. Conditions: bytes.
-/
import Derived.Test.YtkbhehnpgnilmaaMkZ
import Derived.Lib.MinMax
import Derived.Deep.CutBlock
import Derived.Deep.CutRange
namespace Go.Proofs.Ytkbhehnpgnilmaa
open Go Go.RowKit Go.ChangeShapes Go.WideShapes Go.ChangeAt
set_option linter.unusedSimpArgs false
set_option linter.unusedVariables false

theorem SlD.len {w : World} {ao : Option Addr} {n c : Nat} {l : List (List Int)} (h : SlD w (.slice ao n c) l) : l.length = n := by obtain ⟨_, _, e, _⟩ := h; simp at e; exact e.2.1.symm
theorem allB_bytesM {n : Int} {C P : List (List Int)} (hC : ∀ x ∈ C, IsD x) (hP : ∀ x ∈ P, IsD x) : AllB (bytesM n C P) := fun c hc => by
  unfold bytesM at hc
  rcases List.mem_append.1 hc with h | h
  · rcases List.mem_append.1 h with h | h
    · have := List.mem_singleton.1 h; omega
    · obtain ⟨x, hx, hcx⟩ := List.mem_flatten.1 h; exact (hC x hx).2 c hcx
  · obtain ⟨x, hx, hcx⟩ := List.mem_flatten.1 h; exact (hP x hx).2 c hcx
theorem Sl.cutB {w : World} {ao : Option Addr} {n c : Nat} {bs : List Int} (h : Sl w (.slice ao n c) (ofK .u8 bs)) (m : Nat) (hm : m ≤ n) : Sl w (.slice ao m c) (ofK .u8 (bs.take m)) := by
  have hn : bs.length = n := by obtain ⟨_, _, e, _⟩ := h.shape; rw [length_ofK] at e; simp at e; exact e.2.1.symm
  have := h.take m (by rw [length_ofK, hn]; exact hm)
  rw [take_ofK] at this
  exact this
/-- a row of bytes that stands in a row -/
structure BsD where
  ao : Option Addr
  n : Nat
  c : Nat
  bs : List Int
instance : Inhabited BsD := ⟨⟨none, 0, 0, []⟩⟩
def bsC (r : BsD) : List Value := [.slice r.ao r.n r.c]
def BsOk (W : World) (r : BsD) : Prop := Sl W (.slice r.ao r.n r.c) (ofK .u8 r.bs) ∧ AllB r.bs
theorem read_byterows {H : Type} {enc : TypeId × Value → H} {W : World} {t e e2 : TypeId} {v : Value} {d : DataW H} {p : List MemPlace} (ht : Try.prog.underlying t = some (.slice e)) (he : Try.prog.underlying e = some (.slice e2)) (hC : Try.prog.cellsOf e = 1) (u2 : Try.prog.underlying e2 = some (.int .u8)) (c2 : Try.prog.cellsOf e2 = 1)
    (hv : ∃ a len cap, v = .slice a len cap) (h : DataW.Trod enc Try.prog W 0 (fun _ => true) true t v d p) : ∃ l : List BsD, SlF W v 1 bsC l ∧ NilC v ∧ ∀ a ∈ l, BsOk W a :=
  read_fixed 1 (by omega) bsC (BsOk W) ht hC (fun a h => rfl) (fun fuel cs x h => by
    obtain ⟨a, l, c, rfl⟩ : ∃ a l c, cs = [.slice a l c] := by
      rcases Deep.open_slice he h with ⟨hcs, _⟩ | ⟨a, l, c, _, _, _, _, hcs, _⟩
      · exact ⟨_, _, _, hcs⟩
      · exact ⟨_, _, _, hcs⟩
    obtain ⟨bs, h1, h2, _⟩ := open_nums (v := .slice a l c) (d := x.1) (p := x.2) he u2 c2 ⟨a, l, c, rfl⟩ ⟨fuel, h⟩
    exact ⟨⟨a, l, c, bs⟩, rfl, h1, fun y hy => wf_u8 (h2 y hy)⟩) hv h

theorem Try.infoU8 : (Try.prog.info? 5).map (fun i => (i.zero, i.size, i.bytes)) = some (some (.int .u8 0), 1, 1) := by kernel_rfl
theorem wpList_slice_b0 (w : World) {ops : Array Oper} {rest : List Oper} {o : Oper} {a : Act} {Q : Exit → Act → World → Prop} (hgd : o.guard = none) (ho : o.op = .buildSlice 33 0 #[])
    (h : ∀ w', w'.ownsRow w.heap.size 5 1 (.slice (some ⟨w.heap.size, 0, none⟩) 0 0) 0 (ofK .u8 ([] : List Int)) → Below w.heap.size w w' → w'.heap.size = w.heap.size + 1 → wpList Try.prog ops Q rest (a.put o.dst (.slice (some ⟨w.heap.size, 0, none⟩) 0 0)) w') :
    wpList Try.prog ops Q (o :: rest) a w := by
  refine wpList_plain hgd fun K hK => ?_
  have hrun : (execOp a.eval o).run Try.prog w = .ok (.value (.slice (some ⟨w.heap.size, 0, none⟩) 0 0)) (w.alloc (.cells #[] 5)) := by
    have hb : (Instr.buildSlice 33 0 #[]).run Try.prog w = .ok (.slice (some ⟨w.heap.size, 0, none⟩) 0 0) (w.alloc (.cells #[] 5)) := by
      have sz : ∀ w, (sizeOf 5).run Try.prog w = .ok 1 w := fun w => by kernel_rfl
      have zv : ∀ w, (zeroValue 5).run Try.prog w = .ok (.int .u8 0) w := fun w => by kernel_rfl
      have nr : ∀ cs, (newRow 5 cs).run Try.prog w = .ok ⟨w.heap.size, 0, none⟩ (w.alloc (.cells cs 5)) := fun cs => by simp [newRow, Result.andThen]
      simp [Instr.buildSlice, run_underlying Try.underlying33, sz, zv, Result.andThen, Instr.fill, nr]
      have e : ∀ f : Nat → Value, Array.map f (Array.range 0) = #[] := fun f => Array.eq_empty_of_size_eq_zero (by simp)
      rw [e]
    unfold execOp
    simp [ho, hb, Result.andThen]
  unfold Oper.wp
  rw [hrun]
  refine hK _ _ (h _ ⟨rfl, .inr ⟨w.heap.size, 0, #[], rfl, Nat.le_refl _, ?_, Nat.le_refl _, Nat.zero_le _, rfl, rfl⟩⟩ ((Below.refl _ _).alloc (Nat.le_refl _) _) (World.size_alloc _ _))
  have := Blk.new w [] 5
  unfold Blk at this
  exact this
theorem wpList_append_bs (w0 w : World) {ops : Array Oper} {rest : List Oper} {o : Oper} {a : Act} {Q : Exit → Act → World → Prop} (hgd : o.guard = none) (s x' : Operand)
    (ho : o.op = .call { callee := .builtin .append, args := #[s, x'], argTypes := #[33, 33] })
    (v : Value) (n : Nat) (xs : List Int) (hs : a.eval s = v) (hr : w.ownsRow w0.heap.size 5 1 v n (ofK .u8 xs)) (hbel : Below w0.heap.size w0 w)
    (vx : Value) (ys : List Int) (hx : a.eval x' = vx) (hsl : Sl w vx (ofK .u8 ys)) (N : Nat) (hN : n + ys.length = N) (hm : N ≤ 140737488351232)
    (h : ∀ ao c w', w'.ownsRow w0.heap.size 5 1 (.slice ao N c) N (ofK .u8 (xs ++ ys)) → Below w0.heap.size w0 w' → wpList Try.prog ops Q rest (a.put o.dst (.slice ao N c)) w') :
    wpList Try.prog ops Q (o :: rest) a w := by
  obtain ⟨i0, hi, hz0, hz1, hz2⟩ := info_parts Try.infoU8
  refine wpList_append_sl w hgd s x' _ ho w0.heap.size 5 i0 (.int .u8 0) 1 Try.underlying33 hi hz0 hz1 hz2 rfl v n (ofK .u8 xs) hs hr vx (ofK .u8 ys) hx hsl (one_ofK _ _) N (by rw [length_ofK]; exact hN) (by unfold maxLen; omega) (by omega) hbel.size ?_
  intro ao c w' hown hgr hbl
  refine h ao c w' ?_ (below_ch hbel (ch_row hgr) (Nat.le_refl _) (fun k hk => (hr.lt k hk).1))
  have e : ofK .u8 (xs ++ ys) = ofK .u8 xs ++ ofK .u8 ys := by simp [ofK]
  rw [e]; exact hown


set_option maxRecDepth 100000 in
set_option maxHeartbeats 16000000 in
theorem merkleBytes_walk (v : Value) (l : List SgD) (v2 : Value) (rs : List BsD) (w : World) (hv : SlF w v 3 sgD l) (hl : NilC v ∧ ∀ q ∈ l, SgOk w q) (hv2 : SlF w v2 1 bsC rs) (hl2 : NilC v2 ∧ ∀ r ∈ rs, BsOk w r) : Calls Try.prog 22 #[v, v2] w (TrueP w) := by
  obtain ⟨ao, cp, rfl, hcp, hcp2, hcell⟩ := hv
  obtain ⟨bo, dp, rfl, hdp, hdp2, hcell2⟩ := hv2
  obtain ⟨n, hnl⟩ : ∃ n, l.length = n := ⟨_, rfl⟩
  obtain ⟨m, hml⟩ : ∃ m, rs.length = m := ⟨_, rfl⟩
  have HV := Lib.hid (And.intro hcell hl.2)
  have HV2 := Lib.hid (And.intro hcell2 hl2.2)
  rw [hnl] at hcp ⊢
  rw [hml] at hdp ⊢
  have HN := Lib.hid hnl
  have HM := Lib.hid hml
  have hn63 : n ≤ 9223372036854775807 := by omega
  have hm63 : m ≤ 9223372036854775807 := by omega
  clear hl hl2 hcell hcell2 hnl hml
  go_enter Try.func22, Try.ntmps22
  go_wp2_with fail
  refine (wakes8_any w).mono ?_
  rintro e w1 ⟨rfl, hb1⟩
  have H1 := Lib.hid hb1
  clear hb1
  go_upto_block 0 with fail
  go_cut [] from 5 to 59 (fun wc => Hid (Below w.heap.size w wc))
  case first =>
    go_wp2_with fail
    go_loopw [19] (fun c wr => ∃ k : Nat, k ≤ n ∧ k ≤ 6 ∧ c = .int .i64 k ∧ Hid (Below w.heap.size w wr)) (fun c _ => n - (intOf c).toNat)
    case atStart => exact ⟨0, Nat.zero_le _, by omega, rfl, H1⟩
    case round =>
      obtain ⟨k, hk, hk6, rfl, HR⟩ := hrel
      by_cases hlt : k < n
      rotate_left
      · obtain rfl : k = n := by omega
        go_wp2_with fail
        go_meet
        case rel => exact HR
      have hk32 : (k : Int) < n := by omega
      have hk0 : (0 : Int) ≤ (k : Int) := by omega
      have hka : k < l.length := by rw [HN.out]; exact hlt
      obtain ⟨ag, ago, rfl, hca⟩ := HV.out.1 (by omega)
      have hc1 := rangeW_below (hca k hka) HR.out
      have hq := (HV.out.2 _ (List.getElem_mem hka)).below HR.out
      generalize l[k] = q at hc1 hq
      obtain ⟨nn, co, cl, cc, C, po, pl, pc, P⟩ := q
      obtain ⟨hn, ⟨hC, nC, dC⟩, ⟨hP, nP, dP⟩⟩ := hq
      simp only at hn hC nC dC hP nP dP
      have HC := Lib.hid (show wr.rangeAt ag (ago + k * 3) (sgC nn (.slice co cl cc) (.slice po pl pc)) from hc1)
      have HD := Lib.hid (And.intro (And.intro nC dC) (And.intro nP dP))
      have H0 := Lib.hid (And.intro HR.out (And.intro hC hP))
      clear hc1 hca hka hn hC nC dC hP nP dP
      by_cases h6 : k = 6
      · subst h6
        go_wp2_with (first
    | ((with_reducible refine wpList_alloc_blk wr rfl 90 rfl (sgC 0 (.slice none 0 0) (.slice none 0 0)) Try.zeroSg ?_); intro b1 hb hbel hsz; have HB3 := Lib.hid (And.intro hb hbel); clear hb hbel hsz)
    | ((with_reducible refine wpList_store_blk b1 rfl 90 (.tmp 6) (.tmp 23) rfl wr.heap.size 90 (sgC 0 (.slice none 0 0) (.slice none 0 0)) (sgC nn (.slice co cl cc) (.slice po pl pc)) HB3.out.1 rfl rfl rfl (sgC_info _ _ _) (sgC_one _ _ _ _ _ _ _) ?_); intro b2 hb hc hs; have hb3 := below_ch HB3.out.2 hc (Nat.le_refl _) (fun k hk => Nat.le_of_eq (Eq.symm hk)); have HY4 := Lib.hid (show Below w.heap.size w b2 ∧ SlD b2 (.slice co cl cc) C ∧ SlD b2 (.slice po pl pc) P ∧ Blk b2 wr.heap.size 90 (sgC nn (.slice co cl cc) (.slice po pl pc)) from ⟨below_thn H0.out.1 hb3 (Nat.le_refl _), H0.out.2.1.below hb3, H0.out.2.2.below hb3, hb⟩); clear hb hc hs hb3 HB3)
    | (with_reducible refine wpList_load_any rfl 90 (.tmp 22) rfl ag (ago + 6 * 3) rfl (sgC nn (.slice co cl cc) (.slice po pl pc)) _ HC.out Try.underlying90 rfl (sgC_info _ _ _) ?_))
        go_meet
        case rel => exact Lib.hid HY4.out.1
      have hk6' : ((k : Int) == 6) = false := by simp; omega
      have hk5 : k < 6 := by omega
      clear h6
      go_wp2_with (first
    | ((with_reducible refine wpList_alloc_blk wr rfl 90 rfl (sgC 0 (.slice none 0 0) (.slice none 0 0)) Try.zeroSg ?_); intro b5 hb hbel hsz; have HB7 := Lib.hid (And.intro hb hbel); clear hb hbel hsz)
    | ((with_reducible refine wpList_store_blk b5 rfl 90 (.tmp 6) (.tmp 23) rfl wr.heap.size 90 (sgC 0 (.slice none 0 0) (.slice none 0 0)) (sgC nn (.slice co cl cc) (.slice po pl pc)) HB7.out.1 rfl rfl rfl (sgC_info _ _ _) (sgC_one _ _ _ _ _ _ _) ?_); intro b6 hb hc hs; have hb3 := below_ch HB7.out.2 hc (Nat.le_refl _) (fun k hk => Nat.le_of_eq (Eq.symm hk)); have HY8 := Lib.hid (show Below w.heap.size w b6 ∧ SlD b6 (.slice co cl cc) C ∧ SlD b6 (.slice po pl pc) P ∧ Blk b6 wr.heap.size 90 (sgC nn (.slice co cl cc) (.slice po pl pc)) from ⟨below_thn H0.out.1 hb3 (Nat.le_refl _), H0.out.2.1.below hb3, H0.out.2.2.below hb3, hb⟩); clear hb hc hs hb3 HB7)
    | (with_reducible refine wpList_load_any rfl 90 (.tmp 22) rfl ag (ago + k * 3) rfl (sgC nn (.slice co cl cc) (.slice po pl pc)) _ HC.out Try.underlying90 rfl (sgC_info _ _ _) ?_)
    | (with_reducible refine wpList_load_any rfl 90 (.tmp 6) rfl wr.heap.size 0 rfl (sgC nn (.slice co cl cc) (.slice po pl pc)) _ (rangeW_blk HY8.out.2.2.2) Try.underlying90 rfl (sgC_info _ _ _) ?_))
      obtain ⟨X, hX⟩ : ∃ X, C.take 70 = X := ⟨_, rfl⟩
      obtain ⟨Y, hY⟩ : ∃ Y, P.take 5 = Y := ⟨_, rfl⟩
      have DX := Lib.hid (show ∀ x ∈ X, IsD x from fun x hx => HD.out.1.2 x (List.mem_of_mem_take (by rw [hX]; exact hx)))
      have DY := Lib.hid (show ∀ x ∈ Y, IsD x from fun x hx => HD.out.2.2 x (List.mem_of_mem_take (by rw [hY]; exact hx)))
      have HXY := Lib.hid (And.intro hX hY)
      have hx := signed8_any nn co po cl cc pl pc C P b6 HY8.out.2.1 HY8.out.2.2.1 HD.out.1.1 HD.out.2.1 HD.out.1.2 HD.out.2.2
      rw [hX, hY] at hx
      obtain ⟨xl, hxl⟩ : ∃ l, X.length = l := ⟨_, rfl⟩
      obtain ⟨yl, hyl⟩ : ∃ l, Y.length = l := ⟨_, rfl⟩
      have LX := Lib.hid hxl
      have LY := Lib.hid hyl
      have hx70 : xl ≤ 70 := by rw [← hxl, ← hX, List.length_take]; omega
      have hy5 : yl ≤ 5 := by rw [← hyl, ← hY, List.length_take]; omega
      unfold SignedP at hx
      rw [hxl, hyl] at hx
      clear hX hY hxl hyl
      refine Calls.mono hx ?_
      clear hx
      rintro e' y9 ⟨so, sc, qo, qc, rfl, hs1, hs2, hb⟩
      have HY10 := Lib.hid (show Below w.heap.size w y9 ∧ SlD y9 (.slice co cl cc) C ∧ SlD y9 (.slice po pl pc) P ∧ Blk y9 wr.heap.size 90 (sgC nn (.slice co cl cc) (.slice po pl pc)) ∧ SlD y9 (.slice so xl sc) X ∧ SlD y9 (.slice qo yl qc) Y from ⟨below_thn HY8.out.1 hb (Nat.le_refl _), HY8.out.2.1.below hb, HY8.out.2.2.1.below hb, HY8.out.2.2.2.below hb HY8.out.2.2.2.lt, hs1, hs2⟩)
      clear hs1 hs2 hb
      go_wp2_with (first
    | ((with_reducible refine wpList_alloc_blk y9 rfl 90 rfl (sgC 0 (.slice none 0 0) (.slice none 0 0)) Try.zeroSg ?_); intro b11 hb hbel hsz; have HB13 := Lib.hid (And.intro hb hbel); clear hb hbel hsz)
    | ((with_reducible refine wpList_store_blk b11 rfl 90 (.tmp 7) (.tmp 27) rfl y9.heap.size 90 (sgC 0 (.slice none 0 0) (.slice none 0 0)) (sgC nn (.slice so xl sc) (.slice qo yl qc)) HB13.out.1 rfl rfl rfl (sgC_info _ _ _) (sgC_one _ _ _ _ _ _ _) ?_); intro b12 hb hc hs; have hb3 := below_ch HB13.out.2 hc (Nat.le_refl _) (fun k hk => Nat.le_of_eq (Eq.symm hk)); have HY14 := Lib.hid (show Below w.heap.size w b12 ∧ SlD b12 (.slice co cl cc) C ∧ SlD b12 (.slice po pl pc) P ∧ Blk b12 wr.heap.size 90 (sgC nn (.slice co cl cc) (.slice po pl pc)) ∧ SlD b12 (.slice so xl sc) X ∧ SlD b12 (.slice qo yl qc) Y ∧ Blk b12 y9.heap.size 90 (sgC nn (.slice so xl sc) (.slice qo yl qc)) from ⟨below_thn HY10.out.1 hb3 (Nat.le_refl _), HY10.out.2.1.below hb3, HY10.out.2.2.1.below hb3, HY10.out.2.2.2.1.below hb3 HY10.out.2.2.2.1.lt, HY10.out.2.2.2.2.1.below hb3, HY10.out.2.2.2.2.2.below hb3, hb⟩); clear hb hc hs hb3 HB13)
    | (with_reducible refine wpList_load_any rfl 90 (.tmp 7) rfl y9.heap.size 0 rfl (sgC nn (.slice so xl sc) (.slice qo yl qc)) _ (rangeW_blk HY14.out.2.2.2.2.2.2) Try.underlying90 rfl (sgC_info _ _ _) ?_))
      by_cases hr : (0 ≤ nn ∧ nn < 8) ∧ xl = 67 ∧ yl = 3
      rotate_left
      · skip
        have hx := encode8_bad nn so qo xl sc yl qc b12 hr
        refine Calls.mono hx ?_
        clear hx
        rintro e' y15 ⟨rfl, hb⟩
        have HY16 := Lib.hid (show Below w.heap.size w y15 ∧ SlD y15 (.slice co cl cc) C ∧ SlD y15 (.slice po pl pc) P ∧ Blk y15 wr.heap.size 90 (sgC nn (.slice co cl cc) (.slice po pl pc)) ∧ SlD y15 (.slice so xl sc) X ∧ SlD y15 (.slice qo yl qc) Y ∧ Blk y15 y9.heap.size 90 (sgC nn (.slice so xl sc) (.slice qo yl qc)) from ⟨below_thn HY14.out.1 hb (Nat.le_refl _), HY14.out.2.1.below hb, HY14.out.2.2.1.below hb, HY14.out.2.2.2.1.below hb HY14.out.2.2.2.1.lt, HY14.out.2.2.2.2.1.below hb, HY14.out.2.2.2.2.2.1.below hb, HY14.out.2.2.2.2.2.2.below hb HY14.out.2.2.2.2.2.2.lt⟩)
        clear hb
        go_wp2_with (first
    | (with_reducible refine wpList_load_any rfl 90 (.tmp 7) rfl y9.heap.size 0 rfl (sgC nn (.slice so xl sc) (.slice qo yl qc)) _ (rangeW_blk HY16.out.2.2.2.2.2.2) Try.underlying90 rfl (sgC_info _ _ _) ?_))
        have hx := right8_any nn so qo xl sc yl qc y15
        rw [decide_eq_false hr] at hx
        refine Calls.mono hx ?_
        clear hx
        rintro e' y17 ⟨rfl, hb⟩
        have HY18 := Lib.hid (show Below w.heap.size w y17 ∧ SlD y17 (.slice co cl cc) C ∧ SlD y17 (.slice po pl pc) P ∧ Blk y17 wr.heap.size 90 (sgC nn (.slice co cl cc) (.slice po pl pc)) ∧ SlD y17 (.slice so xl sc) X ∧ SlD y17 (.slice qo yl qc) Y ∧ Blk y17 y9.heap.size 90 (sgC nn (.slice so xl sc) (.slice qo yl qc)) from ⟨below_thn HY16.out.1 hb (Nat.le_refl _), HY16.out.2.1.below hb, HY16.out.2.2.1.below hb, HY16.out.2.2.2.1.below hb HY16.out.2.2.2.1.lt, HY16.out.2.2.2.2.1.below hb, HY16.out.2.2.2.2.2.1.below hb, HY16.out.2.2.2.2.2.2.below hb HY16.out.2.2.2.2.2.2.lt⟩)
        clear hb
        clear hr
        go_wp2_with fail
        go_roundw
        case rel => exact ⟨k + 1, by omega, by omega, by go_num, Lib.hid HY18.out.1⟩
        case measure => simp [intOf]; omega
      obtain ⟨hk1, rfl, rfl⟩ := hr
      have HK := Lib.hid hk1
      have HBL := Lib.hid (show (bytesM nn X Y).length = 2241 from by rw [bytesM_length DX.out DY.out, LX.out, LY.out])
      have HAM := Lib.hid (allB_bytesM (n := nn) DX.out DY.out)
      have hx := encode8_ok nn so qo 67 sc 3 qc X Y b12 HY14.out.2.2.2.2.1 HY14.out.2.2.2.2.2.1 DX.out DY.out hk1.1 hk1.2 rfl rfl
      clear hk1
      rw [HBL.out] at hx
      refine Calls.mono hx ?_
      clear hx
      rintro e' y19 ⟨ve, rfl, hown, hb⟩
      have hsl := Sl.of_owns hown
      obtain ⟨eo, ec, rfl⟩ := own_shape hown
      have HY20 := Lib.hid (show Below w.heap.size w y19 ∧ SlD y19 (.slice co cl cc) C ∧ SlD y19 (.slice po pl pc) P ∧ Blk y19 wr.heap.size 90 (sgC nn (.slice co cl cc) (.slice po pl pc)) ∧ SlD y19 (.slice so 67 sc) X ∧ SlD y19 (.slice qo 3 qc) Y ∧ Blk y19 y9.heap.size 90 (sgC nn (.slice so 67 sc) (.slice qo 3 qc)) ∧ Sl y19 (.slice eo 2241 ec) (ofK .u8 (bytesM nn X Y)) from ⟨below_thn HY14.out.1 hb (Nat.le_refl _), HY14.out.2.1.below hb, HY14.out.2.2.1.below hb, HY14.out.2.2.2.1.below hb HY14.out.2.2.2.1.lt, HY14.out.2.2.2.2.1.below hb, HY14.out.2.2.2.2.2.1.below hb, HY14.out.2.2.2.2.2.2.below hb HY14.out.2.2.2.2.2.2.lt, hsl⟩)
      clear hown hsl hb
      go_wp2_with (first
    | (with_reducible refine wpList_load_any rfl 90 (.tmp 7) rfl y9.heap.size 0 rfl (sgC nn (.slice so 67 sc) (.slice qo 3 qc)) _ (rangeW_blk HY20.out.2.2.2.2.2.2.1) Try.underlying90 rfl (sgC_info _ _ _) ?_))
      have hx := right8_any nn so qo 67 sc 3 qc y19
      rw [decide_eq_true (show (0 ≤ nn ∧ nn < 8) ∧ (67 : Nat) = 67 ∧ (3 : Nat) = 3 from ⟨HK.out, rfl, rfl⟩)] at hx
      refine Calls.mono hx ?_
      clear hx
      rintro e' y21 ⟨rfl, hb⟩
      have HY22 := Lib.hid (show Below w.heap.size w y21 ∧ SlD y21 (.slice co cl cc) C ∧ SlD y21 (.slice po pl pc) P ∧ Blk y21 wr.heap.size 90 (sgC nn (.slice co cl cc) (.slice po pl pc)) ∧ SlD y21 (.slice so 67 sc) X ∧ SlD y21 (.slice qo 3 qc) Y ∧ Blk y21 y9.heap.size 90 (sgC nn (.slice so 67 sc) (.slice qo 3 qc)) ∧ Sl y21 (.slice eo 2241 ec) (ofK .u8 (bytesM nn X Y)) from ⟨below_thn HY20.out.1 hb (Nat.le_refl _), HY20.out.2.1.below hb, HY20.out.2.2.1.below hb, HY20.out.2.2.2.1.below hb HY20.out.2.2.2.1.lt, HY20.out.2.2.2.2.1.below hb, HY20.out.2.2.2.2.2.1.below hb, HY20.out.2.2.2.2.2.2.1.below hb HY20.out.2.2.2.2.2.2.1.lt, HY20.out.2.2.2.2.2.2.2.below hb (Nat.le_refl _)⟩)
      clear hb
      go_wp2_with fail
      refine wp_region_takes (fun w' => w'.rangeAt wr.heap.size 0 (sgC nn (.slice co cl cc) (.slice po pl pc)) ∧ w'.rangeAt y9.heap.size 0 (sgC nn (.slice so 67 sc) (.slice qo 3 qc))) [0, 1, 2, 3, 4] 11 (by kernel_rfl) rfl (by kernel_rfl) (by kernel_rfl) ⟨rangeW_blk HY22.out.2.2.2.1, rangeW_blk HY22.out.2.2.2.2.2.2.1⟩ ?_
      iterate 5 (refine' HeldL.run ?_ ?_ ?_ ?_; rotate_left 2; (simp only [List.getElem?_toArray, List.getElem?_cons_zero, List.getElem?_cons_succ]; rfl); rfl; (rintro w' ⟨k0, k1⟩; first | exact exec_load_mid rfl rfl k0 Try.underlying90 rfl (sgC_info _ _ _) | exact exec_load_mid rfl rfl k1 Try.underlying90 rfl (sgC_info _ _ _) | (go_simp; with_reducible rfl)); simp only [Act.put, List.setIfInBounds_toArray, List.set_cons_zero, List.set_cons_succ])
      have sm := (Sm.refl y21).drew
      have HV24 := Lib.hid (show Below w.heap.size w y21.drew ∧ SlD y21.drew (.slice co cl cc) C ∧ SlD y21.drew (.slice po pl pc) P ∧ Blk y21.drew wr.heap.size 90 (sgC nn (.slice co cl cc) (.slice po pl pc)) ∧ SlD y21.drew (.slice so 67 sc) X ∧ SlD y21.drew (.slice qo 3 qc) Y ∧ Blk y21.drew y9.heap.size 90 (sgC nn (.slice so 67 sc) (.slice qo 3 qc)) ∧ Sl y21.drew (.slice eo 2241 ec) (ofK .u8 (bytesM nn X Y)) from ⟨below_thn HY22.out.1 (sm.below _) (Nat.le_refl _), HY22.out.2.1.below (sm.below _), HY22.out.2.2.1.below (sm.below _), HY22.out.2.2.2.1.below (sm.below _) HY22.out.2.2.2.1.lt, HY22.out.2.2.2.2.1.below (sm.below _), HY22.out.2.2.2.2.2.1.below (sm.below _), HY22.out.2.2.2.2.2.2.1.below (sm.below _) HY22.out.2.2.2.2.2.2.1.lt, HY22.out.2.2.2.2.2.2.2.below (sm.below _) (Nat.le_refl _)⟩)
      clear sm
      generalize y21.drew = v23 at HV24 ⊢
      refine' wpAnyH_one 5 (by kernel_rfl) ?_ ?_; rotate_left; (simp only [List.getElem?_toArray, List.getElem?_cons_zero, List.getElem?_cons_succ]; rfl)
      try simp only [Act.put]
      go_wp2_with fail
      refine (lbytes8_any nn so qo 67 sc 3 qc X Y v23 HV24.out.2.2.2.2.1 HV24.out.2.2.2.2.2.1 DX.out DY.out (by rw [LX.out]; omega) (by rw [LY.out]; omega)).mono ?_
      rintro e' y25 ⟨vb, rfl, hsl, hb⟩
      have HY26 := Lib.hid (show Below w.heap.size w y25 ∧ SlD y25 (.slice co cl cc) C ∧ SlD y25 (.slice po pl pc) P ∧ Blk y25 wr.heap.size 90 (sgC nn (.slice co cl cc) (.slice po pl pc)) ∧ SlD y25 (.slice so 67 sc) X ∧ SlD y25 (.slice qo 3 qc) Y ∧ Blk y25 y9.heap.size 90 (sgC nn (.slice so 67 sc) (.slice qo 3 qc)) ∧ Sl y25 (.slice eo 2241 ec) (ofK .u8 (bytesM nn X Y)) ∧ Sl y25 vb (ofK .u8 (bytesM nn X Y)) from ⟨below_thn HV24.out.1 hb (Nat.le_refl _), HV24.out.2.1.below hb, HV24.out.2.2.1.below hb, HV24.out.2.2.2.1.below hb HV24.out.2.2.2.1.lt, HV24.out.2.2.2.2.1.below hb, HV24.out.2.2.2.2.2.1.below hb, HV24.out.2.2.2.2.2.2.1.below hb HV24.out.2.2.2.2.2.2.1.lt, HV24.out.2.2.2.2.2.2.2.below hb (Nat.le_refl _), hsl⟩)
      clear hsl hb
      go_wp2_with fail
      refine QK.normal ⟨⟨rangeW_blk HY26.out.2.2.2.1, rangeW_blk HY26.out.2.2.2.2.2.2.1⟩, ?_⟩
      refine' wpAnyH_one 6 (by kernel_rfl) ?_ ?_; rotate_left; (simp only [List.getElem?_toArray, List.getElem?_cons_zero, List.getElem?_cons_succ]; rfl)
      try simp only [Act.put]
      go_wp2_with fail
      refine (bytesEqual_of _ _ (bytesM nn X Y) (bytesM nn X Y) y25 true HY26.out.2.2.2.2.2.2.2.1 HY26.out.2.2.2.2.2.2.2.2 HAM.out HAM.out (decide_eq_true rfl)).mono ?_
      rintro e' w9 ⟨rfl, rfl⟩
      go_wp2_with fail
      refine QK.normal ⟨⟨rangeW_blk HY26.out.2.2.2.1, rangeW_blk HY26.out.2.2.2.2.2.2.1⟩, ?_⟩
      refine' wpAnyH_one 7 (by kernel_rfl) ?_ ?_; rotate_left; (simp only [List.getElem?_toArray, List.getElem?_cons_zero, List.getElem?_cons_succ]; rfl)
      try simp only [Act.put]
      go_wp2_with fail
      refine QK.normal ⟨⟨rangeW_blk HY26.out.2.2.2.1, rangeW_blk HY26.out.2.2.2.2.2.2.1⟩, ?_⟩
      refine' wpAnyH_one 8 (by kernel_rfl) ?_ ?_; rotate_left; (simp only [List.getElem?_toArray, List.getElem?_cons_zero, List.getElem?_cons_succ]; rfl)
      try simp only [Act.put]
      go_wp2_with fail
      refine QK.normal ⟨⟨rangeW_blk HY26.out.2.2.2.1, rangeW_blk HY26.out.2.2.2.2.2.2.1⟩, ?_⟩
      refine' wpAnyH_one 9 (by kernel_rfl) ?_ ?_; rotate_left; (simp only [List.getElem?_toArray, List.getElem?_cons_zero, List.getElem?_cons_succ]; rfl)
      try simp only [Act.put]
      go_wp2_with fail
      refine QK.normal ⟨⟨rangeW_blk HY26.out.2.2.2.1, rangeW_blk HY26.out.2.2.2.2.2.2.1⟩, ?_⟩
      refine wpAnyH_takes (fuel := 4) (by kernel_rfl) noPanic_any ⟨rangeW_blk HY26.out.2.2.2.1, rangeW_blk HY26.out.2.2.2.2.2.2.1⟩ [10, 11] _ _ (by kernel_rfl) ?_
      try simp only [Act.put]
      iterate 2 (refine' HeldL.run ?_ ?_ ?_ ?_; rotate_left 2; (simp only [List.getElem?_toArray, List.getElem?_cons_zero, List.getElem?_cons_succ]; rfl); rfl; (rintro w' ⟨k0, k1⟩; first | exact exec_load_mid rfl rfl k0 Try.underlying90 rfl (sgC_info _ _ _) | exact exec_load_mid rfl rfl k1 Try.underlying90 rfl (sgC_info _ _ _) | (go_simp; with_reducible rfl)); simp only [Act.put, List.setIfInBounds_toArray, List.set_cons_zero, List.set_cons_succ])
      refine' wpAnyH_one 12 (by kernel_rfl) ?_ ?_; rotate_left; (simp only [List.getElem?_toArray, List.getElem?_cons_zero, List.getElem?_cons_succ]; rfl)
      try simp only [Act.put]
      go_wp2_with fail
      have hx := signed8_any nn co po cl cc pl pc C P y25 HY26.out.2.1 HY26.out.2.2.1 HD.out.1.1 HD.out.2.1 HD.out.1.2 HD.out.2.2
      rw [HXY.out.1, HXY.out.2] at hx
      unfold SignedP at hx
      rw [LX.out, LY.out] at hx
      refine Calls.mono hx ?_
      clear hx
      rintro e' y27 ⟨so2, sc2, qo2, qc2, rfl, hs1, hs2, hb⟩
      have HY28 := Lib.hid (show Below w.heap.size w y27 ∧ SlD y27 (.slice co cl cc) C ∧ SlD y27 (.slice po pl pc) P ∧ Blk y27 wr.heap.size 90 (sgC nn (.slice co cl cc) (.slice po pl pc)) ∧ SlD y27 (.slice so 67 sc) X ∧ SlD y27 (.slice qo 3 qc) Y ∧ Blk y27 y9.heap.size 90 (sgC nn (.slice so 67 sc) (.slice qo 3 qc)) ∧ Sl y27 (.slice eo 2241 ec) (ofK .u8 (bytesM nn X Y)) ∧ Sl y27 vb (ofK .u8 (bytesM nn X Y)) ∧ SlD y27 (.slice so2 67 sc2) X ∧ SlD y27 (.slice qo2 3 qc2) Y from ⟨below_thn HY26.out.1 hb (Nat.le_refl _), HY26.out.2.1.below hb, HY26.out.2.2.1.below hb, HY26.out.2.2.2.1.below hb HY26.out.2.2.2.1.lt, HY26.out.2.2.2.2.1.below hb, HY26.out.2.2.2.2.2.1.below hb, HY26.out.2.2.2.2.2.2.1.below hb HY26.out.2.2.2.2.2.2.1.lt, HY26.out.2.2.2.2.2.2.2.1.below hb (Nat.le_refl _), HY26.out.2.2.2.2.2.2.2.2.below hb (Nat.le_refl _), hs1, hs2⟩)
      clear hs1 hs2 hb
      go_wp2_with fail
      refine QK.normal ⟨⟨rangeW_blk HY28.out.2.2.2.1, rangeW_blk HY28.out.2.2.2.2.2.2.1⟩, ?_⟩
      refine' wpAnyH_one 13 (by kernel_rfl) ?_ ?_; rotate_left; (simp only [List.getElem?_toArray, List.getElem?_cons_zero, List.getElem?_cons_succ]; rfl)
      try simp only [Act.put]
      go_wp2_with fail
      have hx := same8_any nn nn so qo so2 qo2 67 sc 3 qc 67 sc2 3 qc2 X Y X Y y27 HY28.out.2.2.2.2.1 HY28.out.2.2.2.2.2.1 HY28.out.2.2.2.2.2.2.2.2.2.1 HY28.out.2.2.2.2.2.2.2.2.2.2 DX.out DY.out DX.out DY.out
      rw [decide_eq_true (Eq.refl nn), decide_eq_true (Eq.refl X), decide_eq_true (Eq.refl Y), show (true && true && true) = true from rfl] at hx
      refine Calls.mono hx ?_
      clear hx
      rintro e' y29 ⟨rfl, hb⟩
      have HY30 := Lib.hid (show Below w.heap.size w y29 ∧ SlD y29 (.slice co cl cc) C ∧ SlD y29 (.slice po pl pc) P ∧ Blk y29 wr.heap.size 90 (sgC nn (.slice co cl cc) (.slice po pl pc)) ∧ SlD y29 (.slice so 67 sc) X ∧ SlD y29 (.slice qo 3 qc) Y ∧ Blk y29 y9.heap.size 90 (sgC nn (.slice so 67 sc) (.slice qo 3 qc)) ∧ Sl y29 (.slice eo 2241 ec) (ofK .u8 (bytesM nn X Y)) ∧ Sl y29 vb (ofK .u8 (bytesM nn X Y)) ∧ SlD y29 (.slice so2 67 sc2) X ∧ SlD y29 (.slice qo2 3 qc2) Y from ⟨below_thn HY28.out.1 hb (Nat.le_refl _), HY28.out.2.1.below hb, HY28.out.2.2.1.below hb, HY28.out.2.2.2.1.below hb HY28.out.2.2.2.1.lt, HY28.out.2.2.2.2.1.below hb, HY28.out.2.2.2.2.2.1.below hb, HY28.out.2.2.2.2.2.2.1.below hb HY28.out.2.2.2.2.2.2.1.lt, HY28.out.2.2.2.2.2.2.2.1.below hb (Nat.le_refl _), HY28.out.2.2.2.2.2.2.2.2.1.below hb (Nat.le_refl _), HY28.out.2.2.2.2.2.2.2.2.2.1.below hb, HY28.out.2.2.2.2.2.2.2.2.2.2.below hb⟩)
      clear hb
      go_wp2_with fail
      refine QK.normal ⟨⟨rangeW_blk HY30.out.2.2.2.1, rangeW_blk HY30.out.2.2.2.2.2.2.1⟩, ?_⟩
      refine' wpAnyH_one 14 (by kernel_rfl) ?_ ?_; rotate_left; (simp only [List.getElem?_toArray, List.getElem?_cons_zero, List.getElem?_cons_succ]; rfl)
      try simp only [Act.put]
      go_wp2_with fail
      refine QK.normal ⟨⟨rangeW_blk HY30.out.2.2.2.1, rangeW_blk HY30.out.2.2.2.2.2.2.1⟩, ?_⟩
      refine' wpAnyH_one 15 (by kernel_rfl) ?_ ?_; rotate_left; (simp only [List.getElem?_toArray, List.getElem?_cons_zero, List.getElem?_cons_succ]; rfl)
      try simp only [Act.put]
      go_wp2_with fail
      refine QK.normal ⟨⟨rangeW_blk HY30.out.2.2.2.1, rangeW_blk HY30.out.2.2.2.2.2.2.1⟩, ?_⟩
      refine wpAnyH_done (by kernel_rfl) ?_ _
      refine NoPanic.normal ?_
      go_wp2_with fail
      go_roundw
      case rel => exact ⟨k + 1, by omega, by omega, by go_num, Lib.hid HY30.out.1⟩
      case measure => simp [intOf]; omega
  case rest =>
  have HW := hcut
  clear H1 hcut
  go_wp2_with fail
  go_loopw [62] (fun c wr => ∃ k : Nat, k ≤ m ∧ k ≤ 8 ∧ c = .int .i64 k ∧ Hid (Below w.heap.size w wr)) (fun c _ => m - (intOf c).toNat)
  case atStart => exact ⟨0, Nat.zero_le _, by omega, rfl, HW⟩
  case round =>
    obtain ⟨k, hk, hk6, rfl, HR⟩ := hrel
    by_cases hlt : k < m
    rotate_left
    · obtain rfl : k = m := by omega
      go_wp2_with fail
      go_ret
      exact ⟨rfl, HR.out⟩
    have hk32 : (k : Int) < m := by omega
    have hk0 : (0 : Int) ≤ (k : Int) := by omega
    have hka : k < rs.length := by rw [HM.out]; exact hlt
    obtain ⟨bg, bgo, rfl, hca⟩ := HV2.out.1 (by omega)
    have hcc := hca k hka 0 _ (show (bsC rs[k])[0]? = some (.slice rs[k].ao rs[k].n rs[k].c) from rfl)
    rw [Nat.mul_one, Nat.add_zero] at hcc
    have hq := HV2.out.2 _ (List.getElem_mem hka)
    generalize rs[k] = q at hcc hq
    obtain ⟨ro, N, rc, R⟩ := q
    obtain ⟨hsl, hAB⟩ := hq
    simp only at hcc hsl hAB
    have hcw := (HR.out.cell (p := ⟨bg, bgo + k, none⟩) (block_of_cell hcc)).trans hcc
    have hsl := hsl.below HR.out (Nat.le_refl _)
    obtain ⟨_, _, e1, hn1, hn2, _⟩ := hsl.shape
    rw [length_ofK] at e1 hn1
    unfold maxLen at hn2
    simp only [Value.slice.injEq] at e1
    obtain ⟨-, e2, e3⟩ := e1
    rw [← e2] at hn1
    rw [← e3] at hn1 hn2
    have HN2 := Lib.hid e2.symm
    have HAB := Lib.hid hAB
    have H0 := Lib.hid (And.intro HR.out hsl)
    clear hca hka hAB hsl e2 e3 hcc
    by_cases h8 : k = 8
    · subst h8
      go_wp2_with fail
      go_ret
      exact ⟨rfl, H0.out.1⟩
    have hk6' : ((k : Int) == 8) = false := by simp; omega
    have hk5 : k < 8 := by omega
    have hmb : min (N : Int) 2300 = ((min N 2300 : Nat) : Int) := by omega
    obtain ⟨mb, hmb2⟩ : ∃ m, min N 2300 = m := ⟨_, rfl⟩
    rw [hmb2] at hmb
    obtain ⟨T, hT⟩ : ∃ T, R.take mb = T := ⟨_, rfl⟩
    have HMB := Lib.hid (show mb ≤ N ∧ T.length = mb ∧ mb ≤ 2300 from ⟨by omega, by rw [← hT, List.length_take, HN2.out]; omega, by omega⟩)
    have HAT := Lib.hid (show AllB T from fun c hc => HAB.out c (List.mem_of_mem_take (by rw [hT]; exact hc)))
    have HT := Lib.hid hT
    have hm1 : (mb : Int) ≤ (N : Int) := by omega
    have hm2 : (mb : Int) ≤ (rc : Int) := by omega
    have hm3 : (0 : Int) ≤ (mb : Int) := by omega
    clear hmb2 h8 hT
    go_wp2_with (first
    | ((with_reducible refine wpList_slice_b0 wr rfl rfl ?_); intro x1 hrow hb hsz; have X1 := Lib.hid (And.intro hrow hb); clear hrow hb hsz)
    | ((with_reducible refine wpList_append_bs wr x1 rfl (.tmp 69) (.tmp 74) rfl (.slice (some ⟨wr.heap.size, 0, none⟩) 0 0) 0 [] rfl X1.out.1 X1.out.2 (.slice ro mb rc) T rfl (by have h := (H0.out.2.below X1.out.2 (Nat.le_refl _)).cutB mb HMB.out.1; rw [HT.out] at h; exact h) mb ?_ ?_ ?_); (focus (rw [Nat.zero_add]; exact HMB.out.2.1)); (focus (have := HMB.out.2.2; omega)); intro bo2 bc2 x2 hrow hb; have X2 := Lib.hid (And.intro hrow hb); clear hrow hb))
    have HX2 := Lib.hid (show Below w.heap.size w x2 ∧ Sl x2 (.slice bo2 mb bc2) (ofK .u8 T) from ⟨below_thn H0.out.1 X2.out.2 (Nat.le_refl _), Sl.of_owns (by have h := X2.out.1; rw [List.nil_append] at h; exact h)⟩)
    clear X1 X2 hmb hm1 hm2 hm3 hcw
    by_cases hs : mb < 2241
    · have hz : (mb : Int) < 2241 := by omega
      have hx := decode8_short (.slice bo2 mb bc2) T x2 HX2.out.2 (by rw [HMB.out.2.1]; exact hs)
      refine Calls.mono hx ?_
      clear hx
      rintro e' y31 ⟨rfl, hb⟩
      have HY32 := Lib.hid (show Below w.heap.size w y31 ∧ Sl y31 (.slice bo2 mb bc2) (ofK .u8 T) from ⟨below_thn HX2.out.1 hb (Nat.le_refl _), HX2.out.2.below hb (Nat.le_refl _)⟩)
      clear hb
      go_wp2_with (first
    | ((with_reducible refine wpList_alloc_blk y31 rfl 90 rfl (sgC 0 (.slice none 0 0) (.slice none 0 0)) Try.zeroSg ?_); intro b33 hb hbel hsz; have HB35 := Lib.hid (And.intro hb hbel); clear hb hbel hsz)
    | ((with_reducible refine wpList_store_blk b33 rfl 90 (.tmp 13) (.tmp 79) rfl y31.heap.size 90 (sgC 0 (.slice none 0 0) (.slice none 0 0)) (sgC 0 (.slice none 0 0) (.slice none 0 0)) HB35.out.1 rfl rfl rfl (sgC_info _ _ _) (sgC_one _ _ _ _ _ _ _) ?_); intro b34 hb hc hs; have hb3 := below_ch HB35.out.2 hc (Nat.le_refl _) (fun k hk => Nat.le_of_eq (Eq.symm hk)); have HY36 := Lib.hid (show Below w.heap.size w b34 ∧ Sl b34 (.slice bo2 mb bc2) (ofK .u8 T) ∧ Blk b34 y31.heap.size 90 (sgC 0 (.slice none 0 0) (.slice none 0 0)) from ⟨below_thn HY32.out.1 hb3 (Nat.le_refl _), HY32.out.2.below hb3 (Nat.le_refl _), hb⟩); clear hb hc hs hb3 HB35)
    | (with_reducible refine wpList_load_any rfl 90 (.tmp 13) rfl y31.heap.size 0 rfl (sgC 0 (.slice none 0 0) (.slice none 0 0)) _ (rangeW_blk HY36.out.2.2) Try.underlying90 rfl (sgC_info _ _ _) ?_)
    | ((with_reducible refine wpList_load_want ?_ 90 (.tmp 13) rfl y31.heap.size 0 rfl (sgC 0 (.slice none 0 0) (.slice none 0 0)) _ (rangeW_blk HY36.out.2.2) Try.underlying90 rfl (sgC_info _ _ _) ?_); focus rfl)
    | ((with_reducible refine wpList_build_zeroSg rfl rfl ?_)))
      have hx := same8_any 0 0 none none none none 0 0 0 0 0 0 0 0 [] [] [] [] b34 (SlD.nil _) (SlD.nil _) (SlD.nil _) (SlD.nil _) (fun _ h => nomatch h) (fun _ h => nomatch h) (fun _ h => nomatch h) (fun _ h => nomatch h)
      rw [show (decide ((0 : Int) = 0) && decide (([] : List (List Int)) = []) && decide (([] : List (List Int)) = [])) = true from rfl] at hx
      refine Calls.mono hx ?_
      clear hx
      rintro e' y37 ⟨rfl, hb⟩
      have HY38 := Lib.hid (show Below w.heap.size w y37 ∧ Sl y37 (.slice bo2 mb bc2) (ofK .u8 T) ∧ Blk y37 y31.heap.size 90 (sgC 0 (.slice none 0 0) (.slice none 0 0)) from ⟨below_thn HY36.out.1 hb (Nat.le_refl _), HY36.out.2.1.below hb (Nat.le_refl _), HY36.out.2.2.below hb HY36.out.2.2.lt⟩)
      clear hb
      go_wp2_with fail
      go_roundw
      case rel => exact ⟨k + 1, by omega, by omega, by go_num, Lib.hid HY38.out.1⟩
      case measure => simp [intOf]; omega
    have hz : ¬ (mb : Int) < 2241 := by omega
    by_cases hg : 2241 < mb
    · have hz2 : (2241 : Int) < (mb : Int) := by omega
      have hx := decode8_long (.slice bo2 mb bc2) T x2 HX2.out.2 (by rw [HMB.out.2.1]; exact hg)
      refine Calls.mono hx ?_
      clear hx
      rintro e' y39 ⟨rfl, hb⟩
      have HY40 := Lib.hid (show Below w.heap.size w y39 ∧ Sl y39 (.slice bo2 mb bc2) (ofK .u8 T) from ⟨below_thn HX2.out.1 hb (Nat.le_refl _), HX2.out.2.below hb (Nat.le_refl _)⟩)
      clear hb
      go_wp2_with (first
    | ((with_reducible refine wpList_alloc_blk y39 rfl 90 rfl (sgC 0 (.slice none 0 0) (.slice none 0 0)) Try.zeroSg ?_); intro b41 hb hbel hsz; have HB43 := Lib.hid (And.intro hb hbel); clear hb hbel hsz)
    | ((with_reducible refine wpList_store_blk b41 rfl 90 (.tmp 13) (.tmp 79) rfl y39.heap.size 90 (sgC 0 (.slice none 0 0) (.slice none 0 0)) (sgC 0 (.slice none 0 0) (.slice none 0 0)) HB43.out.1 rfl rfl rfl (sgC_info _ _ _) (sgC_one _ _ _ _ _ _ _) ?_); intro b42 hb hc hs; have hb3 := below_ch HB43.out.2 hc (Nat.le_refl _) (fun k hk => Nat.le_of_eq (Eq.symm hk)); have HY44 := Lib.hid (show Below w.heap.size w b42 ∧ Sl b42 (.slice bo2 mb bc2) (ofK .u8 T) ∧ Blk b42 y39.heap.size 90 (sgC 0 (.slice none 0 0) (.slice none 0 0)) from ⟨below_thn HY40.out.1 hb3 (Nat.le_refl _), HY40.out.2.below hb3 (Nat.le_refl _), hb⟩); clear hb hc hs hb3 HB43)
    | (with_reducible refine wpList_load_any rfl 90 (.tmp 13) rfl y39.heap.size 0 rfl (sgC 0 (.slice none 0 0) (.slice none 0 0)) _ (rangeW_blk HY44.out.2.2) Try.underlying90 rfl (sgC_info _ _ _) ?_)
    | ((with_reducible refine wpList_load_want ?_ 90 (.tmp 13) rfl y39.heap.size 0 rfl (sgC 0 (.slice none 0 0) (.slice none 0 0)) _ (rangeW_blk HY44.out.2.2) Try.underlying90 rfl (sgC_info _ _ _) ?_); focus rfl)
    | ((with_reducible refine wpList_build_zeroSg rfl rfl ?_)))
      have hx := same8_any 0 0 none none none none 0 0 0 0 0 0 0 0 [] [] [] [] b42 (SlD.nil _) (SlD.nil _) (SlD.nil _) (SlD.nil _) (fun _ h => nomatch h) (fun _ h => nomatch h) (fun _ h => nomatch h) (fun _ h => nomatch h)
      rw [show (decide ((0 : Int) = 0) && decide (([] : List (List Int)) = []) && decide (([] : List (List Int)) = [])) = true from rfl] at hx
      refine Calls.mono hx ?_
      clear hx
      rintro e' y45 ⟨rfl, hb⟩
      have HY46 := Lib.hid (show Below w.heap.size w y45 ∧ Sl y45 (.slice bo2 mb bc2) (ofK .u8 T) ∧ Blk y45 y39.heap.size 90 (sgC 0 (.slice none 0 0) (.slice none 0 0)) from ⟨below_thn HY44.out.1 hb (Nat.le_refl _), HY44.out.2.1.below hb (Nat.le_refl _), HY44.out.2.2.below hb HY44.out.2.2.lt⟩)
      clear hb
      go_wp2_with fail
      go_roundw
      case rel => exact ⟨k + 1, by omega, by omega, by go_num, Lib.hid HY46.out.1⟩
      case measure => simp [intOf]; omega
    obtain rfl : mb = 2241 := by omega
    obtain ⟨c0, hc0⟩ : ∃ c, T[0]? = some c := ⟨_, List.getElem?_eq_getElem (by rw [HMB.out.2.1]; omega)⟩
    have hb0 := HAT.out c0 (List.mem_of_getElem? hc0)
    clear hs hg hz
    obtain ⟨bq, bqo, hbo, hcb⟩ : ∃ b o, bo2 = some ⟨b, o, none⟩ ∧ x2.cell? ⟨b, o, none⟩ = some (.int .u8 c0) := by
      obtain ⟨_, _, e, _, _, h4⟩ := HX2.out.2.shape
      obtain ⟨b, o, e4, _, h5⟩ := h4 (by rw [length_ofK, HMB.out.2.1]; omega)
      simp only [Value.slice.injEq] at e
      exact ⟨b, o, by rw [e.1, e4], by have h6 := h5 0 (.int .u8 c0) (by unfold ofK; rw [List.getElem?_map, hc0]; rfl); exact h6⟩
    subst hbo
    have HC0 := Lib.hid hcb
    clear hcb
    have HY47 := Lib.hid (show Below w.heap.size w x2 ∧ Sl x2 (.slice (some ⟨bq, bqo, none⟩) 2241 bc2) (ofK .u8 T) ∧ x2.cell? ⟨bq, bqo, none⟩ = some (.int .u8 c0) from ⟨HX2.out.1, HX2.out.2, HC0.out⟩)
    clear HC0
    by_cases h8 : 0 ≤ c0 ∧ c0 < 8
    rotate_left
    · have hz3 : decide (8 ≤ c0) = true := by simp; omega
      have hx := decode8_leaf (.slice (some ⟨bq, bqo, none⟩) 2241 bc2) T x2 HY47.out.2.1 HAT.out HMB.out.2.1 c0 hc0 h8
      refine Calls.mono hx ?_
      clear hx
      rintro e' y48 ⟨rfl, hb⟩
      have HY49 := Lib.hid (show Below w.heap.size w y48 ∧ Sl y48 (.slice (some ⟨bq, bqo, none⟩) 2241 bc2) (ofK .u8 T) ∧ y48.cell? ⟨bq, bqo, none⟩ = some (.int .u8 c0) from ⟨below_thn HY47.out.1 hb (Nat.le_refl _), HY47.out.2.1.below hb (Nat.le_refl _), (hb.cell (p := ⟨bq, bqo, none⟩) (block_of_cell HY47.out.2.2)).trans HY47.out.2.2⟩)
      clear hb
      go_wp2_with (first
    | ((with_reducible refine wpList_alloc_blk y48 rfl 90 rfl (sgC 0 (.slice none 0 0) (.slice none 0 0)) Try.zeroSg ?_); intro b50 hb hbel hsz; have HB52 := Lib.hid (And.intro hb hbel); clear hb hbel hsz)
    | ((with_reducible refine wpList_store_blk b50 rfl 90 (.tmp 13) (.tmp 79) rfl y48.heap.size 90 (sgC 0 (.slice none 0 0) (.slice none 0 0)) (sgC 0 (.slice none 0 0) (.slice none 0 0)) HB52.out.1 rfl rfl rfl (sgC_info _ _ _) (sgC_one _ _ _ _ _ _ _) ?_); intro b51 hb hc hs; have hb3 := below_ch HB52.out.2 hc (Nat.le_refl _) (fun k hk => Nat.le_of_eq (Eq.symm hk)); have HY53 := Lib.hid (show Below w.heap.size w b51 ∧ Sl b51 (.slice (some ⟨bq, bqo, none⟩) 2241 bc2) (ofK .u8 T) ∧ b51.cell? ⟨bq, bqo, none⟩ = some (.int .u8 c0) ∧ Blk b51 y48.heap.size 90 (sgC 0 (.slice none 0 0) (.slice none 0 0)) from ⟨below_thn HY49.out.1 hb3 (Nat.le_refl _), HY49.out.2.1.below hb3 (Nat.le_refl _), (hb3.cell (p := ⟨bq, bqo, none⟩) (block_of_cell HY49.out.2.2)).trans HY49.out.2.2, hb⟩); have cq := HY53.out.2.2.1; clear hb hc hs hb3 HB52)
    | (with_reducible refine wpList_load_any rfl 90 (.tmp 13) rfl y48.heap.size 0 rfl (sgC 0 (.slice none 0 0) (.slice none 0 0)) _ (rangeW_blk HY53.out.2.2.2) Try.underlying90 rfl (sgC_info _ _ _) ?_)
    | ((with_reducible refine wpList_load_want ?_ 90 (.tmp 13) rfl y48.heap.size 0 rfl (sgC 0 (.slice none 0 0) (.slice none 0 0)) _ (rangeW_blk HY53.out.2.2.2) Try.underlying90 rfl (sgC_info _ _ _) ?_); focus rfl)
    | ((with_reducible refine wpList_build_zeroSg rfl rfl ?_)))
      clear cq
      have hx := same8_any 0 0 none none none none 0 0 0 0 0 0 0 0 [] [] [] [] b51 (SlD.nil _) (SlD.nil _) (SlD.nil _) (SlD.nil _) (fun _ h => nomatch h) (fun _ h => nomatch h) (fun _ h => nomatch h) (fun _ h => nomatch h)
      rw [show (decide ((0 : Int) = 0) && decide (([] : List (List Int)) = []) && decide (([] : List (List Int)) = [])) = true from rfl] at hx
      refine Calls.mono hx ?_
      clear hx
      rintro e' y54 ⟨rfl, hb⟩
      have HY55 := Lib.hid (show Below w.heap.size w y54 ∧ Sl y54 (.slice (some ⟨bq, bqo, none⟩) 2241 bc2) (ofK .u8 T) ∧ y54.cell? ⟨bq, bqo, none⟩ = some (.int .u8 c0) ∧ Blk y54 y48.heap.size 90 (sgC 0 (.slice none 0 0) (.slice none 0 0)) from ⟨below_thn HY53.out.1 hb (Nat.le_refl _), HY53.out.2.1.below hb (Nat.le_refl _), (hb.cell (p := ⟨bq, bqo, none⟩) (block_of_cell HY53.out.2.2.1)).trans HY53.out.2.2.1, HY53.out.2.2.2.below hb HY53.out.2.2.2.lt⟩)
      clear hb
      go_wp2_with fail
      go_roundw
      case rel => exact ⟨k + 1, by omega, by omega, by go_num, Lib.hid HY55.out.1⟩
      case measure => simp [intOf]; omega
    have hz3 : decide (8 ≤ c0) = false := by simp; omega
    have hx := decode8_ok (.slice (some ⟨bq, bqo, none⟩) 2241 bc2) T x2 HY47.out.2.1 HAT.out HMB.out.2.1 c0 hc0 h8.1 h8.2
    have HBK := Lib.hid (bytes_back HMB.out.2.1 hc0 h8.1 h8.2)
    have HCD := Lib.hid (show ∀ i, i < 70 → IsD (chunkF T i) from fun i hi => chunk_D HAT.out HMB.out.2.1 hi)
    have H8 := Lib.hid h8
    clear hc0 h8
    refine Calls.mono hx ?_
    clear hx
    rintro e' y56 ⟨so2, sc2, po2, pc2, rfl, hs1, hs2, hb⟩
    have HY57 := Lib.hid (show Below w.heap.size w y56 ∧ Sl y56 (.slice (some ⟨bq, bqo, none⟩) 2241 bc2) (ofK .u8 T) ∧ y56.cell? ⟨bq, bqo, none⟩ = some (.int .u8 c0) ∧ SlD y56 (.slice so2 67 sc2) (rowL (chunkF T) 67) ∧ SlD y56 (.slice po2 3 pc2) ((rowL (chunkF T) 70).drop 67) from ⟨below_thn HY47.out.1 hb (Nat.le_refl _), HY47.out.2.1.below hb (Nat.le_refl _), (hb.cell (p := ⟨bq, bqo, none⟩) (block_of_cell HY47.out.2.2)).trans HY47.out.2.2, hs1, hs2⟩)
    clear hs1 hs2 hb
    go_wp2_with (first
    | ((with_reducible refine wpList_alloc_blk y56 rfl 90 rfl (sgC 0 (.slice none 0 0) (.slice none 0 0)) Try.zeroSg ?_); intro b58 hb hbel hsz; have HB60 := Lib.hid (And.intro hb hbel); clear hb hbel hsz)
    | ((with_reducible refine wpList_store_blk b58 rfl 90 (.tmp 13) (.tmp 79) rfl y56.heap.size 90 (sgC 0 (.slice none 0 0) (.slice none 0 0)) (sgC c0 (.slice so2 67 sc2) (.slice po2 3 pc2)) HB60.out.1 rfl rfl rfl (sgC_info _ _ _) (sgC_one _ _ _ _ _ _ _) ?_); intro b59 hb hc hs; have hb3 := below_ch HB60.out.2 hc (Nat.le_refl _) (fun k hk => Nat.le_of_eq (Eq.symm hk)); have HY61 := Lib.hid (show Below w.heap.size w b59 ∧ Sl b59 (.slice (some ⟨bq, bqo, none⟩) 2241 bc2) (ofK .u8 T) ∧ b59.cell? ⟨bq, bqo, none⟩ = some (.int .u8 c0) ∧ SlD b59 (.slice so2 67 sc2) (rowL (chunkF T) 67) ∧ SlD b59 (.slice po2 3 pc2) ((rowL (chunkF T) 70).drop 67) ∧ Blk b59 y56.heap.size 90 (sgC c0 (.slice so2 67 sc2) (.slice po2 3 pc2)) from ⟨below_thn HY57.out.1 hb3 (Nat.le_refl _), HY57.out.2.1.below hb3 (Nat.le_refl _), (hb3.cell (p := ⟨bq, bqo, none⟩) (block_of_cell HY57.out.2.2.1)).trans HY57.out.2.2.1, HY57.out.2.2.2.1.below hb3, HY57.out.2.2.2.2.below hb3, hb⟩); have cq := HY61.out.2.2.1; clear hb hc hs hb3 HB60)
    | (with_reducible refine wpList_load_any rfl 90 (.tmp 13) rfl y56.heap.size 0 rfl (sgC c0 (.slice so2 67 sc2) (.slice po2 3 pc2)) _ (rangeW_blk HY61.out.2.2.2.2.2) Try.underlying90 rfl (sgC_info _ _ _) ?_)
    | ((with_reducible refine wpList_load_want ?_ 90 (.tmp 13) rfl y56.heap.size 0 rfl (sgC c0 (.slice so2 67 sc2) (.slice po2 3 pc2)) _ (rangeW_blk HY61.out.2.2.2.2.2) Try.underlying90 rfl (sgC_info _ _ _) ?_); focus rfl))
    clear cq
    have HD1 := Lib.hid (show (∀ x ∈ rowL (chunkF T) 67, IsD x) ∧ (∀ x ∈ (rowL (chunkF T) 70).drop 67, IsD x) from ⟨rowL_D (fun i hi => HCD.out i (by omega)), fun x hx => rowL_D HCD.out x (List.mem_of_mem_drop hx)⟩)
    have hx := right8_any c0 so2 po2 67 sc2 3 pc2 b59
    rw [decide_eq_true (show (0 ≤ c0 ∧ c0 < 8) ∧ (67 : Nat) = 67 ∧ (3 : Nat) = 3 from ⟨H8.out, rfl, rfl⟩)] at hx
    refine Calls.mono hx ?_
    clear hx
    rintro e' y62 ⟨rfl, hb⟩
    have HY63 := Lib.hid (show Below w.heap.size w y62 ∧ Sl y62 (.slice (some ⟨bq, bqo, none⟩) 2241 bc2) (ofK .u8 T) ∧ y62.cell? ⟨bq, bqo, none⟩ = some (.int .u8 c0) ∧ SlD y62 (.slice so2 67 sc2) (rowL (chunkF T) 67) ∧ SlD y62 (.slice po2 3 pc2) ((rowL (chunkF T) 70).drop 67) ∧ Blk y62 y56.heap.size 90 (sgC c0 (.slice so2 67 sc2) (.slice po2 3 pc2)) from ⟨below_thn HY61.out.1 hb (Nat.le_refl _), HY61.out.2.1.below hb (Nat.le_refl _), (hb.cell (p := ⟨bq, bqo, none⟩) (block_of_cell HY61.out.2.2.1)).trans HY61.out.2.2.1, HY61.out.2.2.2.1.below hb, HY61.out.2.2.2.2.1.below hb, HY61.out.2.2.2.2.2.below hb HY61.out.2.2.2.2.2.lt⟩)
    clear hb
    go_wp2_with (first
    | (with_reducible refine wpList_load_any rfl 90 (.tmp 13) rfl y56.heap.size 0 rfl (sgC c0 (.slice so2 67 sc2) (.slice po2 3 pc2)) _ (rangeW_blk HY63.out.2.2.2.2.2) Try.underlying90 rfl (sgC_info _ _ _) ?_)
    | ((with_reducible refine wpList_load_want ?_ 90 (.tmp 13) rfl y56.heap.size 0 rfl (sgC c0 (.slice so2 67 sc2) (.slice po2 3 pc2)) _ (rangeW_blk HY63.out.2.2.2.2.2) Try.underlying90 rfl (sgC_info _ _ _) ?_); focus rfl))
    have hx := lbytes8_any c0 so2 po2 67 sc2 3 pc2 _ _ y62 HY63.out.2.2.2.1 HY63.out.2.2.2.2.1 HD1.out.1 HD1.out.2 (by rw [rowL_length]; omega) (by rw [List.length_drop, rowL_length]; omega)
    rw [HBK.out] at hx
    refine Calls.mono hx ?_
    clear hx
    rintro e' y64 ⟨vb, rfl, hsl, hb⟩
    have HY65 := Lib.hid (show Below w.heap.size w y64 ∧ Sl y64 (.slice (some ⟨bq, bqo, none⟩) 2241 bc2) (ofK .u8 T) ∧ y64.cell? ⟨bq, bqo, none⟩ = some (.int .u8 c0) ∧ SlD y64 (.slice so2 67 sc2) (rowL (chunkF T) 67) ∧ SlD y64 (.slice po2 3 pc2) ((rowL (chunkF T) 70).drop 67) ∧ Blk y64 y56.heap.size 90 (sgC c0 (.slice so2 67 sc2) (.slice po2 3 pc2)) ∧ Sl y64 vb (ofK .u8 T) from ⟨below_thn HY63.out.1 hb (Nat.le_refl _), HY63.out.2.1.below hb (Nat.le_refl _), (hb.cell (p := ⟨bq, bqo, none⟩) (block_of_cell HY63.out.2.2.1)).trans HY63.out.2.2.1, HY63.out.2.2.2.1.below hb, HY63.out.2.2.2.2.1.below hb, HY63.out.2.2.2.2.2.below hb HY63.out.2.2.2.2.2.lt, hsl⟩)
    clear hsl hb
    go_wp2_with fail
    refine (bytesEqual_of _ _ T T y64 true HY65.out.2.2.2.2.2.2 HY65.out.2.1 HAT.out HAT.out (decide_eq_true rfl)).mono ?_
    rintro e' w9 ⟨rfl, rfl⟩
    go_wp2_with fail
    go_roundw
    case rel => exact ⟨k + 1, by omega, by omega, by go_num, Lib.hid HY65.out.1⟩
    case measure => simp [intOf]; omega


end Go.Proofs.Ytkbhehnpgnilmaa
