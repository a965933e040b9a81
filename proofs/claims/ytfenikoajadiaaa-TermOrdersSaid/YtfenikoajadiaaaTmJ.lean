/-
  Layer 5: the reference's Bytes, walked. Conditions: a term that may be.
-/
import Derived.Test.YtfenikoajadiaaaTmI
import Derived.Test.YtfenikoajadiaaaConv
import Derived.Test.YtfenikoajadiaaaRefo
import Derived.Test.YtfenikoajadiaaaHigh
namespace Go.Proofs.Ytfenikoajadiaaa
open Go Go.RowKit
set_option linter.unusedSimpArgs false
set_option linter.unusedVariables false


/-- a row of one byte, made: owned -/
theorem wpList_slice_bo (w : World) {ops : Array Oper} {rest : List Oper} {o : Oper} {a : Act} {Q : Exit → Act → World → Prop} (hgd : o.guard = none) (x : Operand) (ho : o.op = .buildSlice 25 1 #[(0, x)]) {c : Int} (hx : a.eval x = .int .u8 c)
    (h : ∀ w', w'.ownsRow w.heap.size 5 1 (.slice (some ⟨w.heap.size, 0, none⟩) 1 1) 1 (ofK .u8 [c]) → Below w.heap.size w w' → wpList Try.prog ops Q rest (a.put o.dst (.slice (some ⟨w.heap.size, 0, none⟩) 1 1)) w') :
    wpList Try.prog ops Q (o :: rest) a w := by
  refine wpList_plain hgd fun K hK => ?_
  have hb : (Instr.buildSlice 25 1 #[(0, .int .u8 c)]).run Try.prog w = .ok (.slice (some ⟨w.heap.size, 0, none⟩) 1 1) (w.alloc (.cells [Value.int .u8 c].toArray 5)) := by
    simp [Instr.buildSlice, run_underlying Try.underlying25, Try.sizeU8, Try.zeroU8, Value.cells, Result.andThen, Instr.fill, run_newRow', Array.range_succ]
    rw [Array.eq_empty_of_size_eq_zero (xs := Array.map _ (Array.range 0)) (by simp)]
    rfl
  have hrun : (execOp a.eval o).run Try.prog w = .ok (.value (.slice (some ⟨w.heap.size, 0, none⟩) 1 1)) (w.alloc (.cells [Value.int .u8 c].toArray 5)) := by
    unfold execOp
    simp only [ho]
    rw [show (#[((0 : Nat), x)].map fun (i, x) => (i, a.eval x)) = #[(0, .int .u8 c)] by simp [hx]]
    simp [hb, Result.andThen]
  unfold Oper.wp
  rw [hrun]
  exact hK _ _ (h _ ((Blk.new w [Value.int .u8 c] 5).owns (Nat.le_refl _) (by simp [maxLen])) ((Below.refl _ _).alloc (Nat.le_refl _) _))
/-- bytes behind the row; what was written -/
theorem wpList_append_B2 {w0 w : World} {base g : Nat} {v0 : Value} {C : List Value} {ops : Array Oper} {rest : List Oper} {o : Oper} {a : Act} {Q : Exit → Act → World → Prop} (s x' : Operand) (hgd : o.guard = none)
    (ho : o.op = .call { callee := .builtin .append, args := #[s, x'], argTypes := #[25, 25] }) {v : Value} {xs : List Int} (hI : PutI w0 base v0 g C v xs w) (hs : a.eval s = v)
    {vx : Value} {ys : List Int} (hx : a.eval x' = vx) (hsl : Sl w vx (ofK .u8 ys)) (z : List Int) (hz : xs ++ ys = z) (hn : z.length ≤ 1000000)
    (h : ∀ ao c w', PutI w0 base v0 g C (.slice ao z.length c) z w' → Gw w w' v (.slice ao z.length c) → wpList Try.prog ops Q rest (a.put o.dst (.slice ao z.length c)) w') :
    wpList Try.prog ops Q (o :: rest) a w := by
  obtain ⟨i0, hi, hz0, hz1, hz2⟩ := info_parts Try.info5
  refine wpList_append_sl w hgd s x' _ ho base 5 i0 (.int .u8 0) 1 Try.underlying25 hi hz0 hz1 hz2 rfl v xs.length (ofK .u8 xs) hs hI.row vx (ofK .u8 ys) hx hsl (one_ofK _ _) z.length (by rw [length_ofK, ← hz, List.length_append]) (by unfold maxLen; omega) (by omega) hI.size ?_
  intro ao c w' hown hgr hob
  have hg : Gw w w' v (.slice ao z.length c) := ⟨ch_row hgr, fun k hk => by
    rcases hob with hob | hob
    · exact .inl (hob.symm.trans hk)
    · rw [hob] at hk; injection hk with hk; exact .inr (by omega)⟩
  refine h ao c w' (hI.go ?_ hg) hg
  · have e : ofK .u8 z = ofK .u8 xs ++ ofK .u8 ys := by rw [← hz]; simp [ofK]
    rw [e]; exact hown
/-- a row that was made anew -/
theorem PutI.anew {w0 W W' : World} {base g : Nat} {v0 v v' : Value} {C : List Value} {xs ys : List Int} (h : PutI w0 base v0 g C v xs W) (hr : W'.ownsRow W.heap.size 5 1 v' ys.length (ofK .u8 ys)) (hb : Below W.heap.size W W') : PutI w0 base v0 g C v' ys W' :=
  h.go (own_low hr h.size) ⟨Ch.of_below hb (Nat.le_refl _), fun k hk => .inr (hr.lt k hk).1⟩

set_option maxRecDepth 100000 in
set_option maxHeartbeats 16000000 in
theorem rbytes_any : ∀ (t : Tm) (cs : List Value) (F : Nat → Prop) (w : World), okT t = true → TmC F w cs t → (bytesT t).length ≤ 1000000 →
    Calls Try.prog 20 #[.agg cs.toArray] w (NewRow w (bytesT t) (bytesT t).length) := by
  refine Tm.ind fun k u n s ks ih cs F w hok ht hlen => ?_
  obtain ⟨ao, c, rfl, hmc, hcm, hsl⟩ := ht.shape
  simp only [Tm.k, Tm.u, Tm.n, Tm.s, Tm.ks] at hmc hsl ⊢
  rw [okT, Bool.and_eq_true] at hok
  have HP := plainB_iff.1 hok.1
  have HIH := Lib.hid (show ∀ t ∈ ks, okT t = true ∧ _ from fun t ht => ⟨okTL_iff.1 hok.2 t ht, ih t ht⟩)
  have hk8 : IntKind.u8.wrap k = k := wrap_u8 (by have := HP.pk; omega)
  have hs8 : IntKind.u8.wrap (s.size : Int) = (s.size : Int) := wrap_u8 (by have := HP.ps; omega)
  have HSM := Lib.hid (show s.size ≤ maxLen from by have := HP.ps; unfold maxLen; omega)
  have HPU := Lib.hid HP.pu
  have HPN := Lib.hid HP.pn
  rw [bytesT] at hlen ⊢
  obtain ⟨bT, hbT⟩ : ∃ b, hasB k 1 = b := ⟨_, rfl⟩
  obtain ⟨bU, hbU⟩ : ∃ b, hasB k 2 = b := ⟨_, rfl⟩
  obtain ⟨bN, hbN⟩ : ∃ b, hasB k 4 = b := ⟨_, rfl⟩
  have HT := Lib.hid (show (k == 1) = bT from by rw [← hbT]; unfold hasB; rfl)
  have HU := Lib.hid (ruser_any k)
  have HN := Lib.hid (rnum_any k)
  rw [hbT] at hlen ⊢
  rw [hbU] at HU HPU hlen ⊢
  rw [hbN] at HN HPN hlen ⊢
  clear hbT hbU hbN hok ih HP
  obtain ⟨y1, hy1⟩ : ∃ x, [k] ++ [(s.size : Int)] = x := ⟨_, rfl⟩
  obtain ⟨x2, hx2⟩ : ∃ x, ([k] ++ if bT = true then (s.size : Int) :: ints s else []) = x := ⟨_, rfl⟩
  obtain ⟨x3, hx3⟩ : ∃ x, (x2 ++ if bU = true then [u] else []) = x := ⟨_, rfl⟩
  obtain ⟨x4, hx4⟩ : ∃ x, (x3 ++ if bN = true then beF n 2 else []) = x := ⟨_, rfl⟩
  obtain ⟨Z, hz⟩ : ∃ x, headX k u n s bT bU bN ++ bytesTL ks = x := ⟨_, rfl⟩
  have HZ := Lib.hid (show x4 ++ bytesTL ks = Z from by rw [← hz, ← hx4, ← hx3, ← hx2]; unfold headX; simp only [List.append_assoc])
  have HY1 := Lib.hid hy1
  have HX2 := Lib.hid hx2
  have HX3 := Lib.hid hx3
  have HX4 := Lib.hid hx4
  rw [hz] at hlen ⊢
  have l4 : x4.length ≤ Z.length := by rw [← HZ.out, List.length_append]; omega
  have l3 : x3.length ≤ x4.length := by rw [← hx4, List.length_append]; omega
  have l2 : x2.length ≤ x3.length := by rw [← hx3, List.length_append]; omega
  have HL := Lib.hid (show Z.length ≤ 1000000 ∧ x4.length ≤ 1000000 ∧ x3.length ≤ 1000000 ∧ x2.length ≤ 1000000 from ⟨hlen, by omega, by omega, by omega⟩)
  clear hx2 hy1 hx3 hx4 hz l2 l3 l4 hlen
  obtain ⟨m, hm⟩ : ∃ m, ks.length = m := ⟨_, rfl⟩
  have HM := Lib.hid hm
  rw [hm] at hsl hmc ⊢
  have hm63 : m ≤ 9223372036854775807 := by unfold maxLen at hcm; omega
  have HSL := Lib.hid hsl
  clear ht hsl hm hmc hcm
  have et := HT.out
  cases bT
  · have e : [k] = x2 := by have h := HX2.out; simpa using h
    have HE1 := Lib.hid e
    clear e
    go_enter Try.func20, Try.ntmps20
    go_wp2_with (first
    | ((with_reducible refine wpList_box_blk w rfl 24 (.tmp 0) rfl (tmC k u n s (.slice ao m c)) rfl ?_); intro a1 hb hbel hsz; have I0 : PutI w w.heap.size (.slice none 0 0) w.heap.size (tmC k u n s (.slice ao m c)) (.slice none 0 0) [] a1 := ⟨World.ownsRow_nil _ _ _ _, hb, Nat.le_refl _, Nat.le_refl _, Gw.below hbel, fun q hq => by cases hq⟩; have c0 := I0.box.cell 0; simp only [tmC, List.getElem?_cons_zero, List.getElem?_cons_succ] at c0; clear hb hbel hsz)
    | ((with_reducible refine wpList_slice_bo a1 rfl (.tmp 7) rfl (c := k) rfl ?_); intro a2 hrow hbel; have I1 : PutI w w.heap.size (.slice none 0 0) w.heap.size (tmC k u n s (.slice ao m c)) (.slice (some ⟨a1.heap.size, 0, none⟩) 1 1) [k] a2 := I0.anew hrow hbel; have d0 := I1.box.cell 0; simp only [tmC, List.getElem?_cons_zero, List.getElem?_cons_succ] at d0; clear hrow hbel))
    clear c0 d0 et
    rw [HE1.out] at I1
    have c0 := I1.box.cell 0
    simp only [tmC, List.getElem?_cons_zero, List.getElem?_cons_succ] at c0
    go_wp2_with fail
    refine (HU.out a2).mono ?_
    rintro e' w' ⟨rfl, rfl⟩
    clear c0
    cases bU
    · have e : x2 = x3 := by have h := HX3.out; simpa using h
      rw [e] at I1
      try rw [e]
      clear e
      have c0 := I1.box.cell 0
      simp only [tmC, List.getElem?_cons_zero, List.getElem?_cons_succ] at c0
      try go_wp2_with fail
      refine (HN.out a2).mono ?_
      rintro e' w' ⟨rfl, rfl⟩
      clear c0
      cases bN
      · have e : x3 = x4 := by have h := HX4.out; simpa using h
        rw [e] at I1
        try rw [e]
        clear e
        go_wp2_with fail
        go_loopw [3, 4] (fun q i wr => ∃ (j : Nat) (oz : Option Addr) (nz pz : Nat) (z : List Int), q = .slice oz nz pz ∧ i = .int .i64 j ∧ j ≤ m ∧ Hid (z ++ bytesTL (ks.drop j) = Z) ∧ PutI w w.heap.size (.slice none 0 0) w.heap.size (tmC k u n s (.slice ao m c)) (.slice oz nz pz) z wr) (fun _ i _ => m - (intOf i).toNat)
        case atStart => exact ⟨0, _, _, _, x4, rfl, rfl, Nat.zero_le _, Lib.hid (by rw [List.drop_zero]; exact HZ.out), I1⟩
        case round =>
          clear I1
          obtain ⟨j, oz, nz, pz, z, rfl, rfl, hj, HQ, IR⟩ := hrel
          obtain ⟨_, _, en⟩ := own_shape IR.row
          simp only [Value.slice.injEq] at en
          obtain ⟨-, rfl, -⟩ := en
          have c4 := IR.box.cell 4
          simp only [tmC, List.getElem?_cons_zero, List.getElem?_cons_succ] at c4
          by_cases hlt : j < m
          · have hjk : j < ks.length := by rw [HM.out]; exact hlt
            have hjz : (j : Int) < (m : Int) := by omega
            have hj0 : (0 : Int) ≤ (j : Int) := by omega
            have HSW := Lib.hid (IR.subL HSL.out (fun j hj e => by cases e))
            obtain ⟨b, o, csj, rfl, -, -, hra, htm⟩ := HSW.out.get hjk
            have HMEM := Lib.hid (List.getElem_mem hjk)
            have HDR := Lib.hid (List.drop_eq_getElem_cons hjk)
            generalize ks[j] = kj at htm HMEM HDR
            obtain ⟨aj, cj, rfl, -, -, -⟩ := htm.shape
            have HRA := Lib.hid hra
            have HTM := Lib.hid htm
            obtain ⟨z2, hz2⟩ : ∃ x, z ++ bytesT kj = x := ⟨_, rfl⟩
            have HZ2 := Lib.hid hz2
            have HQ2 := Lib.hid (show z2 ++ bytesTL (ks.drop (j + 1)) = Z from by have h := HQ.out; rw [HDR.out, bytesTL, ← List.append_assoc, hz2] at h; exact h)
            have HL2 := Lib.hid (show z2.length ≤ 1000000 from by have h1 := HL.out.1; rw [← HQ2.out, List.length_append] at h1; omega)
            clear hra htm hjk hz2
            go_wp2_with (first
    | (with_reducible refine wpList_load_any rfl 24 (.tmp 52) rfl b (o + j * 5) rfl (tmC kj.k kj.u kj.n kj.s (.slice aj kj.ks.length cj)) _ HRA.out Try.underlying24 rfl (tmC_info _ _ _ _ _) ?_))
            refine ((HIH.out kj HMEM.out).2 _ F wr (HIH.out kj HMEM.out).1 HTM.out (by have h := HL2.out; rw [← HZ2.out, List.length_append] at h; omega)).mono ?_
            rintro e' f1 ⟨oh, ph, rfl, hrow, hb⟩
            have IR1 := IR.below hb
            have HH := Lib.hid (Sl.of_owns hrow)
            generalize (bytesT kj).length = lk at HH ⊢
            clear hrow hb c4
            go_wp2_with fail
            refine (both_any _ _ z (bytesT kj) z2.length f1 (Sl.of_owns IR1.row) HH.out (by rw [← HZ2.out, List.length_append]) (by have := HL2.out; omega)).mono ?_
            rintro e' e1 ⟨o3, p4, rfl, hrow, hb⟩
            have I2 := IR1.anew (v' := .slice o3 z2.length p4) (ys := z2) (by have h := hrow; rw [HZ2.out] at h; exact h) hb
            clear hrow hb
            go_wp2_with fail
            go_roundw
            case rel => exact ⟨j + 1, _, _, _, z2, rfl, by go_num, by omega, HQ2, I2⟩
            case measure => simp [intOf]; omega
          · have hge : ¬ (j : Int) < (m : Int) := by omega
            have HE := Lib.hid (show z = Z from by rw [← HQ.out, List.drop_of_length_le (by rw [HM.out]; omega), bytesTL, List.append_nil])
            go_wp2_with fail
            go_ret
            exact ⟨oz, pz, by rw [HE.out]; rfl, by rw [← HE.out]; exact IR.row, IR.gw.nil⟩
      · have hb16 : 0 ≤ n ∧ n ≤ 65535 := by have h := HPN.out; simpa using h
        have hn64 : IntKind.u64.wrap n = n := by rw [IntKind.wrap_u64]; omega
        have HB16 := Lib.hid hb16
        clear hb16
        have c2 := I1.box.cell 2
        simp only [tmC, List.getElem?_cons_zero, List.getElem?_cons_succ] at c2
        go_wp2_with fail
        refine (high_any n 2 a2 (by have := HB16.out; omega) (by omega)).mono ?_
        rintro e' d5 ⟨oh, ph, rfl, hrow, hb⟩
        have I6 := I1.below hb
        have HH := Lib.hid (Sl.of_owns hrow)
        clear hrow hb c2 hn64
        go_wp2_with fail
        refine (both_any _ _ x3 (beF n 2) x4.length d5 (Sl.of_owns I6.row) HH.out (by rw [← (show x3 ++ beF n 2 = x4 from HX4.out), List.length_append]) (by have := HL.out.2.1; omega)).mono ?_
        rintro e' e7 ⟨o9, p10, rfl, hrow, hb⟩
        have I8 := I6.anew (v' := .slice o9 x4.length p10) (ys := x4) (by have h := hrow; rw [(show x3 ++ beF n 2 = x4 from HX4.out)] at h; exact h) hb
        clear hrow hb
        go_wp2_with fail
        go_loopw [3, 4] (fun q i wr => ∃ (j : Nat) (oz : Option Addr) (nz pz : Nat) (z : List Int), q = .slice oz nz pz ∧ i = .int .i64 j ∧ j ≤ m ∧ Hid (z ++ bytesTL (ks.drop j) = Z) ∧ PutI w w.heap.size (.slice none 0 0) w.heap.size (tmC k u n s (.slice ao m c)) (.slice oz nz pz) z wr) (fun _ i _ => m - (intOf i).toNat)
        case atStart => exact ⟨0, _, _, _, x4, rfl, rfl, Nat.zero_le _, Lib.hid (by rw [List.drop_zero]; exact HZ.out), I8⟩
        case round =>
          clear I8
          obtain ⟨j, oz, nz, pz, z, rfl, rfl, hj, HQ, IR⟩ := hrel
          obtain ⟨_, _, en⟩ := own_shape IR.row
          simp only [Value.slice.injEq] at en
          obtain ⟨-, rfl, -⟩ := en
          have c4 := IR.box.cell 4
          simp only [tmC, List.getElem?_cons_zero, List.getElem?_cons_succ] at c4
          by_cases hlt : j < m
          · have hjk : j < ks.length := by rw [HM.out]; exact hlt
            have hjz : (j : Int) < (m : Int) := by omega
            have hj0 : (0 : Int) ≤ (j : Int) := by omega
            have HSW := Lib.hid (IR.subL HSL.out (fun j hj e => by cases e))
            obtain ⟨b, o, csj, rfl, -, -, hra, htm⟩ := HSW.out.get hjk
            have HMEM := Lib.hid (List.getElem_mem hjk)
            have HDR := Lib.hid (List.drop_eq_getElem_cons hjk)
            generalize ks[j] = kj at htm HMEM HDR
            obtain ⟨aj, cj, rfl, -, -, -⟩ := htm.shape
            have HRA := Lib.hid hra
            have HTM := Lib.hid htm
            obtain ⟨z2, hz2⟩ : ∃ x, z ++ bytesT kj = x := ⟨_, rfl⟩
            have HZ2 := Lib.hid hz2
            have HQ2 := Lib.hid (show z2 ++ bytesTL (ks.drop (j + 1)) = Z from by have h := HQ.out; rw [HDR.out, bytesTL, ← List.append_assoc, hz2] at h; exact h)
            have HL2 := Lib.hid (show z2.length ≤ 1000000 from by have h1 := HL.out.1; rw [← HQ2.out, List.length_append] at h1; omega)
            clear hra htm hjk hz2
            go_wp2_with (first
    | (with_reducible refine wpList_load_any rfl 24 (.tmp 52) rfl b (o + j * 5) rfl (tmC kj.k kj.u kj.n kj.s (.slice aj kj.ks.length cj)) _ HRA.out Try.underlying24 rfl (tmC_info _ _ _ _ _) ?_))
            refine ((HIH.out kj HMEM.out).2 _ F wr (HIH.out kj HMEM.out).1 HTM.out (by have h := HL2.out; rw [← HZ2.out, List.length_append] at h; omega)).mono ?_
            rintro e' f1 ⟨oh, ph, rfl, hrow, hb⟩
            have IR1 := IR.below hb
            have HH := Lib.hid (Sl.of_owns hrow)
            generalize (bytesT kj).length = lk at HH ⊢
            clear hrow hb c4
            go_wp2_with fail
            refine (both_any _ _ z (bytesT kj) z2.length f1 (Sl.of_owns IR1.row) HH.out (by rw [← HZ2.out, List.length_append]) (by have := HL2.out; omega)).mono ?_
            rintro e' e11 ⟨o13, p14, rfl, hrow, hb⟩
            have I12 := IR1.anew (v' := .slice o13 z2.length p14) (ys := z2) (by have h := hrow; rw [HZ2.out] at h; exact h) hb
            clear hrow hb
            go_wp2_with fail
            go_roundw
            case rel => exact ⟨j + 1, _, _, _, z2, rfl, by go_num, by omega, HQ2, I12⟩
            case measure => simp [intOf]; omega
          · have hge : ¬ (j : Int) < (m : Int) := by omega
            have HE := Lib.hid (show z = Z from by rw [← HQ.out, List.drop_of_length_le (by rw [HM.out]; omega), bytesTL, List.append_nil])
            go_wp2_with fail
            go_ret
            exact ⟨oz, pz, by rw [HE.out]; rfl, by rw [← HE.out]; exact IR.row, IR.gw.nil⟩
    · have hu8 : IntKind.u8.wrap u = u := wrap_u8 (by have h := HPU.out; simp at h; omega)
      have c1 := I1.box.cell 1
      simp only [tmC, List.getElem?_cons_zero, List.getElem?_cons_succ] at c1
      go_wp2_with (first
    | ((with_reducible refine wpList_slice_b1 a2 rfl (.tmp 29) rfl (c := u) rfl ?_); intro d15 hsl hbel; have S19 := Lib.hid hsl; have I17 := I1.below hbel; clear hsl hbel)
    | (at_builtin; (refine wpList_append_B (.tmp 26) (.tmp 30) rfl rfl I17 rfl rfl S19.out x3 (by have h := HX3.out; simpa using h) HL.out.2.2.1 ?_); intro o20 p21 d16 I18; have d0 := I18.box.cell 0; simp only [tmC, List.getElem?_cons_zero, List.getElem?_cons_succ] at d0))
      clear c1 hu8
      try clear d0
      have c0 := I18.box.cell 0
      simp only [tmC, List.getElem?_cons_zero, List.getElem?_cons_succ] at c0
      try go_wp2_with fail
      refine (HN.out d16).mono ?_
      rintro e' w' ⟨rfl, rfl⟩
      clear c0
      cases bN
      · have e : x3 = x4 := by have h := HX4.out; simpa using h
        rw [e] at I18
        try rw [e]
        clear e
        go_wp2_with fail
        go_loopw [3, 4] (fun q i wr => ∃ (j : Nat) (oz : Option Addr) (nz pz : Nat) (z : List Int), q = .slice oz nz pz ∧ i = .int .i64 j ∧ j ≤ m ∧ Hid (z ++ bytesTL (ks.drop j) = Z) ∧ PutI w w.heap.size (.slice none 0 0) w.heap.size (tmC k u n s (.slice ao m c)) (.slice oz nz pz) z wr) (fun _ i _ => m - (intOf i).toNat)
        case atStart => exact ⟨0, _, _, _, x4, rfl, rfl, Nat.zero_le _, Lib.hid (by rw [List.drop_zero]; exact HZ.out), I18⟩
        case round =>
          clear I18
          obtain ⟨j, oz, nz, pz, z, rfl, rfl, hj, HQ, IR⟩ := hrel
          obtain ⟨_, _, en⟩ := own_shape IR.row
          simp only [Value.slice.injEq] at en
          obtain ⟨-, rfl, -⟩ := en
          have c4 := IR.box.cell 4
          simp only [tmC, List.getElem?_cons_zero, List.getElem?_cons_succ] at c4
          by_cases hlt : j < m
          · have hjk : j < ks.length := by rw [HM.out]; exact hlt
            have hjz : (j : Int) < (m : Int) := by omega
            have hj0 : (0 : Int) ≤ (j : Int) := by omega
            have HSW := Lib.hid (IR.subL HSL.out (fun j hj e => by cases e))
            obtain ⟨b, o, csj, rfl, -, -, hra, htm⟩ := HSW.out.get hjk
            have HMEM := Lib.hid (List.getElem_mem hjk)
            have HDR := Lib.hid (List.drop_eq_getElem_cons hjk)
            generalize ks[j] = kj at htm HMEM HDR
            obtain ⟨aj, cj, rfl, -, -, -⟩ := htm.shape
            have HRA := Lib.hid hra
            have HTM := Lib.hid htm
            obtain ⟨z2, hz2⟩ : ∃ x, z ++ bytesT kj = x := ⟨_, rfl⟩
            have HZ2 := Lib.hid hz2
            have HQ2 := Lib.hid (show z2 ++ bytesTL (ks.drop (j + 1)) = Z from by have h := HQ.out; rw [HDR.out, bytesTL, ← List.append_assoc, hz2] at h; exact h)
            have HL2 := Lib.hid (show z2.length ≤ 1000000 from by have h1 := HL.out.1; rw [← HQ2.out, List.length_append] at h1; omega)
            clear hra htm hjk hz2
            go_wp2_with (first
    | (with_reducible refine wpList_load_any rfl 24 (.tmp 52) rfl b (o + j * 5) rfl (tmC kj.k kj.u kj.n kj.s (.slice aj kj.ks.length cj)) _ HRA.out Try.underlying24 rfl (tmC_info _ _ _ _ _) ?_))
            refine ((HIH.out kj HMEM.out).2 _ F wr (HIH.out kj HMEM.out).1 HTM.out (by have h := HL2.out; rw [← HZ2.out, List.length_append] at h; omega)).mono ?_
            rintro e' f1 ⟨oh, ph, rfl, hrow, hb⟩
            have IR1 := IR.below hb
            have HH := Lib.hid (Sl.of_owns hrow)
            generalize (bytesT kj).length = lk at HH ⊢
            clear hrow hb c4
            go_wp2_with fail
            refine (both_any _ _ z (bytesT kj) z2.length f1 (Sl.of_owns IR1.row) HH.out (by rw [← HZ2.out, List.length_append]) (by have := HL2.out; omega)).mono ?_
            rintro e' e22 ⟨o24, p25, rfl, hrow, hb⟩
            have I23 := IR1.anew (v' := .slice o24 z2.length p25) (ys := z2) (by have h := hrow; rw [HZ2.out] at h; exact h) hb
            clear hrow hb
            go_wp2_with fail
            go_roundw
            case rel => exact ⟨j + 1, _, _, _, z2, rfl, by go_num, by omega, HQ2, I23⟩
            case measure => simp [intOf]; omega
          · have hge : ¬ (j : Int) < (m : Int) := by omega
            have HE := Lib.hid (show z = Z from by rw [← HQ.out, List.drop_of_length_le (by rw [HM.out]; omega), bytesTL, List.append_nil])
            go_wp2_with fail
            go_ret
            exact ⟨oz, pz, by rw [HE.out]; rfl, by rw [← HE.out]; exact IR.row, IR.gw.nil⟩
      · have hb16 : 0 ≤ n ∧ n ≤ 65535 := by have h := HPN.out; simpa using h
        have hn64 : IntKind.u64.wrap n = n := by rw [IntKind.wrap_u64]; omega
        have HB16 := Lib.hid hb16
        clear hb16
        have c2 := I18.box.cell 2
        simp only [tmC, List.getElem?_cons_zero, List.getElem?_cons_succ] at c2
        go_wp2_with fail
        refine (high_any n 2 d16 (by have := HB16.out; omega) (by omega)).mono ?_
        rintro e' d26 ⟨oh, ph, rfl, hrow, hb⟩
        have I27 := I18.below hb
        have HH := Lib.hid (Sl.of_owns hrow)
        clear hrow hb c2 hn64
        go_wp2_with fail
        refine (both_any _ _ x3 (beF n 2) x4.length d26 (Sl.of_owns I27.row) HH.out (by rw [← (show x3 ++ beF n 2 = x4 from HX4.out), List.length_append]) (by have := HL.out.2.1; omega)).mono ?_
        rintro e' e28 ⟨o30, p31, rfl, hrow, hb⟩
        have I29 := I27.anew (v' := .slice o30 x4.length p31) (ys := x4) (by have h := hrow; rw [(show x3 ++ beF n 2 = x4 from HX4.out)] at h; exact h) hb
        clear hrow hb
        go_wp2_with fail
        go_loopw [3, 4] (fun q i wr => ∃ (j : Nat) (oz : Option Addr) (nz pz : Nat) (z : List Int), q = .slice oz nz pz ∧ i = .int .i64 j ∧ j ≤ m ∧ Hid (z ++ bytesTL (ks.drop j) = Z) ∧ PutI w w.heap.size (.slice none 0 0) w.heap.size (tmC k u n s (.slice ao m c)) (.slice oz nz pz) z wr) (fun _ i _ => m - (intOf i).toNat)
        case atStart => exact ⟨0, _, _, _, x4, rfl, rfl, Nat.zero_le _, Lib.hid (by rw [List.drop_zero]; exact HZ.out), I29⟩
        case round =>
          clear I29
          obtain ⟨j, oz, nz, pz, z, rfl, rfl, hj, HQ, IR⟩ := hrel
          obtain ⟨_, _, en⟩ := own_shape IR.row
          simp only [Value.slice.injEq] at en
          obtain ⟨-, rfl, -⟩ := en
          have c4 := IR.box.cell 4
          simp only [tmC, List.getElem?_cons_zero, List.getElem?_cons_succ] at c4
          by_cases hlt : j < m
          · have hjk : j < ks.length := by rw [HM.out]; exact hlt
            have hjz : (j : Int) < (m : Int) := by omega
            have hj0 : (0 : Int) ≤ (j : Int) := by omega
            have HSW := Lib.hid (IR.subL HSL.out (fun j hj e => by cases e))
            obtain ⟨b, o, csj, rfl, -, -, hra, htm⟩ := HSW.out.get hjk
            have HMEM := Lib.hid (List.getElem_mem hjk)
            have HDR := Lib.hid (List.drop_eq_getElem_cons hjk)
            generalize ks[j] = kj at htm HMEM HDR
            obtain ⟨aj, cj, rfl, -, -, -⟩ := htm.shape
            have HRA := Lib.hid hra
            have HTM := Lib.hid htm
            obtain ⟨z2, hz2⟩ : ∃ x, z ++ bytesT kj = x := ⟨_, rfl⟩
            have HZ2 := Lib.hid hz2
            have HQ2 := Lib.hid (show z2 ++ bytesTL (ks.drop (j + 1)) = Z from by have h := HQ.out; rw [HDR.out, bytesTL, ← List.append_assoc, hz2] at h; exact h)
            have HL2 := Lib.hid (show z2.length ≤ 1000000 from by have h1 := HL.out.1; rw [← HQ2.out, List.length_append] at h1; omega)
            clear hra htm hjk hz2
            go_wp2_with (first
    | (with_reducible refine wpList_load_any rfl 24 (.tmp 52) rfl b (o + j * 5) rfl (tmC kj.k kj.u kj.n kj.s (.slice aj kj.ks.length cj)) _ HRA.out Try.underlying24 rfl (tmC_info _ _ _ _ _) ?_))
            refine ((HIH.out kj HMEM.out).2 _ F wr (HIH.out kj HMEM.out).1 HTM.out (by have h := HL2.out; rw [← HZ2.out, List.length_append] at h; omega)).mono ?_
            rintro e' f1 ⟨oh, ph, rfl, hrow, hb⟩
            have IR1 := IR.below hb
            have HH := Lib.hid (Sl.of_owns hrow)
            generalize (bytesT kj).length = lk at HH ⊢
            clear hrow hb c4
            go_wp2_with fail
            refine (both_any _ _ z (bytesT kj) z2.length f1 (Sl.of_owns IR1.row) HH.out (by rw [← HZ2.out, List.length_append]) (by have := HL2.out; omega)).mono ?_
            rintro e' e32 ⟨o34, p35, rfl, hrow, hb⟩
            have I33 := IR1.anew (v' := .slice o34 z2.length p35) (ys := z2) (by have h := hrow; rw [HZ2.out] at h; exact h) hb
            clear hrow hb
            go_wp2_with fail
            go_roundw
            case rel => exact ⟨j + 1, _, _, _, z2, rfl, by go_num, by omega, HQ2, I33⟩
            case measure => simp [intOf]; omega
          · have hge : ¬ (j : Int) < (m : Int) := by omega
            have HE := Lib.hid (show z = Z from by rw [← HQ.out, List.drop_of_length_le (by rw [HM.out]; omega), bytesTL, List.append_nil])
            go_wp2_with fail
            go_ret
            exact ⟨oz, pz, by rw [HE.out]; rfl, by rw [← HE.out]; exact IR.row, IR.gw.nil⟩
  · have YX := Lib.hid (show y1 ++ ints s = x2 from by have h := HX2.out; rw [if_pos rfl] at h; rw [← HY1.out, List.append_assoc]; exact h)
    have LY1 := Lib.hid (show y1.length ≤ 1000000 from by have h := HL.out.2.2.2; rw [← YX.out, List.length_append] at h; omega)
    go_enter Try.func20, Try.ntmps20
    go_wp2_with (first
    | ((with_reducible refine wpList_box_blk w rfl 24 (.tmp 0) rfl (tmC k u n s (.slice ao m c)) rfl ?_); intro a1 hb hbel hsz; have I0 : PutI w w.heap.size (.slice none 0 0) w.heap.size (tmC k u n s (.slice ao m c)) (.slice none 0 0) [] a1 := ⟨World.ownsRow_nil _ _ _ _, hb, Nat.le_refl _, Nat.le_refl _, Gw.below hbel, fun q hq => by cases hq⟩; have c0 := I0.box.cell 0; simp only [tmC, List.getElem?_cons_zero, List.getElem?_cons_succ] at c0; clear hb hbel hsz)
    | ((with_reducible refine wpList_slice_bo a1 rfl (.tmp 7) rfl (c := k) rfl ?_); intro a2 hrow hbel; have I1 : PutI w w.heap.size (.slice none 0 0) w.heap.size (tmC k u n s (.slice ao m c)) (.slice (some ⟨a1.heap.size, 0, none⟩) 1 1) [k] a2 := I0.anew hrow hbel; have d0 := I1.box.cell 0; simp only [tmC, List.getElem?_cons_zero, List.getElem?_cons_succ] at d0; clear hrow hbel))
    clear c0 d0 et
    go_wp2_with fail
    refine wp_region_takes (fun w' => w'.cell? ⟨w.heap.size, 3, none⟩ = some (.string s)) [0, 1, 2, 3, 4, 7, 8] 5 (by kernel_rfl) rfl (by kernel_rfl) (by kernel_rfl) (I1.box.cell 3) ?_
    iterate 7 (refine' HeldL.run ?_ ?_ ?_ ?_; rotate_left 2; (simp only [List.getElem?_toArray, List.getElem?_cons_zero, List.getElem?_cons_succ]; rfl); rfl; (rintro w' k0; go_simp; with_reducible rfl); simp only [Act.put, List.setIfInBounds_toArray, List.set_cons_zero, List.set_cons_succ])
    have sm := (Sm.refl a2).drew
    have HV37 := I1.below (sm.below _)
    clear sm
    generalize a2.drew = v36 at HV37 ⊢
    refine' wpAnyH_two 5 9 (by kernel_rfl) ?_ ?_ ?_ ?_; rotate_left 2; (simp only [List.getElem?_toArray, List.getElem?_cons_zero, List.getElem?_cons_succ]; rfl); (simp only [List.getElem?_toArray, List.getElem?_cons_zero, List.getElem?_cons_succ]; rfl)
    · skip
      refine wpList_slice_b1 v36 rfl (.tmp 16) rfl (c := s.size) rfl ?_
      intro h38 hsl hbel
      have S40 := Lib.hid hsl
      have I39 := HV37.below hbel
      clear hsl hbel
      simp only [Act.put, List.setIfInBounds_toArray, List.set_cons_zero, List.set_cons_succ]
      refine QK.normal ⟨(I39.box.cell 3), ?_⟩
      refine' wpAnyH_two 6 9 (by kernel_rfl) ?_ ?_ ?_ ?_; rotate_left 2; (simp only [List.getElem?_toArray, List.getElem?_cons_zero, List.getElem?_cons_succ]; rfl); (simp only [List.getElem?_toArray, List.getElem?_cons_zero, List.getElem?_cons_succ]; rfl)
      · skip
        at_builtin
        refine wpList_append_B2 (.tmp 12) (.tmp 17) rfl rfl I39 rfl rfl S40.out y1 HY1.out LY1.out ?_
        intro o43 p44 h41 I42 hg
        clear hg
        simp only [Act.put, List.setIfInBounds_toArray, List.set_cons_zero, List.set_cons_succ]
        refine QK.normal ⟨(I42.box.cell 3), ?_⟩
        refine' wpAnyH_one 9 (by kernel_rfl) ?_ ?_; rotate_left; (simp only [List.getElem?_toArray, List.getElem?_cons_zero, List.getElem?_cons_succ]; rfl)
        obtain ⟨p48, h45, hcv, hc1, hc2, hbm, hbel⟩ := conv_string (P := Try.prog) h41 9 25 5 s Try.underlying9 Try.underlying25 Try.underlying5 HSM.out
        try simp only [Act.put]
        go_wp2_with fail
        have N50 := Lib.hid (fun q hq => show q ≠ h41.heap.size from Nat.ne_of_lt (I42.row.lt q hq).2)
        have I46 := I42.below hbel
        have V49 := Lib.hid (show Sl h45 (.slice (some ⟨h41.heap.size, 0, none⟩) s.size p48) (ofK .u8 (ints s)) from by have h := hbm.sl s.size p48 (by rw [List.length_append, length_ofK, ints_length]; omega) hc1 hc2; rw [List.take_append_of_le_length (by rw [length_ofK, ints_length]; omega), List.take_of_length_le (by rw [length_ofK, ints_length]; omega)] at h; exact h)
        clear hcv hc1 hc2 hbm hbel
        refine QK.normal ⟨(I46.box.cell 3), ?_⟩
        refine' wpAnyH_one 10 (by kernel_rfl) ?_ ?_; rotate_left; (simp only [List.getElem?_toArray, List.getElem?_cons_zero, List.getElem?_cons_succ]; rfl)
        try simp only [Act.put]
        go_wp2_with fail
        refine (both_any _ _ y1 (ints s) x2.length h45 (Sl.of_owns I46.row) V49.out (by rw [← YX.out, List.length_append]) (by have := HL.out.2.2.2; omega)).mono ?_
        rintro e' e51 ⟨o53, p54, rfl, hrow, hb⟩
        have I52 := I46.anew (v' := .slice o53 x2.length p54) (ys := x2) (by have h := hrow; rw [YX.out] at h; exact h) hb
        clear hrow hb
        go_wp2_with fail
        refine QK.normal ⟨(I52.box.cell 3), ?_⟩
        refine' wpAnyH_one 11 (by kernel_rfl) ?_ ?_; rotate_left; (simp only [List.getElem?_toArray, List.getElem?_cons_zero, List.getElem?_cons_succ]; rfl)
        try simp only [Act.put]
        go_wp2_with fail
        refine QK.normal ⟨(I52.box.cell 3), ?_⟩
        refine wpAnyH_done (by kernel_rfl) ?_ _
        refine NoPanic.normal ?_
        have c0 := I52.box.cell 0
        simp only [tmC, List.getElem?_cons_zero, List.getElem?_cons_succ] at c0
        go_wp2_with fail
        refine (HU.out e51).mono ?_
        rintro e' w' ⟨rfl, rfl⟩
        clear c0
        cases bU
        · have e : x2 = x3 := by have h := HX3.out; simpa using h
          rw [e] at I52
          try rw [e]
          clear e
          have c0 := I52.box.cell 0
          simp only [tmC, List.getElem?_cons_zero, List.getElem?_cons_succ] at c0
          try go_wp2_with fail
          refine (HN.out e51).mono ?_
          rintro e' w' ⟨rfl, rfl⟩
          clear c0
          cases bN
          · have e : x3 = x4 := by have h := HX4.out; simpa using h
            rw [e] at I52
            try rw [e]
            clear e
            go_wp2_with fail
            go_loopw [3, 4] (fun q i wr => ∃ (j : Nat) (oz : Option Addr) (nz pz : Nat) (z : List Int), q = .slice oz nz pz ∧ i = .int .i64 j ∧ j ≤ m ∧ Hid (z ++ bytesTL (ks.drop j) = Z) ∧ PutI w w.heap.size (.slice none 0 0) w.heap.size (tmC k u n s (.slice ao m c)) (.slice oz nz pz) z wr) (fun _ i _ => m - (intOf i).toNat)
            case atStart => exact ⟨0, _, _, _, x4, rfl, rfl, Nat.zero_le _, Lib.hid (by rw [List.drop_zero]; exact HZ.out), I52⟩
            case round =>
              clear I52
              obtain ⟨j, oz, nz, pz, z, rfl, rfl, hj, HQ, IR⟩ := hrel
              obtain ⟨_, _, en⟩ := own_shape IR.row
              simp only [Value.slice.injEq] at en
              obtain ⟨-, rfl, -⟩ := en
              have c4 := IR.box.cell 4
              simp only [tmC, List.getElem?_cons_zero, List.getElem?_cons_succ] at c4
              by_cases hlt : j < m
              · have hjk : j < ks.length := by rw [HM.out]; exact hlt
                have hjz : (j : Int) < (m : Int) := by omega
                have hj0 : (0 : Int) ≤ (j : Int) := by omega
                have HSW := Lib.hid (IR.subL HSL.out (fun j hj e => by cases e))
                obtain ⟨b, o, csj, rfl, -, -, hra, htm⟩ := HSW.out.get hjk
                have HMEM := Lib.hid (List.getElem_mem hjk)
                have HDR := Lib.hid (List.drop_eq_getElem_cons hjk)
                generalize ks[j] = kj at htm HMEM HDR
                obtain ⟨aj, cj, rfl, -, -, -⟩ := htm.shape
                have HRA := Lib.hid hra
                have HTM := Lib.hid htm
                obtain ⟨z2, hz2⟩ : ∃ x, z ++ bytesT kj = x := ⟨_, rfl⟩
                have HZ2 := Lib.hid hz2
                have HQ2 := Lib.hid (show z2 ++ bytesTL (ks.drop (j + 1)) = Z from by have h := HQ.out; rw [HDR.out, bytesTL, ← List.append_assoc, hz2] at h; exact h)
                have HL2 := Lib.hid (show z2.length ≤ 1000000 from by have h1 := HL.out.1; rw [← HQ2.out, List.length_append] at h1; omega)
                clear hra htm hjk hz2
                go_wp2_with (first
    | (with_reducible refine wpList_load_any rfl 24 (.tmp 52) rfl b (o + j * 5) rfl (tmC kj.k kj.u kj.n kj.s (.slice aj kj.ks.length cj)) _ HRA.out Try.underlying24 rfl (tmC_info _ _ _ _ _) ?_))
                refine ((HIH.out kj HMEM.out).2 _ F wr (HIH.out kj HMEM.out).1 HTM.out (by have h := HL2.out; rw [← HZ2.out, List.length_append] at h; omega)).mono ?_
                rintro e' f1 ⟨oh, ph, rfl, hrow, hb⟩
                have IR1 := IR.below hb
                have HH := Lib.hid (Sl.of_owns hrow)
                generalize (bytesT kj).length = lk at HH ⊢
                clear hrow hb c4
                go_wp2_with fail
                refine (both_any _ _ z (bytesT kj) z2.length f1 (Sl.of_owns IR1.row) HH.out (by rw [← HZ2.out, List.length_append]) (by have := HL2.out; omega)).mono ?_
                rintro e' e55 ⟨o57, p58, rfl, hrow, hb⟩
                have I56 := IR1.anew (v' := .slice o57 z2.length p58) (ys := z2) (by have h := hrow; rw [HZ2.out] at h; exact h) hb
                clear hrow hb
                go_wp2_with fail
                go_roundw
                case rel => exact ⟨j + 1, _, _, _, z2, rfl, by go_num, by omega, HQ2, I56⟩
                case measure => simp [intOf]; omega
              · have hge : ¬ (j : Int) < (m : Int) := by omega
                have HE := Lib.hid (show z = Z from by rw [← HQ.out, List.drop_of_length_le (by rw [HM.out]; omega), bytesTL, List.append_nil])
                go_wp2_with fail
                go_ret
                exact ⟨oz, pz, by rw [HE.out]; rfl, by rw [← HE.out]; exact IR.row, IR.gw.nil⟩
          · have hb16 : 0 ≤ n ∧ n ≤ 65535 := by have h := HPN.out; simpa using h
            have hn64 : IntKind.u64.wrap n = n := by rw [IntKind.wrap_u64]; omega
            have HB16 := Lib.hid hb16
            clear hb16
            have c2 := I52.box.cell 2
            simp only [tmC, List.getElem?_cons_zero, List.getElem?_cons_succ] at c2
            go_wp2_with fail
            refine (high_any n 2 e51 (by have := HB16.out; omega) (by omega)).mono ?_
            rintro e' d59 ⟨oh, ph, rfl, hrow, hb⟩
            have I60 := I52.below hb
            have HH := Lib.hid (Sl.of_owns hrow)
            clear hrow hb c2 hn64
            go_wp2_with fail
            refine (both_any _ _ x3 (beF n 2) x4.length d59 (Sl.of_owns I60.row) HH.out (by rw [← (show x3 ++ beF n 2 = x4 from HX4.out), List.length_append]) (by have := HL.out.2.1; omega)).mono ?_
            rintro e' e61 ⟨o63, p64, rfl, hrow, hb⟩
            have I62 := I60.anew (v' := .slice o63 x4.length p64) (ys := x4) (by have h := hrow; rw [(show x3 ++ beF n 2 = x4 from HX4.out)] at h; exact h) hb
            clear hrow hb
            go_wp2_with fail
            go_loopw [3, 4] (fun q i wr => ∃ (j : Nat) (oz : Option Addr) (nz pz : Nat) (z : List Int), q = .slice oz nz pz ∧ i = .int .i64 j ∧ j ≤ m ∧ Hid (z ++ bytesTL (ks.drop j) = Z) ∧ PutI w w.heap.size (.slice none 0 0) w.heap.size (tmC k u n s (.slice ao m c)) (.slice oz nz pz) z wr) (fun _ i _ => m - (intOf i).toNat)
            case atStart => exact ⟨0, _, _, _, x4, rfl, rfl, Nat.zero_le _, Lib.hid (by rw [List.drop_zero]; exact HZ.out), I62⟩
            case round =>
              clear I62
              obtain ⟨j, oz, nz, pz, z, rfl, rfl, hj, HQ, IR⟩ := hrel
              obtain ⟨_, _, en⟩ := own_shape IR.row
              simp only [Value.slice.injEq] at en
              obtain ⟨-, rfl, -⟩ := en
              have c4 := IR.box.cell 4
              simp only [tmC, List.getElem?_cons_zero, List.getElem?_cons_succ] at c4
              by_cases hlt : j < m
              · have hjk : j < ks.length := by rw [HM.out]; exact hlt
                have hjz : (j : Int) < (m : Int) := by omega
                have hj0 : (0 : Int) ≤ (j : Int) := by omega
                have HSW := Lib.hid (IR.subL HSL.out (fun j hj e => by cases e))
                obtain ⟨b, o, csj, rfl, -, -, hra, htm⟩ := HSW.out.get hjk
                have HMEM := Lib.hid (List.getElem_mem hjk)
                have HDR := Lib.hid (List.drop_eq_getElem_cons hjk)
                generalize ks[j] = kj at htm HMEM HDR
                obtain ⟨aj, cj, rfl, -, -, -⟩ := htm.shape
                have HRA := Lib.hid hra
                have HTM := Lib.hid htm
                obtain ⟨z2, hz2⟩ : ∃ x, z ++ bytesT kj = x := ⟨_, rfl⟩
                have HZ2 := Lib.hid hz2
                have HQ2 := Lib.hid (show z2 ++ bytesTL (ks.drop (j + 1)) = Z from by have h := HQ.out; rw [HDR.out, bytesTL, ← List.append_assoc, hz2] at h; exact h)
                have HL2 := Lib.hid (show z2.length ≤ 1000000 from by have h1 := HL.out.1; rw [← HQ2.out, List.length_append] at h1; omega)
                clear hra htm hjk hz2
                go_wp2_with (first
    | (with_reducible refine wpList_load_any rfl 24 (.tmp 52) rfl b (o + j * 5) rfl (tmC kj.k kj.u kj.n kj.s (.slice aj kj.ks.length cj)) _ HRA.out Try.underlying24 rfl (tmC_info _ _ _ _ _) ?_))
                refine ((HIH.out kj HMEM.out).2 _ F wr (HIH.out kj HMEM.out).1 HTM.out (by have h := HL2.out; rw [← HZ2.out, List.length_append] at h; omega)).mono ?_
                rintro e' f1 ⟨oh, ph, rfl, hrow, hb⟩
                have IR1 := IR.below hb
                have HH := Lib.hid (Sl.of_owns hrow)
                generalize (bytesT kj).length = lk at HH ⊢
                clear hrow hb c4
                go_wp2_with fail
                refine (both_any _ _ z (bytesT kj) z2.length f1 (Sl.of_owns IR1.row) HH.out (by rw [← HZ2.out, List.length_append]) (by have := HL2.out; omega)).mono ?_
                rintro e' e65 ⟨o67, p68, rfl, hrow, hb⟩
                have I66 := IR1.anew (v' := .slice o67 z2.length p68) (ys := z2) (by have h := hrow; rw [HZ2.out] at h; exact h) hb
                clear hrow hb
                go_wp2_with fail
                go_roundw
                case rel => exact ⟨j + 1, _, _, _, z2, rfl, by go_num, by omega, HQ2, I66⟩
                case measure => simp [intOf]; omega
              · have hge : ¬ (j : Int) < (m : Int) := by omega
                have HE := Lib.hid (show z = Z from by rw [← HQ.out, List.drop_of_length_le (by rw [HM.out]; omega), bytesTL, List.append_nil])
                go_wp2_with fail
                go_ret
                exact ⟨oz, pz, by rw [HE.out]; rfl, by rw [← HE.out]; exact IR.row, IR.gw.nil⟩
        · have hu8 : IntKind.u8.wrap u = u := wrap_u8 (by have h := HPU.out; simp at h; omega)
          have c1 := I52.box.cell 1
          simp only [tmC, List.getElem?_cons_zero, List.getElem?_cons_succ] at c1
          go_wp2_with (first
    | ((with_reducible refine wpList_slice_b1 e51 rfl (.tmp 29) rfl (c := u) rfl ?_); intro d69 hsl hbel; have S73 := Lib.hid hsl; have I71 := I52.below hbel; clear hsl hbel)
    | (at_builtin; (refine wpList_append_B (.tmp 26) (.tmp 30) rfl rfl I71 rfl rfl S73.out x3 (by have h := HX3.out; simpa using h) HL.out.2.2.1 ?_); intro o74 p75 d70 I72; have d0 := I72.box.cell 0; simp only [tmC, List.getElem?_cons_zero, List.getElem?_cons_succ] at d0))
          clear c1 hu8
          try clear d0
          have c0 := I72.box.cell 0
          simp only [tmC, List.getElem?_cons_zero, List.getElem?_cons_succ] at c0
          try go_wp2_with fail
          refine (HN.out d70).mono ?_
          rintro e' w' ⟨rfl, rfl⟩
          clear c0
          cases bN
          · have e : x3 = x4 := by have h := HX4.out; simpa using h
            rw [e] at I72
            try rw [e]
            clear e
            go_wp2_with fail
            go_loopw [3, 4] (fun q i wr => ∃ (j : Nat) (oz : Option Addr) (nz pz : Nat) (z : List Int), q = .slice oz nz pz ∧ i = .int .i64 j ∧ j ≤ m ∧ Hid (z ++ bytesTL (ks.drop j) = Z) ∧ PutI w w.heap.size (.slice none 0 0) w.heap.size (tmC k u n s (.slice ao m c)) (.slice oz nz pz) z wr) (fun _ i _ => m - (intOf i).toNat)
            case atStart => exact ⟨0, _, _, _, x4, rfl, rfl, Nat.zero_le _, Lib.hid (by rw [List.drop_zero]; exact HZ.out), I72⟩
            case round =>
              clear I72
              obtain ⟨j, oz, nz, pz, z, rfl, rfl, hj, HQ, IR⟩ := hrel
              obtain ⟨_, _, en⟩ := own_shape IR.row
              simp only [Value.slice.injEq] at en
              obtain ⟨-, rfl, -⟩ := en
              have c4 := IR.box.cell 4
              simp only [tmC, List.getElem?_cons_zero, List.getElem?_cons_succ] at c4
              by_cases hlt : j < m
              · have hjk : j < ks.length := by rw [HM.out]; exact hlt
                have hjz : (j : Int) < (m : Int) := by omega
                have hj0 : (0 : Int) ≤ (j : Int) := by omega
                have HSW := Lib.hid (IR.subL HSL.out (fun j hj e => by cases e))
                obtain ⟨b, o, csj, rfl, -, -, hra, htm⟩ := HSW.out.get hjk
                have HMEM := Lib.hid (List.getElem_mem hjk)
                have HDR := Lib.hid (List.drop_eq_getElem_cons hjk)
                generalize ks[j] = kj at htm HMEM HDR
                obtain ⟨aj, cj, rfl, -, -, -⟩ := htm.shape
                have HRA := Lib.hid hra
                have HTM := Lib.hid htm
                obtain ⟨z2, hz2⟩ : ∃ x, z ++ bytesT kj = x := ⟨_, rfl⟩
                have HZ2 := Lib.hid hz2
                have HQ2 := Lib.hid (show z2 ++ bytesTL (ks.drop (j + 1)) = Z from by have h := HQ.out; rw [HDR.out, bytesTL, ← List.append_assoc, hz2] at h; exact h)
                have HL2 := Lib.hid (show z2.length ≤ 1000000 from by have h1 := HL.out.1; rw [← HQ2.out, List.length_append] at h1; omega)
                clear hra htm hjk hz2
                go_wp2_with (first
    | (with_reducible refine wpList_load_any rfl 24 (.tmp 52) rfl b (o + j * 5) rfl (tmC kj.k kj.u kj.n kj.s (.slice aj kj.ks.length cj)) _ HRA.out Try.underlying24 rfl (tmC_info _ _ _ _ _) ?_))
                refine ((HIH.out kj HMEM.out).2 _ F wr (HIH.out kj HMEM.out).1 HTM.out (by have h := HL2.out; rw [← HZ2.out, List.length_append] at h; omega)).mono ?_
                rintro e' f1 ⟨oh, ph, rfl, hrow, hb⟩
                have IR1 := IR.below hb
                have HH := Lib.hid (Sl.of_owns hrow)
                generalize (bytesT kj).length = lk at HH ⊢
                clear hrow hb c4
                go_wp2_with fail
                refine (both_any _ _ z (bytesT kj) z2.length f1 (Sl.of_owns IR1.row) HH.out (by rw [← HZ2.out, List.length_append]) (by have := HL2.out; omega)).mono ?_
                rintro e' e76 ⟨o78, p79, rfl, hrow, hb⟩
                have I77 := IR1.anew (v' := .slice o78 z2.length p79) (ys := z2) (by have h := hrow; rw [HZ2.out] at h; exact h) hb
                clear hrow hb
                go_wp2_with fail
                go_roundw
                case rel => exact ⟨j + 1, _, _, _, z2, rfl, by go_num, by omega, HQ2, I77⟩
                case measure => simp [intOf]; omega
              · have hge : ¬ (j : Int) < (m : Int) := by omega
                have HE := Lib.hid (show z = Z from by rw [← HQ.out, List.drop_of_length_le (by rw [HM.out]; omega), bytesTL, List.append_nil])
                go_wp2_with fail
                go_ret
                exact ⟨oz, pz, by rw [HE.out]; rfl, by rw [← HE.out]; exact IR.row, IR.gw.nil⟩
          · have hb16 : 0 ≤ n ∧ n ≤ 65535 := by have h := HPN.out; simpa using h
            have hn64 : IntKind.u64.wrap n = n := by rw [IntKind.wrap_u64]; omega
            have HB16 := Lib.hid hb16
            clear hb16
            have c2 := I72.box.cell 2
            simp only [tmC, List.getElem?_cons_zero, List.getElem?_cons_succ] at c2
            go_wp2_with fail
            refine (high_any n 2 d70 (by have := HB16.out; omega) (by omega)).mono ?_
            rintro e' d80 ⟨oh, ph, rfl, hrow, hb⟩
            have I81 := I72.below hb
            have HH := Lib.hid (Sl.of_owns hrow)
            clear hrow hb c2 hn64
            go_wp2_with fail
            refine (both_any _ _ x3 (beF n 2) x4.length d80 (Sl.of_owns I81.row) HH.out (by rw [← (show x3 ++ beF n 2 = x4 from HX4.out), List.length_append]) (by have := HL.out.2.1; omega)).mono ?_
            rintro e' e82 ⟨o84, p85, rfl, hrow, hb⟩
            have I83 := I81.anew (v' := .slice o84 x4.length p85) (ys := x4) (by have h := hrow; rw [(show x3 ++ beF n 2 = x4 from HX4.out)] at h; exact h) hb
            clear hrow hb
            go_wp2_with fail
            go_loopw [3, 4] (fun q i wr => ∃ (j : Nat) (oz : Option Addr) (nz pz : Nat) (z : List Int), q = .slice oz nz pz ∧ i = .int .i64 j ∧ j ≤ m ∧ Hid (z ++ bytesTL (ks.drop j) = Z) ∧ PutI w w.heap.size (.slice none 0 0) w.heap.size (tmC k u n s (.slice ao m c)) (.slice oz nz pz) z wr) (fun _ i _ => m - (intOf i).toNat)
            case atStart => exact ⟨0, _, _, _, x4, rfl, rfl, Nat.zero_le _, Lib.hid (by rw [List.drop_zero]; exact HZ.out), I83⟩
            case round =>
              clear I83
              obtain ⟨j, oz, nz, pz, z, rfl, rfl, hj, HQ, IR⟩ := hrel
              obtain ⟨_, _, en⟩ := own_shape IR.row
              simp only [Value.slice.injEq] at en
              obtain ⟨-, rfl, -⟩ := en
              have c4 := IR.box.cell 4
              simp only [tmC, List.getElem?_cons_zero, List.getElem?_cons_succ] at c4
              by_cases hlt : j < m
              · have hjk : j < ks.length := by rw [HM.out]; exact hlt
                have hjz : (j : Int) < (m : Int) := by omega
                have hj0 : (0 : Int) ≤ (j : Int) := by omega
                have HSW := Lib.hid (IR.subL HSL.out (fun j hj e => by cases e))
                obtain ⟨b, o, csj, rfl, -, -, hra, htm⟩ := HSW.out.get hjk
                have HMEM := Lib.hid (List.getElem_mem hjk)
                have HDR := Lib.hid (List.drop_eq_getElem_cons hjk)
                generalize ks[j] = kj at htm HMEM HDR
                obtain ⟨aj, cj, rfl, -, -, -⟩ := htm.shape
                have HRA := Lib.hid hra
                have HTM := Lib.hid htm
                obtain ⟨z2, hz2⟩ : ∃ x, z ++ bytesT kj = x := ⟨_, rfl⟩
                have HZ2 := Lib.hid hz2
                have HQ2 := Lib.hid (show z2 ++ bytesTL (ks.drop (j + 1)) = Z from by have h := HQ.out; rw [HDR.out, bytesTL, ← List.append_assoc, hz2] at h; exact h)
                have HL2 := Lib.hid (show z2.length ≤ 1000000 from by have h1 := HL.out.1; rw [← HQ2.out, List.length_append] at h1; omega)
                clear hra htm hjk hz2
                go_wp2_with (first
    | (with_reducible refine wpList_load_any rfl 24 (.tmp 52) rfl b (o + j * 5) rfl (tmC kj.k kj.u kj.n kj.s (.slice aj kj.ks.length cj)) _ HRA.out Try.underlying24 rfl (tmC_info _ _ _ _ _) ?_))
                refine ((HIH.out kj HMEM.out).2 _ F wr (HIH.out kj HMEM.out).1 HTM.out (by have h := HL2.out; rw [← HZ2.out, List.length_append] at h; omega)).mono ?_
                rintro e' f1 ⟨oh, ph, rfl, hrow, hb⟩
                have IR1 := IR.below hb
                have HH := Lib.hid (Sl.of_owns hrow)
                generalize (bytesT kj).length = lk at HH ⊢
                clear hrow hb c4
                go_wp2_with fail
                refine (both_any _ _ z (bytesT kj) z2.length f1 (Sl.of_owns IR1.row) HH.out (by rw [← HZ2.out, List.length_append]) (by have := HL2.out; omega)).mono ?_
                rintro e' e86 ⟨o88, p89, rfl, hrow, hb⟩
                have I87 := IR1.anew (v' := .slice o88 z2.length p89) (ys := z2) (by have h := hrow; rw [HZ2.out] at h; exact h) hb
                clear hrow hb
                go_wp2_with fail
                go_roundw
                case rel => exact ⟨j + 1, _, _, _, z2, rfl, by go_num, by omega, HQ2, I87⟩
                case measure => simp [intOf]; omega
              · have hge : ¬ (j : Int) < (m : Int) := by omega
                have HE := Lib.hid (show z = Z from by rw [← HQ.out, List.drop_of_length_le (by rw [HM.out]; omega), bytesTL, List.append_nil])
                go_wp2_with fail
                go_ret
                exact ⟨oz, pz, by rw [HE.out]; rfl, by rw [← HE.out]; exact IR.row, IR.gw.nil⟩
      · skip
        obtain ⟨p93, h90, hcv, hc1, hc2, hbm, hbel⟩ := conv_string (P := Try.prog) h38 9 25 5 s Try.underlying9 Try.underlying25 Try.underlying5 HSM.out
        try simp only [Act.put]
        go_wp2_with fail
        have N95 := Lib.hid (fun q hq => show q ≠ h38.heap.size from Nat.ne_of_lt (I39.row.lt q hq).2)
        have I91 := I39.below hbel
        have V94 := Lib.hid (show Sl h90 (.slice (some ⟨h38.heap.size, 0, none⟩) s.size p93) (ofK .u8 (ints s)) from by have h := hbm.sl s.size p93 (by rw [List.length_append, length_ofK, ints_length]; omega) hc1 hc2; rw [List.take_append_of_le_length (by rw [length_ofK, ints_length]; omega), List.take_of_length_le (by rw [length_ofK, ints_length]; omega)] at h; exact h)
        have S96 := Lib.hid (S40.out.below hbel (Nat.le_refl _))
        clear hcv hc1 hc2 hbm hbel
        refine QK.normal ⟨(I91.box.cell 3), ?_⟩
        refine' wpAnyH_one 6 (by kernel_rfl) ?_ ?_; rotate_left; (simp only [List.getElem?_toArray, List.getElem?_cons_zero, List.getElem?_cons_succ]; rfl)
        at_builtin
        refine wpList_append_B2 (.tmp 12) (.tmp 17) rfl rfl I91 rfl rfl S96.out y1 HY1.out LY1.out ?_
        intro o99 p100 h97 I98 hg
        have V101 := Lib.hid (V94.out.keep hg.ch (fun q hq e => by have h1 := N95.out q e; injection hq with hq; exact h1 hq.symm))
        clear hg
        simp only [Act.put, List.setIfInBounds_toArray, List.set_cons_zero, List.set_cons_succ]
        refine QK.normal ⟨(I98.box.cell 3), ?_⟩
        refine' wpAnyH_one 10 (by kernel_rfl) ?_ ?_; rotate_left; (simp only [List.getElem?_toArray, List.getElem?_cons_zero, List.getElem?_cons_succ]; rfl)
        try simp only [Act.put]
        go_wp2_with fail
        refine (both_any _ _ y1 (ints s) x2.length h97 (Sl.of_owns I98.row) V101.out (by rw [← YX.out, List.length_append]) (by have := HL.out.2.2.2; omega)).mono ?_
        rintro e' e102 ⟨o104, p105, rfl, hrow, hb⟩
        have I103 := I98.anew (v' := .slice o104 x2.length p105) (ys := x2) (by have h := hrow; rw [YX.out] at h; exact h) hb
        clear hrow hb
        go_wp2_with fail
        refine QK.normal ⟨(I103.box.cell 3), ?_⟩
        refine' wpAnyH_one 11 (by kernel_rfl) ?_ ?_; rotate_left; (simp only [List.getElem?_toArray, List.getElem?_cons_zero, List.getElem?_cons_succ]; rfl)
        try simp only [Act.put]
        go_wp2_with fail
        refine QK.normal ⟨(I103.box.cell 3), ?_⟩
        refine wpAnyH_done (by kernel_rfl) ?_ _
        refine NoPanic.normal ?_
        have c0 := I103.box.cell 0
        simp only [tmC, List.getElem?_cons_zero, List.getElem?_cons_succ] at c0
        go_wp2_with fail
        refine (HU.out e102).mono ?_
        rintro e' w' ⟨rfl, rfl⟩
        clear c0
        cases bU
        · have e : x2 = x3 := by have h := HX3.out; simpa using h
          rw [e] at I103
          try rw [e]
          clear e
          have c0 := I103.box.cell 0
          simp only [tmC, List.getElem?_cons_zero, List.getElem?_cons_succ] at c0
          try go_wp2_with fail
          refine (HN.out e102).mono ?_
          rintro e' w' ⟨rfl, rfl⟩
          clear c0
          cases bN
          · have e : x3 = x4 := by have h := HX4.out; simpa using h
            rw [e] at I103
            try rw [e]
            clear e
            go_wp2_with fail
            go_loopw [3, 4] (fun q i wr => ∃ (j : Nat) (oz : Option Addr) (nz pz : Nat) (z : List Int), q = .slice oz nz pz ∧ i = .int .i64 j ∧ j ≤ m ∧ Hid (z ++ bytesTL (ks.drop j) = Z) ∧ PutI w w.heap.size (.slice none 0 0) w.heap.size (tmC k u n s (.slice ao m c)) (.slice oz nz pz) z wr) (fun _ i _ => m - (intOf i).toNat)
            case atStart => exact ⟨0, _, _, _, x4, rfl, rfl, Nat.zero_le _, Lib.hid (by rw [List.drop_zero]; exact HZ.out), I103⟩
            case round =>
              clear I103
              obtain ⟨j, oz, nz, pz, z, rfl, rfl, hj, HQ, IR⟩ := hrel
              obtain ⟨_, _, en⟩ := own_shape IR.row
              simp only [Value.slice.injEq] at en
              obtain ⟨-, rfl, -⟩ := en
              have c4 := IR.box.cell 4
              simp only [tmC, List.getElem?_cons_zero, List.getElem?_cons_succ] at c4
              by_cases hlt : j < m
              · have hjk : j < ks.length := by rw [HM.out]; exact hlt
                have hjz : (j : Int) < (m : Int) := by omega
                have hj0 : (0 : Int) ≤ (j : Int) := by omega
                have HSW := Lib.hid (IR.subL HSL.out (fun j hj e => by cases e))
                obtain ⟨b, o, csj, rfl, -, -, hra, htm⟩ := HSW.out.get hjk
                have HMEM := Lib.hid (List.getElem_mem hjk)
                have HDR := Lib.hid (List.drop_eq_getElem_cons hjk)
                generalize ks[j] = kj at htm HMEM HDR
                obtain ⟨aj, cj, rfl, -, -, -⟩ := htm.shape
                have HRA := Lib.hid hra
                have HTM := Lib.hid htm
                obtain ⟨z2, hz2⟩ : ∃ x, z ++ bytesT kj = x := ⟨_, rfl⟩
                have HZ2 := Lib.hid hz2
                have HQ2 := Lib.hid (show z2 ++ bytesTL (ks.drop (j + 1)) = Z from by have h := HQ.out; rw [HDR.out, bytesTL, ← List.append_assoc, hz2] at h; exact h)
                have HL2 := Lib.hid (show z2.length ≤ 1000000 from by have h1 := HL.out.1; rw [← HQ2.out, List.length_append] at h1; omega)
                clear hra htm hjk hz2
                go_wp2_with (first
    | (with_reducible refine wpList_load_any rfl 24 (.tmp 52) rfl b (o + j * 5) rfl (tmC kj.k kj.u kj.n kj.s (.slice aj kj.ks.length cj)) _ HRA.out Try.underlying24 rfl (tmC_info _ _ _ _ _) ?_))
                refine ((HIH.out kj HMEM.out).2 _ F wr (HIH.out kj HMEM.out).1 HTM.out (by have h := HL2.out; rw [← HZ2.out, List.length_append] at h; omega)).mono ?_
                rintro e' f1 ⟨oh, ph, rfl, hrow, hb⟩
                have IR1 := IR.below hb
                have HH := Lib.hid (Sl.of_owns hrow)
                generalize (bytesT kj).length = lk at HH ⊢
                clear hrow hb c4
                go_wp2_with fail
                refine (both_any _ _ z (bytesT kj) z2.length f1 (Sl.of_owns IR1.row) HH.out (by rw [← HZ2.out, List.length_append]) (by have := HL2.out; omega)).mono ?_
                rintro e' e106 ⟨o108, p109, rfl, hrow, hb⟩
                have I107 := IR1.anew (v' := .slice o108 z2.length p109) (ys := z2) (by have h := hrow; rw [HZ2.out] at h; exact h) hb
                clear hrow hb
                go_wp2_with fail
                go_roundw
                case rel => exact ⟨j + 1, _, _, _, z2, rfl, by go_num, by omega, HQ2, I107⟩
                case measure => simp [intOf]; omega
              · have hge : ¬ (j : Int) < (m : Int) := by omega
                have HE := Lib.hid (show z = Z from by rw [← HQ.out, List.drop_of_length_le (by rw [HM.out]; omega), bytesTL, List.append_nil])
                go_wp2_with fail
                go_ret
                exact ⟨oz, pz, by rw [HE.out]; rfl, by rw [← HE.out]; exact IR.row, IR.gw.nil⟩
          · have hb16 : 0 ≤ n ∧ n ≤ 65535 := by have h := HPN.out; simpa using h
            have hn64 : IntKind.u64.wrap n = n := by rw [IntKind.wrap_u64]; omega
            have HB16 := Lib.hid hb16
            clear hb16
            have c2 := I103.box.cell 2
            simp only [tmC, List.getElem?_cons_zero, List.getElem?_cons_succ] at c2
            go_wp2_with fail
            refine (high_any n 2 e102 (by have := HB16.out; omega) (by omega)).mono ?_
            rintro e' d110 ⟨oh, ph, rfl, hrow, hb⟩
            have I111 := I103.below hb
            have HH := Lib.hid (Sl.of_owns hrow)
            clear hrow hb c2 hn64
            go_wp2_with fail
            refine (both_any _ _ x3 (beF n 2) x4.length d110 (Sl.of_owns I111.row) HH.out (by rw [← (show x3 ++ beF n 2 = x4 from HX4.out), List.length_append]) (by have := HL.out.2.1; omega)).mono ?_
            rintro e' e112 ⟨o114, p115, rfl, hrow, hb⟩
            have I113 := I111.anew (v' := .slice o114 x4.length p115) (ys := x4) (by have h := hrow; rw [(show x3 ++ beF n 2 = x4 from HX4.out)] at h; exact h) hb
            clear hrow hb
            go_wp2_with fail
            go_loopw [3, 4] (fun q i wr => ∃ (j : Nat) (oz : Option Addr) (nz pz : Nat) (z : List Int), q = .slice oz nz pz ∧ i = .int .i64 j ∧ j ≤ m ∧ Hid (z ++ bytesTL (ks.drop j) = Z) ∧ PutI w w.heap.size (.slice none 0 0) w.heap.size (tmC k u n s (.slice ao m c)) (.slice oz nz pz) z wr) (fun _ i _ => m - (intOf i).toNat)
            case atStart => exact ⟨0, _, _, _, x4, rfl, rfl, Nat.zero_le _, Lib.hid (by rw [List.drop_zero]; exact HZ.out), I113⟩
            case round =>
              clear I113
              obtain ⟨j, oz, nz, pz, z, rfl, rfl, hj, HQ, IR⟩ := hrel
              obtain ⟨_, _, en⟩ := own_shape IR.row
              simp only [Value.slice.injEq] at en
              obtain ⟨-, rfl, -⟩ := en
              have c4 := IR.box.cell 4
              simp only [tmC, List.getElem?_cons_zero, List.getElem?_cons_succ] at c4
              by_cases hlt : j < m
              · have hjk : j < ks.length := by rw [HM.out]; exact hlt
                have hjz : (j : Int) < (m : Int) := by omega
                have hj0 : (0 : Int) ≤ (j : Int) := by omega
                have HSW := Lib.hid (IR.subL HSL.out (fun j hj e => by cases e))
                obtain ⟨b, o, csj, rfl, -, -, hra, htm⟩ := HSW.out.get hjk
                have HMEM := Lib.hid (List.getElem_mem hjk)
                have HDR := Lib.hid (List.drop_eq_getElem_cons hjk)
                generalize ks[j] = kj at htm HMEM HDR
                obtain ⟨aj, cj, rfl, -, -, -⟩ := htm.shape
                have HRA := Lib.hid hra
                have HTM := Lib.hid htm
                obtain ⟨z2, hz2⟩ : ∃ x, z ++ bytesT kj = x := ⟨_, rfl⟩
                have HZ2 := Lib.hid hz2
                have HQ2 := Lib.hid (show z2 ++ bytesTL (ks.drop (j + 1)) = Z from by have h := HQ.out; rw [HDR.out, bytesTL, ← List.append_assoc, hz2] at h; exact h)
                have HL2 := Lib.hid (show z2.length ≤ 1000000 from by have h1 := HL.out.1; rw [← HQ2.out, List.length_append] at h1; omega)
                clear hra htm hjk hz2
                go_wp2_with (first
    | (with_reducible refine wpList_load_any rfl 24 (.tmp 52) rfl b (o + j * 5) rfl (tmC kj.k kj.u kj.n kj.s (.slice aj kj.ks.length cj)) _ HRA.out Try.underlying24 rfl (tmC_info _ _ _ _ _) ?_))
                refine ((HIH.out kj HMEM.out).2 _ F wr (HIH.out kj HMEM.out).1 HTM.out (by have h := HL2.out; rw [← HZ2.out, List.length_append] at h; omega)).mono ?_
                rintro e' f1 ⟨oh, ph, rfl, hrow, hb⟩
                have IR1 := IR.below hb
                have HH := Lib.hid (Sl.of_owns hrow)
                generalize (bytesT kj).length = lk at HH ⊢
                clear hrow hb c4
                go_wp2_with fail
                refine (both_any _ _ z (bytesT kj) z2.length f1 (Sl.of_owns IR1.row) HH.out (by rw [← HZ2.out, List.length_append]) (by have := HL2.out; omega)).mono ?_
                rintro e' e116 ⟨o118, p119, rfl, hrow, hb⟩
                have I117 := IR1.anew (v' := .slice o118 z2.length p119) (ys := z2) (by have h := hrow; rw [HZ2.out] at h; exact h) hb
                clear hrow hb
                go_wp2_with fail
                go_roundw
                case rel => exact ⟨j + 1, _, _, _, z2, rfl, by go_num, by omega, HQ2, I117⟩
                case measure => simp [intOf]; omega
              · have hge : ¬ (j : Int) < (m : Int) := by omega
                have HE := Lib.hid (show z = Z from by rw [← HQ.out, List.drop_of_length_le (by rw [HM.out]; omega), bytesTL, List.append_nil])
                go_wp2_with fail
                go_ret
                exact ⟨oz, pz, by rw [HE.out]; rfl, by rw [← HE.out]; exact IR.row, IR.gw.nil⟩
        · have hu8 : IntKind.u8.wrap u = u := wrap_u8 (by have h := HPU.out; simp at h; omega)
          have c1 := I103.box.cell 1
          simp only [tmC, List.getElem?_cons_zero, List.getElem?_cons_succ] at c1
          go_wp2_with (first
    | ((with_reducible refine wpList_slice_b1 e102 rfl (.tmp 29) rfl (c := u) rfl ?_); intro d120 hsl hbel; have S124 := Lib.hid hsl; have I122 := I103.below hbel; clear hsl hbel)
    | (at_builtin; (refine wpList_append_B (.tmp 26) (.tmp 30) rfl rfl I122 rfl rfl S124.out x3 (by have h := HX3.out; simpa using h) HL.out.2.2.1 ?_); intro o125 p126 d121 I123; have d0 := I123.box.cell 0; simp only [tmC, List.getElem?_cons_zero, List.getElem?_cons_succ] at d0))
          clear c1 hu8
          try clear d0
          have c0 := I123.box.cell 0
          simp only [tmC, List.getElem?_cons_zero, List.getElem?_cons_succ] at c0
          try go_wp2_with fail
          refine (HN.out d121).mono ?_
          rintro e' w' ⟨rfl, rfl⟩
          clear c0
          cases bN
          · have e : x3 = x4 := by have h := HX4.out; simpa using h
            rw [e] at I123
            try rw [e]
            clear e
            go_wp2_with fail
            go_loopw [3, 4] (fun q i wr => ∃ (j : Nat) (oz : Option Addr) (nz pz : Nat) (z : List Int), q = .slice oz nz pz ∧ i = .int .i64 j ∧ j ≤ m ∧ Hid (z ++ bytesTL (ks.drop j) = Z) ∧ PutI w w.heap.size (.slice none 0 0) w.heap.size (tmC k u n s (.slice ao m c)) (.slice oz nz pz) z wr) (fun _ i _ => m - (intOf i).toNat)
            case atStart => exact ⟨0, _, _, _, x4, rfl, rfl, Nat.zero_le _, Lib.hid (by rw [List.drop_zero]; exact HZ.out), I123⟩
            case round =>
              clear I123
              obtain ⟨j, oz, nz, pz, z, rfl, rfl, hj, HQ, IR⟩ := hrel
              obtain ⟨_, _, en⟩ := own_shape IR.row
              simp only [Value.slice.injEq] at en
              obtain ⟨-, rfl, -⟩ := en
              have c4 := IR.box.cell 4
              simp only [tmC, List.getElem?_cons_zero, List.getElem?_cons_succ] at c4
              by_cases hlt : j < m
              · have hjk : j < ks.length := by rw [HM.out]; exact hlt
                have hjz : (j : Int) < (m : Int) := by omega
                have hj0 : (0 : Int) ≤ (j : Int) := by omega
                have HSW := Lib.hid (IR.subL HSL.out (fun j hj e => by cases e))
                obtain ⟨b, o, csj, rfl, -, -, hra, htm⟩ := HSW.out.get hjk
                have HMEM := Lib.hid (List.getElem_mem hjk)
                have HDR := Lib.hid (List.drop_eq_getElem_cons hjk)
                generalize ks[j] = kj at htm HMEM HDR
                obtain ⟨aj, cj, rfl, -, -, -⟩ := htm.shape
                have HRA := Lib.hid hra
                have HTM := Lib.hid htm
                obtain ⟨z2, hz2⟩ : ∃ x, z ++ bytesT kj = x := ⟨_, rfl⟩
                have HZ2 := Lib.hid hz2
                have HQ2 := Lib.hid (show z2 ++ bytesTL (ks.drop (j + 1)) = Z from by have h := HQ.out; rw [HDR.out, bytesTL, ← List.append_assoc, hz2] at h; exact h)
                have HL2 := Lib.hid (show z2.length ≤ 1000000 from by have h1 := HL.out.1; rw [← HQ2.out, List.length_append] at h1; omega)
                clear hra htm hjk hz2
                go_wp2_with (first
    | (with_reducible refine wpList_load_any rfl 24 (.tmp 52) rfl b (o + j * 5) rfl (tmC kj.k kj.u kj.n kj.s (.slice aj kj.ks.length cj)) _ HRA.out Try.underlying24 rfl (tmC_info _ _ _ _ _) ?_))
                refine ((HIH.out kj HMEM.out).2 _ F wr (HIH.out kj HMEM.out).1 HTM.out (by have h := HL2.out; rw [← HZ2.out, List.length_append] at h; omega)).mono ?_
                rintro e' f1 ⟨oh, ph, rfl, hrow, hb⟩
                have IR1 := IR.below hb
                have HH := Lib.hid (Sl.of_owns hrow)
                generalize (bytesT kj).length = lk at HH ⊢
                clear hrow hb c4
                go_wp2_with fail
                refine (both_any _ _ z (bytesT kj) z2.length f1 (Sl.of_owns IR1.row) HH.out (by rw [← HZ2.out, List.length_append]) (by have := HL2.out; omega)).mono ?_
                rintro e' e127 ⟨o129, p130, rfl, hrow, hb⟩
                have I128 := IR1.anew (v' := .slice o129 z2.length p130) (ys := z2) (by have h := hrow; rw [HZ2.out] at h; exact h) hb
                clear hrow hb
                go_wp2_with fail
                go_roundw
                case rel => exact ⟨j + 1, _, _, _, z2, rfl, by go_num, by omega, HQ2, I128⟩
                case measure => simp [intOf]; omega
              · have hge : ¬ (j : Int) < (m : Int) := by omega
                have HE := Lib.hid (show z = Z from by rw [← HQ.out, List.drop_of_length_le (by rw [HM.out]; omega), bytesTL, List.append_nil])
                go_wp2_with fail
                go_ret
                exact ⟨oz, pz, by rw [HE.out]; rfl, by rw [← HE.out]; exact IR.row, IR.gw.nil⟩
          · have hb16 : 0 ≤ n ∧ n ≤ 65535 := by have h := HPN.out; simpa using h
            have hn64 : IntKind.u64.wrap n = n := by rw [IntKind.wrap_u64]; omega
            have HB16 := Lib.hid hb16
            clear hb16
            have c2 := I123.box.cell 2
            simp only [tmC, List.getElem?_cons_zero, List.getElem?_cons_succ] at c2
            go_wp2_with fail
            refine (high_any n 2 d121 (by have := HB16.out; omega) (by omega)).mono ?_
            rintro e' d131 ⟨oh, ph, rfl, hrow, hb⟩
            have I132 := I123.below hb
            have HH := Lib.hid (Sl.of_owns hrow)
            clear hrow hb c2 hn64
            go_wp2_with fail
            refine (both_any _ _ x3 (beF n 2) x4.length d131 (Sl.of_owns I132.row) HH.out (by rw [← (show x3 ++ beF n 2 = x4 from HX4.out), List.length_append]) (by have := HL.out.2.1; omega)).mono ?_
            rintro e' e133 ⟨o135, p136, rfl, hrow, hb⟩
            have I134 := I132.anew (v' := .slice o135 x4.length p136) (ys := x4) (by have h := hrow; rw [(show x3 ++ beF n 2 = x4 from HX4.out)] at h; exact h) hb
            clear hrow hb
            go_wp2_with fail
            go_loopw [3, 4] (fun q i wr => ∃ (j : Nat) (oz : Option Addr) (nz pz : Nat) (z : List Int), q = .slice oz nz pz ∧ i = .int .i64 j ∧ j ≤ m ∧ Hid (z ++ bytesTL (ks.drop j) = Z) ∧ PutI w w.heap.size (.slice none 0 0) w.heap.size (tmC k u n s (.slice ao m c)) (.slice oz nz pz) z wr) (fun _ i _ => m - (intOf i).toNat)
            case atStart => exact ⟨0, _, _, _, x4, rfl, rfl, Nat.zero_le _, Lib.hid (by rw [List.drop_zero]; exact HZ.out), I134⟩
            case round =>
              clear I134
              obtain ⟨j, oz, nz, pz, z, rfl, rfl, hj, HQ, IR⟩ := hrel
              obtain ⟨_, _, en⟩ := own_shape IR.row
              simp only [Value.slice.injEq] at en
              obtain ⟨-, rfl, -⟩ := en
              have c4 := IR.box.cell 4
              simp only [tmC, List.getElem?_cons_zero, List.getElem?_cons_succ] at c4
              by_cases hlt : j < m
              · have hjk : j < ks.length := by rw [HM.out]; exact hlt
                have hjz : (j : Int) < (m : Int) := by omega
                have hj0 : (0 : Int) ≤ (j : Int) := by omega
                have HSW := Lib.hid (IR.subL HSL.out (fun j hj e => by cases e))
                obtain ⟨b, o, csj, rfl, -, -, hra, htm⟩ := HSW.out.get hjk
                have HMEM := Lib.hid (List.getElem_mem hjk)
                have HDR := Lib.hid (List.drop_eq_getElem_cons hjk)
                generalize ks[j] = kj at htm HMEM HDR
                obtain ⟨aj, cj, rfl, -, -, -⟩ := htm.shape
                have HRA := Lib.hid hra
                have HTM := Lib.hid htm
                obtain ⟨z2, hz2⟩ : ∃ x, z ++ bytesT kj = x := ⟨_, rfl⟩
                have HZ2 := Lib.hid hz2
                have HQ2 := Lib.hid (show z2 ++ bytesTL (ks.drop (j + 1)) = Z from by have h := HQ.out; rw [HDR.out, bytesTL, ← List.append_assoc, hz2] at h; exact h)
                have HL2 := Lib.hid (show z2.length ≤ 1000000 from by have h1 := HL.out.1; rw [← HQ2.out, List.length_append] at h1; omega)
                clear hra htm hjk hz2
                go_wp2_with (first
    | (with_reducible refine wpList_load_any rfl 24 (.tmp 52) rfl b (o + j * 5) rfl (tmC kj.k kj.u kj.n kj.s (.slice aj kj.ks.length cj)) _ HRA.out Try.underlying24 rfl (tmC_info _ _ _ _ _) ?_))
                refine ((HIH.out kj HMEM.out).2 _ F wr (HIH.out kj HMEM.out).1 HTM.out (by have h := HL2.out; rw [← HZ2.out, List.length_append] at h; omega)).mono ?_
                rintro e' f1 ⟨oh, ph, rfl, hrow, hb⟩
                have IR1 := IR.below hb
                have HH := Lib.hid (Sl.of_owns hrow)
                generalize (bytesT kj).length = lk at HH ⊢
                clear hrow hb c4
                go_wp2_with fail
                refine (both_any _ _ z (bytesT kj) z2.length f1 (Sl.of_owns IR1.row) HH.out (by rw [← HZ2.out, List.length_append]) (by have := HL2.out; omega)).mono ?_
                rintro e' e137 ⟨o139, p140, rfl, hrow, hb⟩
                have I138 := IR1.anew (v' := .slice o139 z2.length p140) (ys := z2) (by have h := hrow; rw [HZ2.out] at h; exact h) hb
                clear hrow hb
                go_wp2_with fail
                go_roundw
                case rel => exact ⟨j + 1, _, _, _, z2, rfl, by go_num, by omega, HQ2, I138⟩
                case measure => simp [intOf]; omega
              · have hge : ¬ (j : Int) < (m : Int) := by omega
                have HE := Lib.hid (show z = Z from by rw [← HQ.out, List.drop_of_length_le (by rw [HM.out]; omega), bytesTL, List.append_nil])
                go_wp2_with fail
                go_ret
                exact ⟨oz, pz, by rw [HE.out]; rfl, by rw [← HE.out]; exact IR.row, IR.gw.nil⟩
    · skip
      obtain ⟨p144, h141, hcv, hc1, hc2, hbm, hbel⟩ := conv_string (P := Try.prog) v36 9 25 5 s Try.underlying9 Try.underlying25 Try.underlying5 HSM.out
      try simp only [Act.put]
      go_wp2_with fail
      have N146 := Lib.hid (fun q hq => show q ≠ v36.heap.size from Nat.ne_of_lt (HV37.row.lt q hq).2)
      have I142 := HV37.below hbel
      have V145 := Lib.hid (show Sl h141 (.slice (some ⟨v36.heap.size, 0, none⟩) s.size p144) (ofK .u8 (ints s)) from by have h := hbm.sl s.size p144 (by rw [List.length_append, length_ofK, ints_length]; omega) hc1 hc2; rw [List.take_append_of_le_length (by rw [length_ofK, ints_length]; omega), List.take_of_length_le (by rw [length_ofK, ints_length]; omega)] at h; exact h)
      clear hcv hc1 hc2 hbm hbel
      refine QK.normal ⟨(I142.box.cell 3), ?_⟩
      refine' wpAnyH_one 5 (by kernel_rfl) ?_ ?_; rotate_left; (simp only [List.getElem?_toArray, List.getElem?_cons_zero, List.getElem?_cons_succ]; rfl)
      refine wpList_slice_b1 h141 rfl (.tmp 16) rfl (c := s.size) rfl ?_
      intro h147 hsl hbel
      have S149 := Lib.hid hsl
      have I148 := I142.below hbel
      have V150 := Lib.hid (V145.out.below hbel (Nat.le_refl _))
      clear hsl hbel
      simp only [Act.put, List.setIfInBounds_toArray, List.set_cons_zero, List.set_cons_succ]
      refine QK.normal ⟨(I148.box.cell 3), ?_⟩
      refine' wpAnyH_one 6 (by kernel_rfl) ?_ ?_; rotate_left; (simp only [List.getElem?_toArray, List.getElem?_cons_zero, List.getElem?_cons_succ]; rfl)
      at_builtin
      refine wpList_append_B2 (.tmp 12) (.tmp 17) rfl rfl I148 rfl rfl S149.out y1 HY1.out LY1.out ?_
      intro o153 p154 h151 I152 hg
      have V155 := Lib.hid (V150.out.keep hg.ch (fun q hq e => by have h1 := N146.out q e; injection hq with hq; exact h1 hq.symm))
      clear hg
      simp only [Act.put, List.setIfInBounds_toArray, List.set_cons_zero, List.set_cons_succ]
      refine QK.normal ⟨(I152.box.cell 3), ?_⟩
      refine' wpAnyH_one 10 (by kernel_rfl) ?_ ?_; rotate_left; (simp only [List.getElem?_toArray, List.getElem?_cons_zero, List.getElem?_cons_succ]; rfl)
      try simp only [Act.put]
      go_wp2_with fail
      refine (both_any _ _ y1 (ints s) x2.length h151 (Sl.of_owns I152.row) V155.out (by rw [← YX.out, List.length_append]) (by have := HL.out.2.2.2; omega)).mono ?_
      rintro e' e156 ⟨o158, p159, rfl, hrow, hb⟩
      have I157 := I152.anew (v' := .slice o158 x2.length p159) (ys := x2) (by have h := hrow; rw [YX.out] at h; exact h) hb
      clear hrow hb
      go_wp2_with fail
      refine QK.normal ⟨(I157.box.cell 3), ?_⟩
      refine' wpAnyH_one 11 (by kernel_rfl) ?_ ?_; rotate_left; (simp only [List.getElem?_toArray, List.getElem?_cons_zero, List.getElem?_cons_succ]; rfl)
      try simp only [Act.put]
      go_wp2_with fail
      refine QK.normal ⟨(I157.box.cell 3), ?_⟩
      refine wpAnyH_done (by kernel_rfl) ?_ _
      refine NoPanic.normal ?_
      have c0 := I157.box.cell 0
      simp only [tmC, List.getElem?_cons_zero, List.getElem?_cons_succ] at c0
      go_wp2_with fail
      refine (HU.out e156).mono ?_
      rintro e' w' ⟨rfl, rfl⟩
      clear c0
      cases bU
      · have e : x2 = x3 := by have h := HX3.out; simpa using h
        rw [e] at I157
        try rw [e]
        clear e
        have c0 := I157.box.cell 0
        simp only [tmC, List.getElem?_cons_zero, List.getElem?_cons_succ] at c0
        try go_wp2_with fail
        refine (HN.out e156).mono ?_
        rintro e' w' ⟨rfl, rfl⟩
        clear c0
        cases bN
        · have e : x3 = x4 := by have h := HX4.out; simpa using h
          rw [e] at I157
          try rw [e]
          clear e
          go_wp2_with fail
          go_loopw [3, 4] (fun q i wr => ∃ (j : Nat) (oz : Option Addr) (nz pz : Nat) (z : List Int), q = .slice oz nz pz ∧ i = .int .i64 j ∧ j ≤ m ∧ Hid (z ++ bytesTL (ks.drop j) = Z) ∧ PutI w w.heap.size (.slice none 0 0) w.heap.size (tmC k u n s (.slice ao m c)) (.slice oz nz pz) z wr) (fun _ i _ => m - (intOf i).toNat)
          case atStart => exact ⟨0, _, _, _, x4, rfl, rfl, Nat.zero_le _, Lib.hid (by rw [List.drop_zero]; exact HZ.out), I157⟩
          case round =>
            clear I157
            obtain ⟨j, oz, nz, pz, z, rfl, rfl, hj, HQ, IR⟩ := hrel
            obtain ⟨_, _, en⟩ := own_shape IR.row
            simp only [Value.slice.injEq] at en
            obtain ⟨-, rfl, -⟩ := en
            have c4 := IR.box.cell 4
            simp only [tmC, List.getElem?_cons_zero, List.getElem?_cons_succ] at c4
            by_cases hlt : j < m
            · have hjk : j < ks.length := by rw [HM.out]; exact hlt
              have hjz : (j : Int) < (m : Int) := by omega
              have hj0 : (0 : Int) ≤ (j : Int) := by omega
              have HSW := Lib.hid (IR.subL HSL.out (fun j hj e => by cases e))
              obtain ⟨b, o, csj, rfl, -, -, hra, htm⟩ := HSW.out.get hjk
              have HMEM := Lib.hid (List.getElem_mem hjk)
              have HDR := Lib.hid (List.drop_eq_getElem_cons hjk)
              generalize ks[j] = kj at htm HMEM HDR
              obtain ⟨aj, cj, rfl, -, -, -⟩ := htm.shape
              have HRA := Lib.hid hra
              have HTM := Lib.hid htm
              obtain ⟨z2, hz2⟩ : ∃ x, z ++ bytesT kj = x := ⟨_, rfl⟩
              have HZ2 := Lib.hid hz2
              have HQ2 := Lib.hid (show z2 ++ bytesTL (ks.drop (j + 1)) = Z from by have h := HQ.out; rw [HDR.out, bytesTL, ← List.append_assoc, hz2] at h; exact h)
              have HL2 := Lib.hid (show z2.length ≤ 1000000 from by have h1 := HL.out.1; rw [← HQ2.out, List.length_append] at h1; omega)
              clear hra htm hjk hz2
              go_wp2_with (first
    | (with_reducible refine wpList_load_any rfl 24 (.tmp 52) rfl b (o + j * 5) rfl (tmC kj.k kj.u kj.n kj.s (.slice aj kj.ks.length cj)) _ HRA.out Try.underlying24 rfl (tmC_info _ _ _ _ _) ?_))
              refine ((HIH.out kj HMEM.out).2 _ F wr (HIH.out kj HMEM.out).1 HTM.out (by have h := HL2.out; rw [← HZ2.out, List.length_append] at h; omega)).mono ?_
              rintro e' f1 ⟨oh, ph, rfl, hrow, hb⟩
              have IR1 := IR.below hb
              have HH := Lib.hid (Sl.of_owns hrow)
              generalize (bytesT kj).length = lk at HH ⊢
              clear hrow hb c4
              go_wp2_with fail
              refine (both_any _ _ z (bytesT kj) z2.length f1 (Sl.of_owns IR1.row) HH.out (by rw [← HZ2.out, List.length_append]) (by have := HL2.out; omega)).mono ?_
              rintro e' e160 ⟨o162, p163, rfl, hrow, hb⟩
              have I161 := IR1.anew (v' := .slice o162 z2.length p163) (ys := z2) (by have h := hrow; rw [HZ2.out] at h; exact h) hb
              clear hrow hb
              go_wp2_with fail
              go_roundw
              case rel => exact ⟨j + 1, _, _, _, z2, rfl, by go_num, by omega, HQ2, I161⟩
              case measure => simp [intOf]; omega
            · have hge : ¬ (j : Int) < (m : Int) := by omega
              have HE := Lib.hid (show z = Z from by rw [← HQ.out, List.drop_of_length_le (by rw [HM.out]; omega), bytesTL, List.append_nil])
              go_wp2_with fail
              go_ret
              exact ⟨oz, pz, by rw [HE.out]; rfl, by rw [← HE.out]; exact IR.row, IR.gw.nil⟩
        · have hb16 : 0 ≤ n ∧ n ≤ 65535 := by have h := HPN.out; simpa using h
          have hn64 : IntKind.u64.wrap n = n := by rw [IntKind.wrap_u64]; omega
          have HB16 := Lib.hid hb16
          clear hb16
          have c2 := I157.box.cell 2
          simp only [tmC, List.getElem?_cons_zero, List.getElem?_cons_succ] at c2
          go_wp2_with fail
          refine (high_any n 2 e156 (by have := HB16.out; omega) (by omega)).mono ?_
          rintro e' d164 ⟨oh, ph, rfl, hrow, hb⟩
          have I165 := I157.below hb
          have HH := Lib.hid (Sl.of_owns hrow)
          clear hrow hb c2 hn64
          go_wp2_with fail
          refine (both_any _ _ x3 (beF n 2) x4.length d164 (Sl.of_owns I165.row) HH.out (by rw [← (show x3 ++ beF n 2 = x4 from HX4.out), List.length_append]) (by have := HL.out.2.1; omega)).mono ?_
          rintro e' e166 ⟨o168, p169, rfl, hrow, hb⟩
          have I167 := I165.anew (v' := .slice o168 x4.length p169) (ys := x4) (by have h := hrow; rw [(show x3 ++ beF n 2 = x4 from HX4.out)] at h; exact h) hb
          clear hrow hb
          go_wp2_with fail
          go_loopw [3, 4] (fun q i wr => ∃ (j : Nat) (oz : Option Addr) (nz pz : Nat) (z : List Int), q = .slice oz nz pz ∧ i = .int .i64 j ∧ j ≤ m ∧ Hid (z ++ bytesTL (ks.drop j) = Z) ∧ PutI w w.heap.size (.slice none 0 0) w.heap.size (tmC k u n s (.slice ao m c)) (.slice oz nz pz) z wr) (fun _ i _ => m - (intOf i).toNat)
          case atStart => exact ⟨0, _, _, _, x4, rfl, rfl, Nat.zero_le _, Lib.hid (by rw [List.drop_zero]; exact HZ.out), I167⟩
          case round =>
            clear I167
            obtain ⟨j, oz, nz, pz, z, rfl, rfl, hj, HQ, IR⟩ := hrel
            obtain ⟨_, _, en⟩ := own_shape IR.row
            simp only [Value.slice.injEq] at en
            obtain ⟨-, rfl, -⟩ := en
            have c4 := IR.box.cell 4
            simp only [tmC, List.getElem?_cons_zero, List.getElem?_cons_succ] at c4
            by_cases hlt : j < m
            · have hjk : j < ks.length := by rw [HM.out]; exact hlt
              have hjz : (j : Int) < (m : Int) := by omega
              have hj0 : (0 : Int) ≤ (j : Int) := by omega
              have HSW := Lib.hid (IR.subL HSL.out (fun j hj e => by cases e))
              obtain ⟨b, o, csj, rfl, -, -, hra, htm⟩ := HSW.out.get hjk
              have HMEM := Lib.hid (List.getElem_mem hjk)
              have HDR := Lib.hid (List.drop_eq_getElem_cons hjk)
              generalize ks[j] = kj at htm HMEM HDR
              obtain ⟨aj, cj, rfl, -, -, -⟩ := htm.shape
              have HRA := Lib.hid hra
              have HTM := Lib.hid htm
              obtain ⟨z2, hz2⟩ : ∃ x, z ++ bytesT kj = x := ⟨_, rfl⟩
              have HZ2 := Lib.hid hz2
              have HQ2 := Lib.hid (show z2 ++ bytesTL (ks.drop (j + 1)) = Z from by have h := HQ.out; rw [HDR.out, bytesTL, ← List.append_assoc, hz2] at h; exact h)
              have HL2 := Lib.hid (show z2.length ≤ 1000000 from by have h1 := HL.out.1; rw [← HQ2.out, List.length_append] at h1; omega)
              clear hra htm hjk hz2
              go_wp2_with (first
    | (with_reducible refine wpList_load_any rfl 24 (.tmp 52) rfl b (o + j * 5) rfl (tmC kj.k kj.u kj.n kj.s (.slice aj kj.ks.length cj)) _ HRA.out Try.underlying24 rfl (tmC_info _ _ _ _ _) ?_))
              refine ((HIH.out kj HMEM.out).2 _ F wr (HIH.out kj HMEM.out).1 HTM.out (by have h := HL2.out; rw [← HZ2.out, List.length_append] at h; omega)).mono ?_
              rintro e' f1 ⟨oh, ph, rfl, hrow, hb⟩
              have IR1 := IR.below hb
              have HH := Lib.hid (Sl.of_owns hrow)
              generalize (bytesT kj).length = lk at HH ⊢
              clear hrow hb c4
              go_wp2_with fail
              refine (both_any _ _ z (bytesT kj) z2.length f1 (Sl.of_owns IR1.row) HH.out (by rw [← HZ2.out, List.length_append]) (by have := HL2.out; omega)).mono ?_
              rintro e' e170 ⟨o172, p173, rfl, hrow, hb⟩
              have I171 := IR1.anew (v' := .slice o172 z2.length p173) (ys := z2) (by have h := hrow; rw [HZ2.out] at h; exact h) hb
              clear hrow hb
              go_wp2_with fail
              go_roundw
              case rel => exact ⟨j + 1, _, _, _, z2, rfl, by go_num, by omega, HQ2, I171⟩
              case measure => simp [intOf]; omega
            · have hge : ¬ (j : Int) < (m : Int) := by omega
              have HE := Lib.hid (show z = Z from by rw [← HQ.out, List.drop_of_length_le (by rw [HM.out]; omega), bytesTL, List.append_nil])
              go_wp2_with fail
              go_ret
              exact ⟨oz, pz, by rw [HE.out]; rfl, by rw [← HE.out]; exact IR.row, IR.gw.nil⟩
      · have hu8 : IntKind.u8.wrap u = u := wrap_u8 (by have h := HPU.out; simp at h; omega)
        have c1 := I157.box.cell 1
        simp only [tmC, List.getElem?_cons_zero, List.getElem?_cons_succ] at c1
        go_wp2_with (first
    | ((with_reducible refine wpList_slice_b1 e156 rfl (.tmp 29) rfl (c := u) rfl ?_); intro d174 hsl hbel; have S178 := Lib.hid hsl; have I176 := I157.below hbel; clear hsl hbel)
    | (at_builtin; (refine wpList_append_B (.tmp 26) (.tmp 30) rfl rfl I176 rfl rfl S178.out x3 (by have h := HX3.out; simpa using h) HL.out.2.2.1 ?_); intro o179 p180 d175 I177; have d0 := I177.box.cell 0; simp only [tmC, List.getElem?_cons_zero, List.getElem?_cons_succ] at d0))
        clear c1 hu8
        try clear d0
        have c0 := I177.box.cell 0
        simp only [tmC, List.getElem?_cons_zero, List.getElem?_cons_succ] at c0
        try go_wp2_with fail
        refine (HN.out d175).mono ?_
        rintro e' w' ⟨rfl, rfl⟩
        clear c0
        cases bN
        · have e : x3 = x4 := by have h := HX4.out; simpa using h
          rw [e] at I177
          try rw [e]
          clear e
          go_wp2_with fail
          go_loopw [3, 4] (fun q i wr => ∃ (j : Nat) (oz : Option Addr) (nz pz : Nat) (z : List Int), q = .slice oz nz pz ∧ i = .int .i64 j ∧ j ≤ m ∧ Hid (z ++ bytesTL (ks.drop j) = Z) ∧ PutI w w.heap.size (.slice none 0 0) w.heap.size (tmC k u n s (.slice ao m c)) (.slice oz nz pz) z wr) (fun _ i _ => m - (intOf i).toNat)
          case atStart => exact ⟨0, _, _, _, x4, rfl, rfl, Nat.zero_le _, Lib.hid (by rw [List.drop_zero]; exact HZ.out), I177⟩
          case round =>
            clear I177
            obtain ⟨j, oz, nz, pz, z, rfl, rfl, hj, HQ, IR⟩ := hrel
            obtain ⟨_, _, en⟩ := own_shape IR.row
            simp only [Value.slice.injEq] at en
            obtain ⟨-, rfl, -⟩ := en
            have c4 := IR.box.cell 4
            simp only [tmC, List.getElem?_cons_zero, List.getElem?_cons_succ] at c4
            by_cases hlt : j < m
            · have hjk : j < ks.length := by rw [HM.out]; exact hlt
              have hjz : (j : Int) < (m : Int) := by omega
              have hj0 : (0 : Int) ≤ (j : Int) := by omega
              have HSW := Lib.hid (IR.subL HSL.out (fun j hj e => by cases e))
              obtain ⟨b, o, csj, rfl, -, -, hra, htm⟩ := HSW.out.get hjk
              have HMEM := Lib.hid (List.getElem_mem hjk)
              have HDR := Lib.hid (List.drop_eq_getElem_cons hjk)
              generalize ks[j] = kj at htm HMEM HDR
              obtain ⟨aj, cj, rfl, -, -, -⟩ := htm.shape
              have HRA := Lib.hid hra
              have HTM := Lib.hid htm
              obtain ⟨z2, hz2⟩ : ∃ x, z ++ bytesT kj = x := ⟨_, rfl⟩
              have HZ2 := Lib.hid hz2
              have HQ2 := Lib.hid (show z2 ++ bytesTL (ks.drop (j + 1)) = Z from by have h := HQ.out; rw [HDR.out, bytesTL, ← List.append_assoc, hz2] at h; exact h)
              have HL2 := Lib.hid (show z2.length ≤ 1000000 from by have h1 := HL.out.1; rw [← HQ2.out, List.length_append] at h1; omega)
              clear hra htm hjk hz2
              go_wp2_with (first
    | (with_reducible refine wpList_load_any rfl 24 (.tmp 52) rfl b (o + j * 5) rfl (tmC kj.k kj.u kj.n kj.s (.slice aj kj.ks.length cj)) _ HRA.out Try.underlying24 rfl (tmC_info _ _ _ _ _) ?_))
              refine ((HIH.out kj HMEM.out).2 _ F wr (HIH.out kj HMEM.out).1 HTM.out (by have h := HL2.out; rw [← HZ2.out, List.length_append] at h; omega)).mono ?_
              rintro e' f1 ⟨oh, ph, rfl, hrow, hb⟩
              have IR1 := IR.below hb
              have HH := Lib.hid (Sl.of_owns hrow)
              generalize (bytesT kj).length = lk at HH ⊢
              clear hrow hb c4
              go_wp2_with fail
              refine (both_any _ _ z (bytesT kj) z2.length f1 (Sl.of_owns IR1.row) HH.out (by rw [← HZ2.out, List.length_append]) (by have := HL2.out; omega)).mono ?_
              rintro e' e181 ⟨o183, p184, rfl, hrow, hb⟩
              have I182 := IR1.anew (v' := .slice o183 z2.length p184) (ys := z2) (by have h := hrow; rw [HZ2.out] at h; exact h) hb
              clear hrow hb
              go_wp2_with fail
              go_roundw
              case rel => exact ⟨j + 1, _, _, _, z2, rfl, by go_num, by omega, HQ2, I182⟩
              case measure => simp [intOf]; omega
            · have hge : ¬ (j : Int) < (m : Int) := by omega
              have HE := Lib.hid (show z = Z from by rw [← HQ.out, List.drop_of_length_le (by rw [HM.out]; omega), bytesTL, List.append_nil])
              go_wp2_with fail
              go_ret
              exact ⟨oz, pz, by rw [HE.out]; rfl, by rw [← HE.out]; exact IR.row, IR.gw.nil⟩
        · have hb16 : 0 ≤ n ∧ n ≤ 65535 := by have h := HPN.out; simpa using h
          have hn64 : IntKind.u64.wrap n = n := by rw [IntKind.wrap_u64]; omega
          have HB16 := Lib.hid hb16
          clear hb16
          have c2 := I177.box.cell 2
          simp only [tmC, List.getElem?_cons_zero, List.getElem?_cons_succ] at c2
          go_wp2_with fail
          refine (high_any n 2 d175 (by have := HB16.out; omega) (by omega)).mono ?_
          rintro e' d185 ⟨oh, ph, rfl, hrow, hb⟩
          have I186 := I177.below hb
          have HH := Lib.hid (Sl.of_owns hrow)
          clear hrow hb c2 hn64
          go_wp2_with fail
          refine (both_any _ _ x3 (beF n 2) x4.length d185 (Sl.of_owns I186.row) HH.out (by rw [← (show x3 ++ beF n 2 = x4 from HX4.out), List.length_append]) (by have := HL.out.2.1; omega)).mono ?_
          rintro e' e187 ⟨o189, p190, rfl, hrow, hb⟩
          have I188 := I186.anew (v' := .slice o189 x4.length p190) (ys := x4) (by have h := hrow; rw [(show x3 ++ beF n 2 = x4 from HX4.out)] at h; exact h) hb
          clear hrow hb
          go_wp2_with fail
          go_loopw [3, 4] (fun q i wr => ∃ (j : Nat) (oz : Option Addr) (nz pz : Nat) (z : List Int), q = .slice oz nz pz ∧ i = .int .i64 j ∧ j ≤ m ∧ Hid (z ++ bytesTL (ks.drop j) = Z) ∧ PutI w w.heap.size (.slice none 0 0) w.heap.size (tmC k u n s (.slice ao m c)) (.slice oz nz pz) z wr) (fun _ i _ => m - (intOf i).toNat)
          case atStart => exact ⟨0, _, _, _, x4, rfl, rfl, Nat.zero_le _, Lib.hid (by rw [List.drop_zero]; exact HZ.out), I188⟩
          case round =>
            clear I188
            obtain ⟨j, oz, nz, pz, z, rfl, rfl, hj, HQ, IR⟩ := hrel
            obtain ⟨_, _, en⟩ := own_shape IR.row
            simp only [Value.slice.injEq] at en
            obtain ⟨-, rfl, -⟩ := en
            have c4 := IR.box.cell 4
            simp only [tmC, List.getElem?_cons_zero, List.getElem?_cons_succ] at c4
            by_cases hlt : j < m
            · have hjk : j < ks.length := by rw [HM.out]; exact hlt
              have hjz : (j : Int) < (m : Int) := by omega
              have hj0 : (0 : Int) ≤ (j : Int) := by omega
              have HSW := Lib.hid (IR.subL HSL.out (fun j hj e => by cases e))
              obtain ⟨b, o, csj, rfl, -, -, hra, htm⟩ := HSW.out.get hjk
              have HMEM := Lib.hid (List.getElem_mem hjk)
              have HDR := Lib.hid (List.drop_eq_getElem_cons hjk)
              generalize ks[j] = kj at htm HMEM HDR
              obtain ⟨aj, cj, rfl, -, -, -⟩ := htm.shape
              have HRA := Lib.hid hra
              have HTM := Lib.hid htm
              obtain ⟨z2, hz2⟩ : ∃ x, z ++ bytesT kj = x := ⟨_, rfl⟩
              have HZ2 := Lib.hid hz2
              have HQ2 := Lib.hid (show z2 ++ bytesTL (ks.drop (j + 1)) = Z from by have h := HQ.out; rw [HDR.out, bytesTL, ← List.append_assoc, hz2] at h; exact h)
              have HL2 := Lib.hid (show z2.length ≤ 1000000 from by have h1 := HL.out.1; rw [← HQ2.out, List.length_append] at h1; omega)
              clear hra htm hjk hz2
              go_wp2_with (first
    | (with_reducible refine wpList_load_any rfl 24 (.tmp 52) rfl b (o + j * 5) rfl (tmC kj.k kj.u kj.n kj.s (.slice aj kj.ks.length cj)) _ HRA.out Try.underlying24 rfl (tmC_info _ _ _ _ _) ?_))
              refine ((HIH.out kj HMEM.out).2 _ F wr (HIH.out kj HMEM.out).1 HTM.out (by have h := HL2.out; rw [← HZ2.out, List.length_append] at h; omega)).mono ?_
              rintro e' f1 ⟨oh, ph, rfl, hrow, hb⟩
              have IR1 := IR.below hb
              have HH := Lib.hid (Sl.of_owns hrow)
              generalize (bytesT kj).length = lk at HH ⊢
              clear hrow hb c4
              go_wp2_with fail
              refine (both_any _ _ z (bytesT kj) z2.length f1 (Sl.of_owns IR1.row) HH.out (by rw [← HZ2.out, List.length_append]) (by have := HL2.out; omega)).mono ?_
              rintro e' e191 ⟨o193, p194, rfl, hrow, hb⟩
              have I192 := IR1.anew (v' := .slice o193 z2.length p194) (ys := z2) (by have h := hrow; rw [HZ2.out] at h; exact h) hb
              clear hrow hb
              go_wp2_with fail
              go_roundw
              case rel => exact ⟨j + 1, _, _, _, z2, rfl, by go_num, by omega, HQ2, I192⟩
              case measure => simp [intOf]; omega
            · have hge : ¬ (j : Int) < (m : Int) := by omega
              have HE := Lib.hid (show z = Z from by rw [← HQ.out, List.drop_of_length_le (by rw [HM.out]; omega), bytesTL, List.append_nil])
              go_wp2_with fail
              go_ret
              exact ⟨oz, pz, by rw [HE.out]; rfl, by rw [← HE.out]; exact IR.row, IR.gw.nil⟩


end Go.Proofs.Ytfenikoajadiaaa
