/-
  Law 11: PermGoes, walked. Conditions: the numbers are int's.
-/
import Derived.Test.YtampheimonmggaaPmU
import Derived.Test.YtampheimonmggaaFrameP
import Derived.Lib.MinMax
namespace Go.Proofs.Ytampheimonmggaa
open Go Go.RowKit Go.Sort
set_option linter.unusedSimpArgs false
set_option linter.unusedVariables false

theorem SlF.below {α : Type} {w w' : World} {v : Value} {n : Nat} {cells : α → List Value} {l : List α} (h : SlF w v n cells l) (hb : Below w.heap.size w w') : SlF w' v n cells l := by
  obtain ⟨ao, c, h1, h2, h3, h4⟩ := h
  refine ⟨ao, c, h1, h2, h3, fun h0 => ?_⟩
  obtain ⟨g, o, h5, h6⟩ := h4 h0
  exact ⟨g, o, h5, fun k hk => rangeW_below (h6 k hk) hb⟩
theorem quiet_load_mid {P : Program} {o : Oper} {a : Act} {C : World → Prop} {K : Act → Prop} (ty : TypeId) (x : Operand) (ho : o.op = .load ty x) (b off : Nat) (hx : a.eval x = .pointer (some ⟨b, off, none⟩)) (cs : List Value) (d : TypeDesc)
    (hc : ∀ w, C w → w.rangeAt b off cs) (hu : P.underlying ty = some d) (hd : d.isRow = true) (hi : (P.info? ty).map (·.size) = some cs.length) (h : K (a.put o.dst (.agg cs.toArray))) : o.quiet P a C K :=
  ⟨.agg cs.toArray, fun w hw => by
    have hrun : (execOp a.eval o).run P w = .ok (.value (.agg cs.toArray)) w := by
      unfold execOp
      simp only [ho, hx, Instr.loadAt, Instr.sureAddr, Sem.run_bind, Sem.run_pure, Result.andThen_ok, run_loadVar_mid w b off ty cs d (hc w hw) hu hd hi]
    unfold Oper.quietAt
    rw [hrun]
    exact ⟨rfl, rfl⟩, h⟩

theorem rangeAt_blk {w : World} {g : Nat} {e : TypeId} {xs : List Value} (h : Blk w g e xs) : w.rangeAt g 0 xs := fun j v hv => by rw [Nat.zero_add, h.cell]; exact hv

theorem rangeAt_grew {w : World} {g off : Nat} {xs : List Value} (h : w.rangeAt g off xs) (w' : World) (hw : ∃ p : Regrown, w' = grew w p) : w'.rangeAt g off xs := by
  obtain ⟨p, rfl⟩ := hw
  exact fun j v hv => cell_grew (h j v hv) p

theorem SlP.nil_ (w : World) (k0 k1 : IntKind) : SlP w (.slice none 0 0) k0 k1 [] := ⟨Option.none, 0, rfl, Nat.le_refl _, by omega, fun h => absurd h (by simp)⟩
theorem Try.zeroAct3 : ∀ w, (zeroValue 35).run Try.prog w = .ok (.agg (act3C ⟨0, 0, 0⟩).toArray) w := fun w => by kernel_rfl
def n0F (o : Int) : Int := max o 0 % 6 + 1
theorem n0F_user (o : Int) : userB (n0F o) = true := by
  unfold userB n0F
  have h : 0 ≤ max o 0 := Int.le_max_right _ _
  rw [Bool.and_eq_true, decide_eq_true_eq, decide_eq_true_eq]
  omega
theorem newOk {n : Int} (h : userB n = true) : OkP ⟨n, 1, [], [], []⟩ := ⟨h, ⟨by show (1 : Int) ≤ 1; omega, by show (1 : Int) ≤ 8; omega⟩, rfl, rfl, rfl, fun m hm => nomatch hm⟩
/-- what a round's answer says, in words that the walk asks -/
theorem goes_b {p q : PmD} {act : Act3} {m : List (Int × Int)} (h : GoesP p q act m) (n : Int) {a b c d k z2 z4 nw : Bool} (ha : mayRB p n m = a) (hb : mayRB q n m = b) (hc : mayWB p n = c) (hd : mayWB q n = d) (hk : mayRB q n [] = k) (h2 : (kindF act.k == 2) = z2) (h4 : (kindF act.k == 4) = z4) (hn : (n != act.n) = nw) :
    (d = true → k = true) ∧ (a = true → (z2 = false ∨ nw = true) → z4 = false → b = true) ∧ (c = true → (z2 = false ∨ nw = true) → d = true) ∧ (z2 = true ∨ z4 = true → b = true → a = true) ∧ (z2 = true ∨ z4 = true → d = true → c = true) := by
  have e2 : z2 = false → kindF act.k ≠ 2 := fun e => by rw [e] at h2; simpa using h2
  have e2' : z2 = true → kindF act.k = 2 := fun e => by rw [e] at h2; simpa using h2
  have e4 : z4 = false → kindF act.k ≠ 4 := fun e => by rw [e] at h4; simpa using h4
  have e4' : z4 = true → kindF act.k = 4 := fun e => by rw [e] at h4; simpa using h4
  have en : nw = true → n ≠ act.n := fun e => by rw [e] at hn; simpa using hn
  refine ⟨fun e => ?_, fun e f g => ?_, fun e f => ?_, fun f e => ?_, fun f e => ?_⟩
  · rw [← hk]; exact h.wr n (by rw [hd]; exact e)
  · rw [← hb]; exact h.r1 n (by rw [ha]; exact e) (f.imp e2 en) (e4 g)
  · rw [← hd]; exact h.w1 n (by rw [hc]; exact e) (f.imp e2 en)
  · rw [← ha]; exact h.r2 n (f.imp e2' e4') (by rw [hb]; exact e)
  · rw [← hc]; exact h.w2 n (f.imp e2' e4') (by rw [hd]; exact e)
/-- the four kinds of a round that goes well -/
theorem goes_kinds {p q : PmD} {act : Act3} {m : List (Int × Int)} (h : GoesP p q act m) : (kindF act.k ≠ 2 ∧ kindF act.k ≠ 4 ∧ kindF act.k ≠ 5 ∧ q.e = p.e) ∨ (kindF act.k = 2 ∧ q.e = p.e + 1) ∨ (kindF act.k = 4 ∧ q.e = p.e + 1) ∨ (kindF act.k = 5 ∧ q.e = p.e + 1) := by
  have ht := h.t
  rcases h.e with e | e
  · refine .inl ?_
    have : ¬ (q.e > p.e) := by omega
    omega
  · have : q.e > p.e := by omega
    have := ht.1 this
    omega

set_option maxRecDepth 100000 in
set_option maxHeartbeats 16000000 in
theorem permGoes_walk (o : Int) (va : Value) (la : List Act3) (vm : Value) (m : List (Int × Int)) (w : World) (ho : -9223372036854775808 ≤ o ∧ o ≤ 9223372036854775807) (hla : SlF w va 3 act3C la) (hlo : ∀ a ∈ la, Act3Ok a) (hm : SlP w vm .i64 .i64 m) :
    Calls Try.prog 6 #[.int .i64 o, va, vm] w (TrueP w) := by
  have HSA := Lib.hid hla
  have HSM := Lib.hid hm
  have HLO := Lib.hid hlo
  obtain ⟨aa, ac, rfl, hac, -⟩ := id hla
  obtain ⟨ma, mc, rfl, -⟩ := id hm
  generalize m.length = ml at HSM ⊢
  obtain ⟨al, hal⟩ : ∃ n, la.length = n := ⟨_, rfl⟩
  have HAL := Lib.hid hal
  rw [hal] at HSA hac ⊢
  have H0 := Lib.hid (show Below w.heap.size w w from Below.refl _ _)
  obtain ⟨n0, hn0⟩ : ∃ n, n0F o = n := ⟨_, rfl⟩
  have HN0 := Lib.hid (show userB n0 = true from by rw [← hn0]; exact n0F_user o)
  have HNE := Lib.hid hn0
  have hnb : 1 ≤ n0 ∧ n0 ≤ 6 := by have := HN0.out; unfold userB at this; simpa using this
  clear hla hm hlo hal hn0 ho hnb
  go_enter Try.func6, Try.ntmps6
  go_wp2_with fail
  refine (wakes11_any w).mono ?_
  rintro e' y1 ⟨rfl, hb⟩
  have HY1 := Lib.hid (show Below w.heap.size w y1 from below_thn H0.out hb (Nat.le_refl _))
  clear hb
  by_cases hml : 100 < ml
  · have hml' : (100 : Int) < (ml : Int) := by omega
    go_wp2_with fail
    go_ret
    exact ⟨rfl, HY1.out⟩
  have hml' : ¬ (100 : Int) < (ml : Int) := by omega
  go_wp2_with fail
  simp only [show max o 0 % 6 + 1 = n0 from HNE.out]
  obtain ⟨p, hp⟩ : ∃ p : PmD, newR n0 = (p, 0) ∧ OkP p ∧ PmN 0 p := ⟨⟨n0, 1, [], [], []⟩, by unfold newR; rw [if_pos HN0.out], newOk HN0.out, Nat.le_refl _, Nat.le_refl _, Nat.le_refl _⟩
  have HP := Lib.hid hp.2
  have h1 := new_any n0 y1
  rw [hp.1] at h1
  refine (calls_perm h1).mono ?_
  clear h1 hml hml' hp
  rintro e' y2 ⟨x1r, x1q, x1g, rfl, hs, hb, hab⟩
  obtain ⟨x1a0, x1c0, rfl, -⟩ := hs.1.shape
  obtain ⟨x1a1, x1c1, rfl, -⟩ := hs.2.1.shape
  obtain ⟨x1a2, x1c2, rfl, -⟩ := hs.2.2.shape
  generalize (ofK .i64 p.r).length = x1l0 at hs hab ⊢
  generalize (ofK .i64 p.q).length = x1l1 at hs hab ⊢
  generalize (ofK .i64 p.g).length = x1l2 at hs hab ⊢
  have HY3 := Lib.hid (show Below w.heap.size w y2 ∧ PmS y2 p (Value.slice x1a0 x1l0 x1c0) (Value.slice x1a1 x1l1 x1c1) (Value.slice x1a2 x1l2 x1c2) ∧ AbvS y1.heap.size (Value.slice x1a0 x1l0 x1c0) (Value.slice x1a1 x1l1 x1c1) (Value.slice x1a2 x1l2 x1c2) from ⟨below_thn HY1.out hb (Nat.le_refl _), hs, hab⟩)
  clear hs hb hab
  go_wp2_with (first
    | ((with_reducible refine wpList_alloc_blk y2 rfl 24 rfl (pmC 0 0 (.slice none 0 0) (.slice none 0 0) (.slice none 0 0)) Try.zeroPm ?_); intro a4 hb hbel hsz; have HA6 := Lib.hid (And.intro hb hbel); clear hb hbel hsz)
    | ((with_reducible refine wpList_store_blk a4 rfl 24 (.tmp 7) (.tmp 26) rfl y2.heap.size 24 (pmC 0 0 (.slice none 0 0) (.slice none 0 0) (.slice none 0 0)) (pmC p.o p.e (Value.slice x1a0 x1l0 x1c0) (Value.slice x1a1 x1l1 x1c1) (Value.slice x1a2 x1l2 x1c2)) HA6.out.1 rfl rfl rfl (pmC_info _ _ _ _ _) (pmC_one _ _ _ _ _ _ _ _ _ _ _) ?_); intro a5 hb hc hs; have hbw : Below y2.heap.size y2 a5 := below_ch HA6.out.2 hc (Nat.le_refl _) (fun k hk => by have e : k = y2.heap.size := hk; omega); have HA7 := Lib.hid (show Below w.heap.size w a5 ∧ PmS a5 p (Value.slice x1a0 x1l0 x1c0) (Value.slice x1a1 x1l1 x1c1) (Value.slice x1a2 x1l2 x1c2) ∧ AbvS y1.heap.size (Value.slice x1a0 x1l0 x1c0) (Value.slice x1a1 x1l1 x1c1) (Value.slice x1a2 x1l2 x1c2) ∧ Blk a5 y2.heap.size 24 (pmC p.o p.e (Value.slice x1a0 x1l0 x1c0) (Value.slice x1a1 x1l1 x1c1) (Value.slice x1a2 x1l2 x1c2)) from ⟨below_thn HY3.out.1 hbw (Nat.le_refl _), HY3.out.2.1.below hbw, HY3.out.2.2, hb⟩); clear hb hc hs hbw))
  have HOF := Lib.hid (show w.heap.size ≤ y2.heap.size from HY3.out.1.size)
  go_loopw [32] (fun c wr => ∃ k : Nat, k ≤ al ∧ k ≤ 40 ∧ c = .int .i64 k ∧ Hid (∃ (p : PmD) (ra qa ga : Option Addr) (rl ql gl rc qc gc : Nat), OkP p ∧ PmN k p ∧ Blk wr y2.heap.size 24 (pmC p.o p.e (Value.slice ra rl rc) (Value.slice qa ql qc) (Value.slice ga gl gc)) ∧ PmS wr p (Value.slice ra rl rc) (Value.slice qa ql qc) (Value.slice ga gl gc) ∧ Below w.heap.size w wr)) (fun c _ => al - (intOf c).toNat)
  case atStart => exact ⟨0, Nat.zero_le _, Nat.zero_le _, rfl, Lib.hid ⟨p, _, _, _, _, _, _, _, _, _, HP.out.1, HP.out.2, HA7.out.2.2.2, HA7.out.2.1, HA7.out.1⟩⟩
  case round =>
    rename World => wo
    clear HP HA7
    obtain ⟨k, hk, hk4, rfl, HI⟩ := hrel
    by_cases hlt : k < al
    rotate_left
    · have hge : ¬ (k : Int) < (al : Int) := by omega
      have HB := Lib.hid (show Below w.heap.size w wo from by obtain ⟨p, ra, qa, ga, rl, ql, gl, rc, qc, gc, -, -, -, -, h⟩ := HI.out; exact h)
      clear HI
      go_wp2_with fail
      go_ret
      exact ⟨rfl, HB.out⟩
    have hlz : (k : Int) < (al : Int) := by omega
    have hk0 : (0 : Int) ≤ (k : Int) := by omega
    obtain ⟨p, ra, qa, ga, rl, ql, gl, rc, qc, gc, hok, hpn, hblk, hps, hbel⟩ := HI.out
    have HP := Lib.hid (And.intro hok hpn)
    have HR := Lib.hid (show Blk wo y2.heap.size 24 (pmC p.o p.e (Value.slice ra rl rc) (Value.slice qa ql qc) (Value.slice ga gl gc)) ∧ PmS wo p (Value.slice ra rl rc) (Value.slice qa ql qc) (Value.slice ga gl gc) ∧ Below w.heap.size w wo from ⟨hblk, hps, hbel⟩)
    clear hok hpn hblk hps hbel HI
    have hkl : k < la.length := by rw [HAL.out]; exact hlt
    obtain ⟨ao, cap, e0, -, -, hcell⟩ := HSA.out.below HR.out.2.2
    obtain ⟨ag, ago, e1, hat⟩ := hcell (by omega)
    subst e1
    simp only [Value.slice.injEq] at e0
    obtain ⟨rfl, -, rfl⟩ := e0
    have HAT := Lib.hid (hat k hkl)
    have HAO := Lib.hid (HLO.out _ (List.getElem_mem hkl))
    generalize la[k] = act at HAT HAO
    clear hcell hat hkl
    by_cases h40 : k = 40
    · have e40 : ((k : Int) == 40) = true := by subst h40; rfl
      clear h40
      go_wp2_with (first
    | (with_reducible refine wpList_load_any rfl 35 (.tmp 35) rfl ag (ago + k * 3) rfl (act3C act) _ HAT.out Try.underlying35 rfl (act3C_info _) ?_)
    | ((with_reducible refine wpList_alloc_blk wo rfl 35 rfl (act3C ⟨0, 0, 0⟩) Try.zeroAct3 ?_); intro a8 hb hbel hsz; have HA10 := Lib.hid (And.intro hb hbel); clear hb hbel hsz)
    | ((with_reducible refine wpList_store_blk a8 rfl 35 (.tmp 10) (.tmp 36) rfl wo.heap.size 35 (act3C ⟨0, 0, 0⟩) (act3C act) HA10.out.1 rfl rfl rfl (act3C_info _) (act3C_one _) ?_); intro a9 hb hc hs; have hbw : Below wo.heap.size wo a9 := below_ch HA10.out.2 hc (Nat.le_refl _) (fun k hk => by have e : k = wo.heap.size := hk; omega); have HA11 := Lib.hid (show Blk a9 y2.heap.size 24 (pmC p.o p.e (Value.slice ra rl rc) (Value.slice qa ql qc) (Value.slice ga gl gc)) ∧ PmS a9 p (Value.slice ra rl rc) (Value.slice qa ql qc) (Value.slice ga gl gc) ∧ Below w.heap.size w a9 ∧ Blk a9 wo.heap.size 35 (act3C act) ∧ y2.heap.size < wo.heap.size from ⟨HR.out.1.below hbw HR.out.1.lt, HR.out.2.1.below hbw, below_thn HR.out.2.2 hbw (Nat.le_refl _), hb, HR.out.1.lt⟩); clear hb hc hs hbw))
      go_ret
      exact ⟨rfl, HA11.out.2.2.1⟩
    have e40 : ((k : Int) == 40) = false := by rw [beq_eq_false_iff_ne]; omega
    have hk5 : k < 40 := by omega
    clear h40
    go_wp2_with (first
    | (with_reducible refine wpList_load_any rfl 35 (.tmp 35) rfl ag (ago + k * 3) rfl (act3C act) _ HAT.out Try.underlying35 rfl (act3C_info _) ?_)
    | ((with_reducible refine wpList_alloc_blk wo rfl 35 rfl (act3C ⟨0, 0, 0⟩) Try.zeroAct3 ?_); intro a12 hb hbel hsz; have HA14 := Lib.hid (And.intro hb hbel); clear hb hbel hsz)
    | ((with_reducible refine wpList_store_blk a12 rfl 35 (.tmp 10) (.tmp 36) rfl wo.heap.size 35 (act3C ⟨0, 0, 0⟩) (act3C act) HA14.out.1 rfl rfl rfl (act3C_info _) (act3C_one _) ?_); intro a13 hb hc hs; have hbw : Below wo.heap.size wo a13 := below_ch HA14.out.2 hc (Nat.le_refl _) (fun k hk => by have e : k = wo.heap.size := hk; omega); have HA15 := Lib.hid (show Blk a13 y2.heap.size 24 (pmC p.o p.e (Value.slice ra rl rc) (Value.slice qa ql qc) (Value.slice ga gl gc)) ∧ PmS a13 p (Value.slice ra rl rc) (Value.slice qa ql qc) (Value.slice ga gl gc) ∧ Below w.heap.size w a13 ∧ Blk a13 wo.heap.size 35 (act3C act) ∧ y2.heap.size < wo.heap.size from ⟨HR.out.1.below hbw HR.out.1.lt, HR.out.2.1.below hbw, below_thn HR.out.2.2 hbw (Nat.le_refl _), hb, HR.out.1.lt⟩); clear hb hc hs hbw)
    | (with_reducible refine wpList_load_any rfl 24 (.tmp 7) rfl y2.heap.size 0 rfl (pmC p.o p.e (Value.slice ra rl rc) (Value.slice qa ql qc) (Value.slice ga gl gc)) _ (rangeW_blk HA15.out.1) Try.underlying24 rfl (pmC_info _ _ _ _ _) ?_)
    | (with_reducible refine wpList_load_any rfl 35 (.tmp 10) rfl wo.heap.size 0 rfl (act3C act) _ (rangeW_blk HA15.out.2.2.2.1) Try.underlying35 rfl (act3C_info _) ?_))
    obtain ⟨⟨q, e⟩, hq⟩ : ∃ q, turnR p (doC p act) = q := ⟨_, rfl⟩
    have HLAW := Lib.hid (round_law (m := m) HP.out.1 hq)
    have HQN := Lib.hid (show PmN (k + 1) q from by have := turn_N (p := p) (do_N HP.out.2 act); rw [hq] at this; exact this)
    have h1 := do_any p act _ _ _ a13 HA15.out.2.1 (HP.out.2.l (by omega)) HAO.out
    rw [hq] at h1
    refine (calls_perm h1).mono ?_
    clear h1 hq
    rintro e' y17 ⟨x16r, x16q, x16g, rfl, hs, hb, hab⟩
    obtain ⟨x16a0, x16c0, rfl, -⟩ := hs.1.shape
    obtain ⟨x16a1, x16c1, rfl, -⟩ := hs.2.1.shape
    obtain ⟨x16a2, x16c2, rfl, -⟩ := hs.2.2.shape
    generalize (ofK .i64 q.r).length = x16l0 at hs hab ⊢
    generalize (ofK .i64 q.q).length = x16l1 at hs hab ⊢
    generalize (ofK .i64 q.g).length = x16l2 at hs hab ⊢
    have HY18 := Lib.hid (show Blk y17 y2.heap.size 24 (pmC p.o p.e (Value.slice ra rl rc) (Value.slice qa ql qc) (Value.slice ga gl gc)) ∧ PmS y17 p (Value.slice ra rl rc) (Value.slice qa ql qc) (Value.slice ga gl gc) ∧ Below w.heap.size w y17 ∧ Blk y17 wo.heap.size 35 (act3C act) ∧ y2.heap.size < wo.heap.size ∧ PmS y17 q (Value.slice x16a0 x16l0 x16c0) (Value.slice x16a1 x16l1 x16c1) (Value.slice x16a2 x16l2 x16c2) ∧ AbvS a13.heap.size (Value.slice x16a0 x16l0 x16c0) (Value.slice x16a1 x16l1 x16c1) (Value.slice x16a2 x16l2 x16c2) from ⟨HA15.out.1.below hb HA15.out.1.lt, HA15.out.2.1.below hb, below_thn HA15.out.2.2.1 hb (Nat.le_refl _), HA15.out.2.2.2.1.below hb HA15.out.2.2.2.1.lt, HA15.out.2.2.2.2, hs, hab⟩)
    clear hs hb hab
    rcases HLAW.out with ⟨h1, h2⟩ | ⟨h1, h2⟩
    · have e1 : (e != 0) = true := by simpa using h1
      have HK := Lib.hid h2
      clear h1 h2
      go_wp2_with (first
    | ((with_reducible refine wpList_alloc_blk y17 rfl 24 rfl (pmC 0 0 (.slice none 0 0) (.slice none 0 0) (.slice none 0 0)) Try.zeroPm ?_); intro a19 hb hbel hsz; have HA21 := Lib.hid (And.intro hb hbel); clear hb hbel hsz)
    | ((with_reducible refine wpList_store_blk a19 rfl 24 (.tmp 11) (.tmp 43) rfl y17.heap.size 24 (pmC 0 0 (.slice none 0 0) (.slice none 0 0) (.slice none 0 0)) (pmC q.o q.e (Value.slice x16a0 x16l0 x16c0) (Value.slice x16a1 x16l1 x16c1) (Value.slice x16a2 x16l2 x16c2)) HA21.out.1 rfl rfl rfl (pmC_info _ _ _ _ _) (pmC_one _ _ _ _ _ _ _ _ _ _ _) ?_); intro a20 hb hc hs; have hbw : Below y17.heap.size y17 a20 := below_ch HA21.out.2 hc (Nat.le_refl _) (fun k hk => by have e : k = y17.heap.size := hk; omega); have HA22 := Lib.hid (show Blk a20 y2.heap.size 24 (pmC p.o p.e (Value.slice ra rl rc) (Value.slice qa ql qc) (Value.slice ga gl gc)) ∧ PmS a20 p (Value.slice ra rl rc) (Value.slice qa ql qc) (Value.slice ga gl gc) ∧ Below w.heap.size w a20 ∧ Blk a20 wo.heap.size 35 (act3C act) ∧ y2.heap.size < wo.heap.size ∧ PmS a20 q (Value.slice x16a0 x16l0 x16c0) (Value.slice x16a1 x16l1 x16c1) (Value.slice x16a2 x16l2 x16c2) ∧ AbvS a13.heap.size (Value.slice x16a0 x16l0 x16c0) (Value.slice x16a1 x16l1 x16c1) (Value.slice x16a2 x16l2 x16c2) ∧ Blk a20 y17.heap.size 24 (pmC q.o q.e (Value.slice x16a0 x16l0 x16c0) (Value.slice x16a1 x16l1 x16c1) (Value.slice x16a2 x16l2 x16c2)) from ⟨HY18.out.1.below hbw HY18.out.1.lt, HY18.out.2.1.below hbw, below_thn HY18.out.2.2.1 hbw (Nat.le_refl _), HY18.out.2.2.2.1.below hbw HY18.out.2.2.2.1.lt, HY18.out.2.2.2.2.1, HY18.out.2.2.2.2.2.1.below hbw, HY18.out.2.2.2.2.2.2, hb⟩); clear hb hc hs hbw)
    | (with_reducible refine wpList_load_any rfl 24 (.tmp 11) rfl y17.heap.size 0 rfl (pmC q.o q.e (Value.slice x16a0 x16l0 x16c0) (Value.slice x16a1 x16l1 x16c1) (Value.slice x16a2 x16l2 x16c2)) _ (rangeW_blk HA22.out.2.2.2.2.2.2.2) Try.underlying24 rfl (pmC_info _ _ _ _ _) ?_))
      refine (check_of q false HK.out _ _ _ a20 HA22.out.2.2.2.2.2.1).mono ?_
      rintro e' y9 ⟨rfl, hb⟩
      have HY9 := Lib.hid (show Blk y9 y2.heap.size 24 (pmC p.o p.e (Value.slice ra rl rc) (Value.slice qa ql qc) (Value.slice ga gl gc)) ∧ PmS y9 p (Value.slice ra rl rc) (Value.slice qa ql qc) (Value.slice ga gl gc) ∧ Below w.heap.size w y9 ∧ Blk y9 wo.heap.size 35 (act3C act) ∧ y2.heap.size < wo.heap.size ∧ PmS y9 q (Value.slice x16a0 x16l0 x16c0) (Value.slice x16a1 x16l1 x16c1) (Value.slice x16a2 x16l2 x16c2) ∧ AbvS a13.heap.size (Value.slice x16a0 x16l0 x16c0) (Value.slice x16a1 x16l1 x16c1) (Value.slice x16a2 x16l2 x16c2) ∧ Blk y9 y17.heap.size 24 (pmC q.o q.e (Value.slice x16a0 x16l0 x16c0) (Value.slice x16a1 x16l1 x16c1) (Value.slice x16a2 x16l2 x16c2)) from ⟨HA22.out.1.below hb HA22.out.1.lt, HA22.out.2.1.below hb, below_thn HA22.out.2.2.1 hb (Nat.le_refl _), HA22.out.2.2.2.1.below hb HA22.out.2.2.2.1.lt, HA22.out.2.2.2.2.1, HA22.out.2.2.2.2.2.1.below hb, HA22.out.2.2.2.2.2.2.1, HA22.out.2.2.2.2.2.2.2.below hb HA22.out.2.2.2.2.2.2.2.lt⟩)
      clear hb
      go_wp2_with fail
      go_round
      case rel => exact ⟨k + 1, by omega, by omega, by go_num, Lib.hid ⟨p, ra, qa, ga, rl, ql, gl, rc, qc, gc, HP.out.1, ⟨Nat.le_succ_of_le HP.out.2.1, Nat.le_succ_of_le HP.out.2.2.1, Nat.le_succ_of_le HP.out.2.2.2⟩, HY9.out.1, HY9.out.2.1, HY9.out.2.2.1⟩⟩
      case measure => simp [intOf]; omega
    · subst h1
      have HG := Lib.hid h2
      clear h2
      have HOFQ := Lib.hid (show Off y2.heap.size (Value.slice x16a0 x16l0 x16c0) (Value.slice x16a1 x16l1 x16c1) (Value.slice x16a2 x16l2 x16c2) from off_abv HY18.out.2.2.2.2.2.2 HA15.out.1.lt)
      have HOKQ := Lib.hid (okB_iff.2 HG.out.ok)
      have HKC := Lib.hid (fun w => kind_any act w HAO.out)
      have hkk := goes_kinds HG.out
      obtain ⟨K, hK⟩ : ∃ K, kindF act.k = K := ⟨_, rfl⟩
      have HKE := Lib.hid hK
      rw [hK] at HKC hkk
      have hw : IntKind.i64.wrap (p.e + 1) = p.e + 1 := by have := HP.out.1.e; rw [IntKind.wrap_i64]; omega
      have eo : (q.o != p.o) = false := by rw [HG.out.o]; simp
      clear hK
      rcases hkk with ⟨h2, h4, h5, hee⟩ | ⟨h2, hee⟩ | ⟨h2, hee⟩ | ⟨h2, hee⟩
      · as_aux_lemma =>
        have e2 : (K == 2) = false := by simpa using h2
        have e4 : (K == 4) = false := by simpa using h4
        have e5 : (K == 5) = false := by simpa using h5
        have n2 : (K != 2) = true := by simpa using h2
        have n4 : (K != 4) = true := by simpa using h4
        have HKZ := Lib.hid (show (kindF act.k == 2) = false ∧ (kindF act.k == 4) = false from by rw [HKE.out]; exact ⟨e2, e4⟩)
        have q1 : (q.e != p.e) = false := by rw [hee]; simp
        have q3 : ¬ p.e < q.e := by omega
        clear h2 h4 h5 hee
        go_wp2_with (first
    | ((with_reducible refine wpList_alloc_blk y17 rfl 24 rfl (pmC 0 0 (.slice none 0 0) (.slice none 0 0) (.slice none 0 0)) Try.zeroPm ?_); intro a23 hb hbel hsz; have HA25 := Lib.hid (And.intro hb hbel); clear hb hbel hsz)
    | ((with_reducible refine wpList_store_blk a23 rfl 24 (.tmp 11) (.tmp 43) rfl y17.heap.size 24 (pmC 0 0 (.slice none 0 0) (.slice none 0 0) (.slice none 0 0)) (pmC q.o q.e (Value.slice x16a0 x16l0 x16c0) (Value.slice x16a1 x16l1 x16c1) (Value.slice x16a2 x16l2 x16c2)) HA25.out.1 rfl rfl rfl (pmC_info _ _ _ _ _) (pmC_one _ _ _ _ _ _ _ _ _ _ _) ?_); intro a24 hb hc hs; have hbw : Below y17.heap.size y17 a24 := below_ch HA25.out.2 hc (Nat.le_refl _) (fun k hk => by have e : k = y17.heap.size := hk; omega); have HA26 := Lib.hid (show Blk a24 y2.heap.size 24 (pmC p.o p.e (Value.slice ra rl rc) (Value.slice qa ql qc) (Value.slice ga gl gc)) ∧ PmS a24 p (Value.slice ra rl rc) (Value.slice qa ql qc) (Value.slice ga gl gc) ∧ Below w.heap.size w a24 ∧ Blk a24 wo.heap.size 35 (act3C act) ∧ y2.heap.size < wo.heap.size ∧ PmS a24 q (Value.slice x16a0 x16l0 x16c0) (Value.slice x16a1 x16l1 x16c1) (Value.slice x16a2 x16l2 x16c2) ∧ AbvS a13.heap.size (Value.slice x16a0 x16l0 x16c0) (Value.slice x16a1 x16l1 x16c1) (Value.slice x16a2 x16l2 x16c2) ∧ Blk a24 y17.heap.size 24 (pmC q.o q.e (Value.slice x16a0 x16l0 x16c0) (Value.slice x16a1 x16l1 x16c1) (Value.slice x16a2 x16l2 x16c2)) from ⟨HY18.out.1.below hbw HY18.out.1.lt, HY18.out.2.1.below hbw, below_thn HY18.out.2.2.1 hbw (Nat.le_refl _), HY18.out.2.2.2.1.below hbw HY18.out.2.2.2.1.lt, HY18.out.2.2.2.2.1, HY18.out.2.2.2.2.2.1.below hbw, HY18.out.2.2.2.2.2.2, hb⟩); clear hb hc hs hbw)
    | (with_reducible refine wpList_load_any rfl 35 (.tmp 10) rfl wo.heap.size 0 rfl (act3C act) _ (rangeW_blk HA26.out.2.2.2.1) Try.underlying35 rfl (act3C_info _) ?_))
        refine (HKC.out a24).mono ?_
        rintro e' y27 ⟨rfl, hb⟩
        have HY28 := Lib.hid (show Blk y27 y2.heap.size 24 (pmC p.o p.e (Value.slice ra rl rc) (Value.slice qa ql qc) (Value.slice ga gl gc)) ∧ PmS y27 p (Value.slice ra rl rc) (Value.slice qa ql qc) (Value.slice ga gl gc) ∧ Below w.heap.size w y27 ∧ Blk y27 wo.heap.size 35 (act3C act) ∧ y2.heap.size < wo.heap.size ∧ PmS y27 q (Value.slice x16a0 x16l0 x16c0) (Value.slice x16a1 x16l1 x16c1) (Value.slice x16a2 x16l2 x16c2) ∧ AbvS a13.heap.size (Value.slice x16a0 x16l0 x16c0) (Value.slice x16a1 x16l1 x16c1) (Value.slice x16a2 x16l2 x16c2) ∧ Blk y27 y17.heap.size 24 (pmC q.o q.e (Value.slice x16a0 x16l0 x16c0) (Value.slice x16a1 x16l1 x16c1) (Value.slice x16a2 x16l2 x16c2)) from ⟨HA26.out.1.below hb HA26.out.1.lt, HA26.out.2.1.below hb, below_thn HA26.out.2.2.1 hb (Nat.le_refl _), HA26.out.2.2.2.1.below hb HA26.out.2.2.2.1.lt, HA26.out.2.2.2.2.1, HA26.out.2.2.2.2.2.1.below hb, HA26.out.2.2.2.2.2.2.1, HA26.out.2.2.2.2.2.2.2.below hb HA26.out.2.2.2.2.2.2.2.lt⟩)
        clear hb
        go_wp2_with (first
    | (with_reducible refine wpList_load_any rfl 35 (.tmp 10) rfl wo.heap.size 0 rfl (act3C act) _ (rangeW_blk HY28.out.2.2.2.1) Try.underlying35 rfl (act3C_info _) ?_)
    | ((with_reducible refine wpList_load_want ?_ 35 (.tmp 10) rfl wo.heap.size 0 rfl (act3C act) _ (rangeW_blk HY28.out.2.2.2.1) Try.underlying35 rfl (act3C_info _) ?_); focus rfl))
        refine (HKC.out y27).mono ?_
        rintro e' y29 ⟨rfl, hb⟩
        have HY30 := Lib.hid (show Blk y29 y2.heap.size 24 (pmC p.o p.e (Value.slice ra rl rc) (Value.slice qa ql qc) (Value.slice ga gl gc)) ∧ PmS y29 p (Value.slice ra rl rc) (Value.slice qa ql qc) (Value.slice ga gl gc) ∧ Below w.heap.size w y29 ∧ Blk y29 wo.heap.size 35 (act3C act) ∧ y2.heap.size < wo.heap.size ∧ PmS y29 q (Value.slice x16a0 x16l0 x16c0) (Value.slice x16a1 x16l1 x16c1) (Value.slice x16a2 x16l2 x16c2) ∧ AbvS a13.heap.size (Value.slice x16a0 x16l0 x16c0) (Value.slice x16a1 x16l1 x16c1) (Value.slice x16a2 x16l2 x16c2) ∧ Blk y29 y17.heap.size 24 (pmC q.o q.e (Value.slice x16a0 x16l0 x16c0) (Value.slice x16a1 x16l1 x16c1) (Value.slice x16a2 x16l2 x16c2)) from ⟨HY28.out.1.below hb HY28.out.1.lt, HY28.out.2.1.below hb, below_thn HY28.out.2.2.1 hb (Nat.le_refl _), HY28.out.2.2.2.1.below hb HY28.out.2.2.2.1.lt, HY28.out.2.2.2.2.1, HY28.out.2.2.2.2.2.1.below hb, HY28.out.2.2.2.2.2.2.1, HY28.out.2.2.2.2.2.2.2.below hb HY28.out.2.2.2.2.2.2.2.lt⟩)
        clear hb
        go_wp2_with fail
        have C1 := Lib.hid (fun x => show Calls Try.prog 10 #[.agg (pmC q.o q.e (Value.slice x16a0 x16l0 x16c0) (Value.slice x16a1 x16l1 x16c1) (Value.slice x16a2 x16l2 x16c2)).toArray] (grew y29 x) (fun e w' => e = .returned (.int .i64 0) ∧ Below (grew y29 x).heap.size (grew y29 x) w') from check_of q true HOKQ.out _ _ _ (grew y29 x) (HY30.out.2.2.2.2.2.1.below (below_grew y29 x)))
        have C2 := Lib.hid (fun x => HKC.out (grew y29 x))
        have cp0 := HY30.out.1.cell 0
        have cp1 := HY30.out.1.cell 1
        have cq0 := HY30.out.2.2.2.2.2.2.2.cell 0
        have cq1 := HY30.out.2.2.2.2.2.2.2.cell 1
        simp only [pmC, List.getElem?_cons_zero, List.getElem?_cons_succ] at cp0 cp1 cq0 cq1
        replace cp0 := fun q => cell_grew cp0 q
        replace cp1 := fun q => cell_grew cp1 q
        replace cq0 := fun q => cell_grew cq0 q
        replace cq1 := fun q => cell_grew cq1 q
        refine wp_region_grew (by kernel_rfl) (by kernel_rfl) ?_
        repeat (first | go_big_quiet_skip | (go_big_quiet_want; (first | (refine quiet_load_mid 24 (.tmp 11) rfl y17.heap.size 0 rfl (pmC q.o q.e (Value.slice x16a0 x16l0 x16c0) (Value.slice x16a1 x16l1 x16c1) (Value.slice x16a2 x16l2 x16c2)) _ (fun w' hw' => rangeAt_grew (rangeAt_blk HY30.out.2.2.2.2.2.2.2) w' hw') Try.underlying24 rfl (pmC_info _ _ _ _ _) ?_; go_simp; go_big_quiet_on) | (refine quiet_load_mid 35 (.tmp 10) rfl wo.heap.size 0 rfl (act3C act) _ (fun w' hw' => rangeAt_grew (rangeAt_blk HY30.out.2.2.2.1) w' hw') Try.underlying35 rfl (act3C_info _) ?_; go_simp; go_big_quiet_on) | (go_big_quiet_op; (first | go_big_quiet_on | (apply Exists.intro; refine ⟨fun _ => ?_, ?_⟩; (focus (first | (go_at_call 10; with_reducible exact calls_grew (C1.out _)) | (go_at_call 16; with_reducible exact calls_grew (C2.out _)))); go_big_quiet_on))))))
        refine wpQuiet_nil ?_
        intro y50 hw50
        obtain ⟨x50, rfl⟩ := hw50
        have H50 := Lib.hid (show Blk (grew y29 x50) y2.heap.size 24 (pmC p.o p.e (Value.slice ra rl rc) (Value.slice qa ql qc) (Value.slice ga gl gc)) ∧ PmS (grew y29 x50) p (Value.slice ra rl rc) (Value.slice qa ql qc) (Value.slice ga gl gc) ∧ Below w.heap.size w (grew y29 x50) ∧ Blk (grew y29 x50) wo.heap.size 35 (act3C act) ∧ Blk (grew y29 x50) y17.heap.size 24 (pmC q.o q.e (Value.slice x16a0 x16l0 x16c0) (Value.slice x16a1 x16l1 x16c1) (Value.slice x16a2 x16l2 x16c2)) ∧ PmS (grew y29 x50) q (Value.slice x16a0 x16l0 x16c0) (Value.slice x16a1 x16l1 x16c1) (Value.slice x16a2 x16l2 x16c2) from ⟨HY30.out.1.below (below_grew y29 x50) HY30.out.1.lt, HY30.out.2.1.below (below_grew y29 x50), below_thn HY30.out.2.2.1 (below_grew y29 x50) (Nat.le_refl _), HY30.out.2.2.2.1.below (below_grew y29 x50) HY30.out.2.2.2.1.lt, HY30.out.2.2.2.2.2.2.2.below (below_grew y29 x50) HY30.out.2.2.2.2.2.2.2.lt, HY30.out.2.2.2.2.2.1.below (below_grew y29 x50)⟩)
        clear cp0 cp1 cq0 cq1 C1 C2
        go_wp2_with fail
        clear q1 q3 hw eo
        go_loopw [14] (fun c wr => ∃ n : Nat, 1 ≤ n ∧ n ≤ 7 ∧ c = .int .i64 n ∧ Hid (Blk wr y2.heap.size 24 (pmC p.o p.e (Value.slice ra rl rc) (Value.slice qa ql qc) (Value.slice ga gl gc)) ∧ PmS wr p (Value.slice ra rl rc) (Value.slice qa ql qc) (Value.slice ga gl gc) ∧ Below w.heap.size w wr ∧ Blk wr wo.heap.size 35 (act3C act) ∧ Blk wr y17.heap.size 24 (pmC q.o q.e (Value.slice x16a0 x16l0 x16c0) (Value.slice x16a1 x16l1 x16c1) (Value.slice x16a2 x16l2 x16c2)) ∧ PmS wr q (Value.slice x16a0 x16l0 x16c0) (Value.slice x16a1 x16l1 x16c1) (Value.slice x16a2 x16l2 x16c2))) (fun c _ => 7 - (intOf c).toNat)
        case atStart => exact ⟨1, by omega, by omega, rfl, H50⟩
        case round =>
          clear H50
          obtain ⟨n, hn1, hn7, rfl, HZ⟩ := hrel
          by_cases hn6 : n ≤ 6
          rotate_left
          · have hnz : ¬ (n : Int) ≤ 6 := by omega
            go_wp2_with (first
    | (with_reducible refine wpList_load_any rfl 24 (.tmp 11) rfl y17.heap.size 0 rfl (pmC q.o q.e (Value.slice x16a0 x16l0 x16c0) (Value.slice x16a1 x16l1 x16c1) (Value.slice x16a2 x16l2 x16c2)) _ (rangeW_blk HZ.out.2.2.2.2.1) Try.underlying24 rfl (pmC_info _ _ _ _ _) ?_)
    | ((with_reducible refine wpList_store_blk wr rfl 24 (.tmp 7) (.tmp 184) rfl y2.heap.size 24 (pmC p.o p.e (Value.slice ra rl rc) (Value.slice qa ql qc) (Value.slice ga gl gc)) (pmC q.o q.e (Value.slice x16a0 x16l0 x16c0) (Value.slice x16a1 x16l1 x16c1) (Value.slice x16a2 x16l2 x16c2)) HZ.out.1 rfl rfl rfl (pmC_info _ _ _ _ _) (pmC_one _ _ _ _ _ _ _ _ _ _ _) ?_); intro z99 hb hc hs; have H99 := Lib.hid (show Blk z99 y2.heap.size 24 (pmC q.o q.e (Value.slice x16a0 x16l0 x16c0) (Value.slice x16a1 x16l1 x16c1) (Value.slice x16a2 x16l2 x16c2)) ∧ PmS z99 q (Value.slice x16a0 x16l0 x16c0) (Value.slice x16a1 x16l1 x16c1) (Value.slice x16a2 x16l2 x16c2) ∧ Below w.heap.size w z99 from ⟨hb, HZ.out.2.2.2.2.2.ch hc HOFQ.out, below_ch HZ.out.2.2.1 hc (Nat.le_refl _) (fun k hk => by have e : k = y2.heap.size := hk; have := HOF.out; omega)⟩); clear hb hc hs))
            go_round
            case rel => exact ⟨k + 1, by omega, by omega, by go_num, Lib.hid ⟨q, _, _, _, _, _, _, _, _, _, HG.out.ok, HQN.out, H99.out.1, H99.out.2.1, H99.out.2.2⟩⟩
            case measure => simp [intOf]; omega
          have hnz : (n : Int) ≤ 6 := by omega
          obtain ⟨a, ha⟩ : ∃ b, mayRB p (n : Int) m = b := ⟨_, rfl⟩
          obtain ⟨b, hb⟩ : ∃ b, mayRB q (n : Int) m = b := ⟨_, rfl⟩
          obtain ⟨c, hc⟩ : ∃ b, mayWB p (n : Int) = b := ⟨_, rfl⟩
          obtain ⟨d, hd⟩ : ∃ b, mayWB q (n : Int) = b := ⟨_, rfl⟩
          obtain ⟨f, hf⟩ : ∃ b, mayRB q (n : Int) [] = b := ⟨_, rfl⟩
          obtain ⟨nw, hnw⟩ : ∃ b, ((n : Int) != act.n) = b := ⟨_, rfl⟩
          have HLW := Lib.hid (goes_b HG.out (n : Int) ha hb hc hd hf HKZ.out.1 HKZ.out.2 hnw)
          have HA := Lib.hid ha
          have HB := Lib.hid hb
          have HC := Lib.hid hc
          have HD := Lib.hid hd
          have HF := Lib.hid hf
          clear ha hb hc hd hf
          have ca := HZ.out.2.2.2.1.cell 2
          simp only [act3C, List.getElem?_cons_zero, List.getElem?_cons_succ] at ca
          go_wp2_with (with_reducible refine wpList_load_any rfl 24 (.tmp 11) rfl y17.heap.size 0 rfl (pmC q.o q.e (Value.slice x16a0 x16l0 x16c0) (Value.slice x16a1 x16l1 x16c1) (Value.slice x16a2 x16l2 x16c2)) _ (rangeW_blk HZ.out.2.2.2.2.1) Try.underlying24 rfl (pmC_info _ _ _ _ _) ?_)
          clear ca
          have h1 := mayWrite_any q (n : Int) _ _ _ wr HZ.out.2.2.2.2.2
          rw [HD.out] at h1
          refine Calls.mono h1 ?_
          clear h1
          rintro e' z31 ⟨rfl, hb⟩
          have HZ32 := Lib.hid (show Blk z31 y2.heap.size 24 (pmC p.o p.e (Value.slice ra rl rc) (Value.slice qa ql qc) (Value.slice ga gl gc)) ∧ PmS z31 p (Value.slice ra rl rc) (Value.slice qa ql qc) (Value.slice ga gl gc) ∧ Below w.heap.size w z31 ∧ Blk z31 wo.heap.size 35 (act3C act) ∧ Blk z31 y17.heap.size 24 (pmC q.o q.e (Value.slice x16a0 x16l0 x16c0) (Value.slice x16a1 x16l1 x16c1) (Value.slice x16a2 x16l2 x16c2)) ∧ PmS z31 q (Value.slice x16a0 x16l0 x16c0) (Value.slice x16a1 x16l1 x16c1) (Value.slice x16a2 x16l2 x16c2) from ⟨HZ.out.1.below hb HZ.out.1.lt, HZ.out.2.1.below hb, below_thn HZ.out.2.2.1 hb (Nat.le_refl _), HZ.out.2.2.2.1.below hb HZ.out.2.2.2.1.lt, HZ.out.2.2.2.2.1.below hb HZ.out.2.2.2.2.1.lt, HZ.out.2.2.2.2.2.below hb⟩)
          clear hb
          cases d
          · skip
            have ca := HZ32.out.2.2.2.1.cell 2
            simp only [act3C, List.getElem?_cons_zero, List.getElem?_cons_succ] at ca
            go_wp2_with (with_reducible refine wpList_load_any rfl 24 (.tmp 7) rfl y2.heap.size 0 rfl (pmC p.o p.e (Value.slice ra rl rc) (Value.slice qa ql qc) (Value.slice ga gl gc)) _ (rangeW_blk HZ32.out.1) Try.underlying24 rfl (pmC_info _ _ _ _ _) ?_)
            clear ca
            have h1 := mayRead_any p (n : Int) m _ _ _ _ z31 HZ32.out.2.1 (HSM.out.below HZ32.out.2.2.1)
            rw [HA.out] at h1
            refine Calls.mono h1 ?_
            clear h1
            rintro e' z33 ⟨rfl, hb⟩
            have HZ34 := Lib.hid (show Blk z33 y2.heap.size 24 (pmC p.o p.e (Value.slice ra rl rc) (Value.slice qa ql qc) (Value.slice ga gl gc)) ∧ PmS z33 p (Value.slice ra rl rc) (Value.slice qa ql qc) (Value.slice ga gl gc) ∧ Below w.heap.size w z33 ∧ Blk z33 wo.heap.size 35 (act3C act) ∧ Blk z33 y17.heap.size 24 (pmC q.o q.e (Value.slice x16a0 x16l0 x16c0) (Value.slice x16a1 x16l1 x16c1) (Value.slice x16a2 x16l2 x16c2)) ∧ PmS z33 q (Value.slice x16a0 x16l0 x16c0) (Value.slice x16a1 x16l1 x16c1) (Value.slice x16a2 x16l2 x16c2) from ⟨HZ32.out.1.below hb HZ32.out.1.lt, HZ32.out.2.1.below hb, below_thn HZ32.out.2.2.1 hb (Nat.le_refl _), HZ32.out.2.2.2.1.below hb HZ32.out.2.2.2.1.lt, HZ32.out.2.2.2.2.1.below hb HZ32.out.2.2.2.2.1.lt, HZ32.out.2.2.2.2.2.below hb⟩)
            clear hb
            cases a
            · skip
              have ca := HZ34.out.2.2.2.1.cell 2
              simp only [act3C, List.getElem?_cons_zero, List.getElem?_cons_succ] at ca
              go_wp2_with ((with_reducible refine wpList_load_want ?_ 24 (.tmp 7) rfl y2.heap.size 0 rfl (pmC p.o p.e (Value.slice ra rl rc) (Value.slice qa ql qc) (Value.slice ga gl gc)) _ (rangeW_blk HZ34.out.1) Try.underlying24 rfl (pmC_info _ _ _ _ _) ?_); focus rfl)
              clear ca
              have h1 := mayWrite_any p (n : Int) _ _ _ z33 HZ34.out.2.1
              rw [HC.out] at h1
              refine Calls.mono h1 ?_
              clear h1
              rintro e' z35 ⟨rfl, hb⟩
              have HZ36 := Lib.hid (show Blk z35 y2.heap.size 24 (pmC p.o p.e (Value.slice ra rl rc) (Value.slice qa ql qc) (Value.slice ga gl gc)) ∧ PmS z35 p (Value.slice ra rl rc) (Value.slice qa ql qc) (Value.slice ga gl gc) ∧ Below w.heap.size w z35 ∧ Blk z35 wo.heap.size 35 (act3C act) ∧ Blk z35 y17.heap.size 24 (pmC q.o q.e (Value.slice x16a0 x16l0 x16c0) (Value.slice x16a1 x16l1 x16c1) (Value.slice x16a2 x16l2 x16c2)) ∧ PmS z35 q (Value.slice x16a0 x16l0 x16c0) (Value.slice x16a1 x16l1 x16c1) (Value.slice x16a2 x16l2 x16c2) from ⟨HZ34.out.1.below hb HZ34.out.1.lt, HZ34.out.2.1.below hb, below_thn HZ34.out.2.2.1 hb (Nat.le_refl _), HZ34.out.2.2.2.1.below hb HZ34.out.2.2.2.1.lt, HZ34.out.2.2.2.2.1.below hb HZ34.out.2.2.2.2.1.lt, HZ34.out.2.2.2.2.2.below hb⟩)
              clear hb
              cases c
              · skip
                go_wp2_with fail
                go_round
                case rel => exact ⟨n + 1, by omega, by omega, by go_num, HZ36⟩
                case measure => simp [intOf]; omega
              · skip
                exfalso
                have h := HLW.out
                simp at h
            · skip
              have ca := HZ34.out.2.2.2.1.cell 2
              simp only [act3C, List.getElem?_cons_zero, List.getElem?_cons_succ] at ca
              go_wp2_with ((with_reducible refine wpList_load_want ?_ 24 (.tmp 11) rfl y17.heap.size 0 rfl (pmC q.o q.e (Value.slice x16a0 x16l0 x16c0) (Value.slice x16a1 x16l1 x16c1) (Value.slice x16a2 x16l2 x16c2)) _ (rangeW_blk HZ34.out.2.2.2.2.1) Try.underlying24 rfl (pmC_info _ _ _ _ _) ?_); focus rfl)
              clear ca
              have h1 := mayRead_any q (n : Int) m _ _ _ _ z33 HZ34.out.2.2.2.2.2 (HSM.out.below HZ34.out.2.2.1)
              rw [HB.out] at h1
              refine Calls.mono h1 ?_
              clear h1
              rintro e' z37 ⟨rfl, hb⟩
              have HZ38 := Lib.hid (show Blk z37 y2.heap.size 24 (pmC p.o p.e (Value.slice ra rl rc) (Value.slice qa ql qc) (Value.slice ga gl gc)) ∧ PmS z37 p (Value.slice ra rl rc) (Value.slice qa ql qc) (Value.slice ga gl gc) ∧ Below w.heap.size w z37 ∧ Blk z37 wo.heap.size 35 (act3C act) ∧ Blk z37 y17.heap.size 24 (pmC q.o q.e (Value.slice x16a0 x16l0 x16c0) (Value.slice x16a1 x16l1 x16c1) (Value.slice x16a2 x16l2 x16c2)) ∧ PmS z37 q (Value.slice x16a0 x16l0 x16c0) (Value.slice x16a1 x16l1 x16c1) (Value.slice x16a2 x16l2 x16c2) from ⟨HZ34.out.1.below hb HZ34.out.1.lt, HZ34.out.2.1.below hb, below_thn HZ34.out.2.2.1 hb (Nat.le_refl _), HZ34.out.2.2.2.1.below hb HZ34.out.2.2.2.1.lt, HZ34.out.2.2.2.2.1.below hb HZ34.out.2.2.2.2.1.lt, HZ34.out.2.2.2.2.2.below hb⟩)
              clear hb
              cases b
              · skip
                exfalso
                have h := HLW.out
                simp at h
              · skip
                have ca := HZ38.out.2.2.2.1.cell 2
                simp only [act3C, List.getElem?_cons_zero, List.getElem?_cons_succ] at ca
                go_wp2_with ((with_reducible refine wpList_load_want ?_ 24 (.tmp 7) rfl y2.heap.size 0 rfl (pmC p.o p.e (Value.slice ra rl rc) (Value.slice qa ql qc) (Value.slice ga gl gc)) _ (rangeW_blk HZ38.out.1) Try.underlying24 rfl (pmC_info _ _ _ _ _) ?_); focus rfl)
                clear ca
                have h1 := mayWrite_any p (n : Int) _ _ _ z37 HZ38.out.2.1
                rw [HC.out] at h1
                refine Calls.mono h1 ?_
                clear h1
                rintro e' z39 ⟨rfl, hb⟩
                have HZ40 := Lib.hid (show Blk z39 y2.heap.size 24 (pmC p.o p.e (Value.slice ra rl rc) (Value.slice qa ql qc) (Value.slice ga gl gc)) ∧ PmS z39 p (Value.slice ra rl rc) (Value.slice qa ql qc) (Value.slice ga gl gc) ∧ Below w.heap.size w z39 ∧ Blk z39 wo.heap.size 35 (act3C act) ∧ Blk z39 y17.heap.size 24 (pmC q.o q.e (Value.slice x16a0 x16l0 x16c0) (Value.slice x16a1 x16l1 x16c1) (Value.slice x16a2 x16l2 x16c2)) ∧ PmS z39 q (Value.slice x16a0 x16l0 x16c0) (Value.slice x16a1 x16l1 x16c1) (Value.slice x16a2 x16l2 x16c2) from ⟨HZ38.out.1.below hb HZ38.out.1.lt, HZ38.out.2.1.below hb, below_thn HZ38.out.2.2.1 hb (Nat.le_refl _), HZ38.out.2.2.2.1.below hb HZ38.out.2.2.2.1.lt, HZ38.out.2.2.2.2.1.below hb HZ38.out.2.2.2.2.1.lt, HZ38.out.2.2.2.2.2.below hb⟩)
                clear hb
                cases c
                · skip
                  go_wp2_with fail
                  go_round
                  case rel => exact ⟨n + 1, by omega, by omega, by go_num, HZ40⟩
                  case measure => simp [intOf]; omega
                · skip
                  exfalso
                  have h := HLW.out
                  simp at h
          · skip
            have ca := HZ32.out.2.2.2.1.cell 2
            simp only [act3C, List.getElem?_cons_zero, List.getElem?_cons_succ] at ca
            go_wp2_with ((with_reducible refine wpList_load_want ?_ 24 (.tmp 11) rfl y17.heap.size 0 rfl (pmC q.o q.e (Value.slice x16a0 x16l0 x16c0) (Value.slice x16a1 x16l1 x16c1) (Value.slice x16a2 x16l2 x16c2)) _ (rangeW_blk HZ32.out.2.2.2.2.1) Try.underlying24 rfl (pmC_info _ _ _ _ _) ?_); focus rfl)
            clear ca
            have h1 := mayRead_any q (n : Int) [] _ _ _ _ z31 HZ32.out.2.2.2.2.2 (SlP.nil_ _ _ _)
            rw [HF.out] at h1
            refine Calls.mono h1 ?_
            clear h1
            rintro e' z41 ⟨rfl, hb⟩
            have HZ42 := Lib.hid (show Blk z41 y2.heap.size 24 (pmC p.o p.e (Value.slice ra rl rc) (Value.slice qa ql qc) (Value.slice ga gl gc)) ∧ PmS z41 p (Value.slice ra rl rc) (Value.slice qa ql qc) (Value.slice ga gl gc) ∧ Below w.heap.size w z41 ∧ Blk z41 wo.heap.size 35 (act3C act) ∧ Blk z41 y17.heap.size 24 (pmC q.o q.e (Value.slice x16a0 x16l0 x16c0) (Value.slice x16a1 x16l1 x16c1) (Value.slice x16a2 x16l2 x16c2)) ∧ PmS z41 q (Value.slice x16a0 x16l0 x16c0) (Value.slice x16a1 x16l1 x16c1) (Value.slice x16a2 x16l2 x16c2) from ⟨HZ32.out.1.below hb HZ32.out.1.lt, HZ32.out.2.1.below hb, below_thn HZ32.out.2.2.1 hb (Nat.le_refl _), HZ32.out.2.2.2.1.below hb HZ32.out.2.2.2.1.lt, HZ32.out.2.2.2.2.1.below hb HZ32.out.2.2.2.2.1.lt, HZ32.out.2.2.2.2.2.below hb⟩)
            clear hb
            cases f
            · skip
              exfalso
              have h := HLW.out
              simp at h
            · skip
              have ca := HZ42.out.2.2.2.1.cell 2
              simp only [act3C, List.getElem?_cons_zero, List.getElem?_cons_succ] at ca
              go_wp2_with (with_reducible refine wpList_load_any rfl 24 (.tmp 7) rfl y2.heap.size 0 rfl (pmC p.o p.e (Value.slice ra rl rc) (Value.slice qa ql qc) (Value.slice ga gl gc)) _ (rangeW_blk HZ42.out.1) Try.underlying24 rfl (pmC_info _ _ _ _ _) ?_)
              clear ca
              have h1 := mayRead_any p (n : Int) m _ _ _ _ z41 HZ42.out.2.1 (HSM.out.below HZ42.out.2.2.1)
              rw [HA.out] at h1
              refine Calls.mono h1 ?_
              clear h1
              rintro e' z43 ⟨rfl, hb⟩
              have HZ44 := Lib.hid (show Blk z43 y2.heap.size 24 (pmC p.o p.e (Value.slice ra rl rc) (Value.slice qa ql qc) (Value.slice ga gl gc)) ∧ PmS z43 p (Value.slice ra rl rc) (Value.slice qa ql qc) (Value.slice ga gl gc) ∧ Below w.heap.size w z43 ∧ Blk z43 wo.heap.size 35 (act3C act) ∧ Blk z43 y17.heap.size 24 (pmC q.o q.e (Value.slice x16a0 x16l0 x16c0) (Value.slice x16a1 x16l1 x16c1) (Value.slice x16a2 x16l2 x16c2)) ∧ PmS z43 q (Value.slice x16a0 x16l0 x16c0) (Value.slice x16a1 x16l1 x16c1) (Value.slice x16a2 x16l2 x16c2) from ⟨HZ42.out.1.below hb HZ42.out.1.lt, HZ42.out.2.1.below hb, below_thn HZ42.out.2.2.1 hb (Nat.le_refl _), HZ42.out.2.2.2.1.below hb HZ42.out.2.2.2.1.lt, HZ42.out.2.2.2.2.1.below hb HZ42.out.2.2.2.2.1.lt, HZ42.out.2.2.2.2.2.below hb⟩)
              clear hb
              cases a
              · skip
                have ca := HZ44.out.2.2.2.1.cell 2
                simp only [act3C, List.getElem?_cons_zero, List.getElem?_cons_succ] at ca
                go_wp2_with ((with_reducible refine wpList_load_want ?_ 24 (.tmp 7) rfl y2.heap.size 0 rfl (pmC p.o p.e (Value.slice ra rl rc) (Value.slice qa ql qc) (Value.slice ga gl gc)) _ (rangeW_blk HZ44.out.1) Try.underlying24 rfl (pmC_info _ _ _ _ _) ?_); focus rfl)
                clear ca
                have h1 := mayWrite_any p (n : Int) _ _ _ z43 HZ44.out.2.1
                rw [HC.out] at h1
                refine Calls.mono h1 ?_
                clear h1
                rintro e' z45 ⟨rfl, hb⟩
                have HZ46 := Lib.hid (show Blk z45 y2.heap.size 24 (pmC p.o p.e (Value.slice ra rl rc) (Value.slice qa ql qc) (Value.slice ga gl gc)) ∧ PmS z45 p (Value.slice ra rl rc) (Value.slice qa ql qc) (Value.slice ga gl gc) ∧ Below w.heap.size w z45 ∧ Blk z45 wo.heap.size 35 (act3C act) ∧ Blk z45 y17.heap.size 24 (pmC q.o q.e (Value.slice x16a0 x16l0 x16c0) (Value.slice x16a1 x16l1 x16c1) (Value.slice x16a2 x16l2 x16c2)) ∧ PmS z45 q (Value.slice x16a0 x16l0 x16c0) (Value.slice x16a1 x16l1 x16c1) (Value.slice x16a2 x16l2 x16c2) from ⟨HZ44.out.1.below hb HZ44.out.1.lt, HZ44.out.2.1.below hb, below_thn HZ44.out.2.2.1 hb (Nat.le_refl _), HZ44.out.2.2.2.1.below hb HZ44.out.2.2.2.1.lt, HZ44.out.2.2.2.2.1.below hb HZ44.out.2.2.2.2.1.lt, HZ44.out.2.2.2.2.2.below hb⟩)
                clear hb
                cases c
                · skip
                  go_wp2_with fail
                  go_round
                  case rel => exact ⟨n + 1, by omega, by omega, by go_num, HZ46⟩
                  case measure => simp [intOf]; omega
                · skip
                  have ca := HZ46.out.2.2.2.1.cell 2
                  simp only [act3C, List.getElem?_cons_zero, List.getElem?_cons_succ] at ca
                  go_wp2_with ((with_reducible refine wpList_load_want ?_ 24 (.tmp 11) rfl y17.heap.size 0 rfl (pmC q.o q.e (Value.slice x16a0 x16l0 x16c0) (Value.slice x16a1 x16l1 x16c1) (Value.slice x16a2 x16l2 x16c2)) _ (rangeW_blk HZ46.out.2.2.2.2.1) Try.underlying24 rfl (pmC_info _ _ _ _ _) ?_); focus rfl)
                  clear ca
                  have h1 := mayWrite_any q (n : Int) _ _ _ z45 HZ46.out.2.2.2.2.2
                  rw [HD.out] at h1
                  refine Calls.mono h1 ?_
                  clear h1
                  rintro e' z47 ⟨rfl, hb⟩
                  have HZ48 := Lib.hid (show Blk z47 y2.heap.size 24 (pmC p.o p.e (Value.slice ra rl rc) (Value.slice qa ql qc) (Value.slice ga gl gc)) ∧ PmS z47 p (Value.slice ra rl rc) (Value.slice qa ql qc) (Value.slice ga gl gc) ∧ Below w.heap.size w z47 ∧ Blk z47 wo.heap.size 35 (act3C act) ∧ Blk z47 y17.heap.size 24 (pmC q.o q.e (Value.slice x16a0 x16l0 x16c0) (Value.slice x16a1 x16l1 x16c1) (Value.slice x16a2 x16l2 x16c2)) ∧ PmS z47 q (Value.slice x16a0 x16l0 x16c0) (Value.slice x16a1 x16l1 x16c1) (Value.slice x16a2 x16l2 x16c2) from ⟨HZ46.out.1.below hb HZ46.out.1.lt, HZ46.out.2.1.below hb, below_thn HZ46.out.2.2.1 hb (Nat.le_refl _), HZ46.out.2.2.2.1.below hb HZ46.out.2.2.2.1.lt, HZ46.out.2.2.2.2.1.below hb HZ46.out.2.2.2.2.1.lt, HZ46.out.2.2.2.2.2.below hb⟩)
                  clear hb
                  go_wp2_with fail
                  go_round
                  case rel => exact ⟨n + 1, by omega, by omega, by go_num, HZ48⟩
                  case measure => simp [intOf]; omega
              · skip
                have ca := HZ44.out.2.2.2.1.cell 2
                simp only [act3C, List.getElem?_cons_zero, List.getElem?_cons_succ] at ca
                go_wp2_with ((with_reducible refine wpList_load_want ?_ 24 (.tmp 11) rfl y17.heap.size 0 rfl (pmC q.o q.e (Value.slice x16a0 x16l0 x16c0) (Value.slice x16a1 x16l1 x16c1) (Value.slice x16a2 x16l2 x16c2)) _ (rangeW_blk HZ44.out.2.2.2.2.1) Try.underlying24 rfl (pmC_info _ _ _ _ _) ?_); focus rfl)
                clear ca
                have h1 := mayRead_any q (n : Int) m _ _ _ _ z43 HZ44.out.2.2.2.2.2 (HSM.out.below HZ44.out.2.2.1)
                rw [HB.out] at h1
                refine Calls.mono h1 ?_
                clear h1
                rintro e' z49 ⟨rfl, hb⟩
                have HZ50 := Lib.hid (show Blk z49 y2.heap.size 24 (pmC p.o p.e (Value.slice ra rl rc) (Value.slice qa ql qc) (Value.slice ga gl gc)) ∧ PmS z49 p (Value.slice ra rl rc) (Value.slice qa ql qc) (Value.slice ga gl gc) ∧ Below w.heap.size w z49 ∧ Blk z49 wo.heap.size 35 (act3C act) ∧ Blk z49 y17.heap.size 24 (pmC q.o q.e (Value.slice x16a0 x16l0 x16c0) (Value.slice x16a1 x16l1 x16c1) (Value.slice x16a2 x16l2 x16c2)) ∧ PmS z49 q (Value.slice x16a0 x16l0 x16c0) (Value.slice x16a1 x16l1 x16c1) (Value.slice x16a2 x16l2 x16c2) from ⟨HZ44.out.1.below hb HZ44.out.1.lt, HZ44.out.2.1.below hb, below_thn HZ44.out.2.2.1 hb (Nat.le_refl _), HZ44.out.2.2.2.1.below hb HZ44.out.2.2.2.1.lt, HZ44.out.2.2.2.2.1.below hb HZ44.out.2.2.2.2.1.lt, HZ44.out.2.2.2.2.2.below hb⟩)
                clear hb
                cases b
                · skip
                  exfalso
                  have h := HLW.out
                  simp at h
                · skip
                  have ca := HZ50.out.2.2.2.1.cell 2
                  simp only [act3C, List.getElem?_cons_zero, List.getElem?_cons_succ] at ca
                  go_wp2_with ((with_reducible refine wpList_load_want ?_ 24 (.tmp 7) rfl y2.heap.size 0 rfl (pmC p.o p.e (Value.slice ra rl rc) (Value.slice qa ql qc) (Value.slice ga gl gc)) _ (rangeW_blk HZ50.out.1) Try.underlying24 rfl (pmC_info _ _ _ _ _) ?_); focus rfl)
                  clear ca
                  have h1 := mayWrite_any p (n : Int) _ _ _ z49 HZ50.out.2.1
                  rw [HC.out] at h1
                  refine Calls.mono h1 ?_
                  clear h1
                  rintro e' z51 ⟨rfl, hb⟩
                  have HZ52 := Lib.hid (show Blk z51 y2.heap.size 24 (pmC p.o p.e (Value.slice ra rl rc) (Value.slice qa ql qc) (Value.slice ga gl gc)) ∧ PmS z51 p (Value.slice ra rl rc) (Value.slice qa ql qc) (Value.slice ga gl gc) ∧ Below w.heap.size w z51 ∧ Blk z51 wo.heap.size 35 (act3C act) ∧ Blk z51 y17.heap.size 24 (pmC q.o q.e (Value.slice x16a0 x16l0 x16c0) (Value.slice x16a1 x16l1 x16c1) (Value.slice x16a2 x16l2 x16c2)) ∧ PmS z51 q (Value.slice x16a0 x16l0 x16c0) (Value.slice x16a1 x16l1 x16c1) (Value.slice x16a2 x16l2 x16c2) from ⟨HZ50.out.1.below hb HZ50.out.1.lt, HZ50.out.2.1.below hb, below_thn HZ50.out.2.2.1 hb (Nat.le_refl _), HZ50.out.2.2.2.1.below hb HZ50.out.2.2.2.1.lt, HZ50.out.2.2.2.2.1.below hb HZ50.out.2.2.2.2.1.lt, HZ50.out.2.2.2.2.2.below hb⟩)
                  clear hb
                  cases c
                  · skip
                    go_wp2_with fail
                    go_round
                    case rel => exact ⟨n + 1, by omega, by omega, by go_num, HZ52⟩
                    case measure => simp [intOf]; omega
                  · skip
                    have ca := HZ52.out.2.2.2.1.cell 2
                    simp only [act3C, List.getElem?_cons_zero, List.getElem?_cons_succ] at ca
                    go_wp2_with ((with_reducible refine wpList_load_want ?_ 24 (.tmp 11) rfl y17.heap.size 0 rfl (pmC q.o q.e (Value.slice x16a0 x16l0 x16c0) (Value.slice x16a1 x16l1 x16c1) (Value.slice x16a2 x16l2 x16c2)) _ (rangeW_blk HZ52.out.2.2.2.2.1) Try.underlying24 rfl (pmC_info _ _ _ _ _) ?_); focus rfl)
                    clear ca
                    have h1 := mayWrite_any q (n : Int) _ _ _ z51 HZ52.out.2.2.2.2.2
                    rw [HD.out] at h1
                    refine Calls.mono h1 ?_
                    clear h1
                    rintro e' z53 ⟨rfl, hb⟩
                    have HZ54 := Lib.hid (show Blk z53 y2.heap.size 24 (pmC p.o p.e (Value.slice ra rl rc) (Value.slice qa ql qc) (Value.slice ga gl gc)) ∧ PmS z53 p (Value.slice ra rl rc) (Value.slice qa ql qc) (Value.slice ga gl gc) ∧ Below w.heap.size w z53 ∧ Blk z53 wo.heap.size 35 (act3C act) ∧ Blk z53 y17.heap.size 24 (pmC q.o q.e (Value.slice x16a0 x16l0 x16c0) (Value.slice x16a1 x16l1 x16c1) (Value.slice x16a2 x16l2 x16c2)) ∧ PmS z53 q (Value.slice x16a0 x16l0 x16c0) (Value.slice x16a1 x16l1 x16c1) (Value.slice x16a2 x16l2 x16c2) from ⟨HZ52.out.1.below hb HZ52.out.1.lt, HZ52.out.2.1.below hb, below_thn HZ52.out.2.2.1 hb (Nat.le_refl _), HZ52.out.2.2.2.1.below hb HZ52.out.2.2.2.1.lt, HZ52.out.2.2.2.2.1.below hb HZ52.out.2.2.2.2.1.lt, HZ52.out.2.2.2.2.2.below hb⟩)
                    clear hb
                    go_wp2_with fail
                    go_round
                    case rel => exact ⟨n + 1, by omega, by omega, by go_num, HZ54⟩
                    case measure => simp [intOf]; omega
      · as_aux_lemma =>
        subst h2
        have HKZ := Lib.hid (show (kindF act.k == 2) = true ∧ (kindF act.k == 4) = false from by rw [HKE.out]; exact ⟨rfl, rfl⟩)
        have q1 : (q.e != p.e) = true := by rw [hee]; simp; omega
        have q2 : (q.e != p.e + 1) = false := by rw [hee]; simp
        have q3 : p.e < q.e := by omega
        clear hee
        go_wp2_with (first
    | ((with_reducible refine wpList_alloc_blk y17 rfl 24 rfl (pmC 0 0 (.slice none 0 0) (.slice none 0 0) (.slice none 0 0)) Try.zeroPm ?_); intro a55 hb hbel hsz; have HA57 := Lib.hid (And.intro hb hbel); clear hb hbel hsz)
    | ((with_reducible refine wpList_store_blk a55 rfl 24 (.tmp 11) (.tmp 43) rfl y17.heap.size 24 (pmC 0 0 (.slice none 0 0) (.slice none 0 0) (.slice none 0 0)) (pmC q.o q.e (Value.slice x16a0 x16l0 x16c0) (Value.slice x16a1 x16l1 x16c1) (Value.slice x16a2 x16l2 x16c2)) HA57.out.1 rfl rfl rfl (pmC_info _ _ _ _ _) (pmC_one _ _ _ _ _ _ _ _ _ _ _) ?_); intro a56 hb hc hs; have hbw : Below y17.heap.size y17 a56 := below_ch HA57.out.2 hc (Nat.le_refl _) (fun k hk => by have e : k = y17.heap.size := hk; omega); have HA58 := Lib.hid (show Blk a56 y2.heap.size 24 (pmC p.o p.e (Value.slice ra rl rc) (Value.slice qa ql qc) (Value.slice ga gl gc)) ∧ PmS a56 p (Value.slice ra rl rc) (Value.slice qa ql qc) (Value.slice ga gl gc) ∧ Below w.heap.size w a56 ∧ Blk a56 wo.heap.size 35 (act3C act) ∧ y2.heap.size < wo.heap.size ∧ PmS a56 q (Value.slice x16a0 x16l0 x16c0) (Value.slice x16a1 x16l1 x16c1) (Value.slice x16a2 x16l2 x16c2) ∧ AbvS a13.heap.size (Value.slice x16a0 x16l0 x16c0) (Value.slice x16a1 x16l1 x16c1) (Value.slice x16a2 x16l2 x16c2) ∧ Blk a56 y17.heap.size 24 (pmC q.o q.e (Value.slice x16a0 x16l0 x16c0) (Value.slice x16a1 x16l1 x16c1) (Value.slice x16a2 x16l2 x16c2)) from ⟨HY18.out.1.below hbw HY18.out.1.lt, HY18.out.2.1.below hbw, below_thn HY18.out.2.2.1 hbw (Nat.le_refl _), HY18.out.2.2.2.1.below hbw HY18.out.2.2.2.1.lt, HY18.out.2.2.2.2.1, HY18.out.2.2.2.2.2.1.below hbw, HY18.out.2.2.2.2.2.2, hb⟩); clear hb hc hs hbw)
    | (with_reducible refine wpList_load_any rfl 35 (.tmp 10) rfl wo.heap.size 0 rfl (act3C act) _ (rangeW_blk HA58.out.2.2.2.1) Try.underlying35 rfl (act3C_info _) ?_))
        refine (HKC.out a56).mono ?_
        rintro e' y59 ⟨rfl, hb⟩
        have HY60 := Lib.hid (show Blk y59 y2.heap.size 24 (pmC p.o p.e (Value.slice ra rl rc) (Value.slice qa ql qc) (Value.slice ga gl gc)) ∧ PmS y59 p (Value.slice ra rl rc) (Value.slice qa ql qc) (Value.slice ga gl gc) ∧ Below w.heap.size w y59 ∧ Blk y59 wo.heap.size 35 (act3C act) ∧ y2.heap.size < wo.heap.size ∧ PmS y59 q (Value.slice x16a0 x16l0 x16c0) (Value.slice x16a1 x16l1 x16c1) (Value.slice x16a2 x16l2 x16c2) ∧ AbvS a13.heap.size (Value.slice x16a0 x16l0 x16c0) (Value.slice x16a1 x16l1 x16c1) (Value.slice x16a2 x16l2 x16c2) ∧ Blk y59 y17.heap.size 24 (pmC q.o q.e (Value.slice x16a0 x16l0 x16c0) (Value.slice x16a1 x16l1 x16c1) (Value.slice x16a2 x16l2 x16c2)) from ⟨HA58.out.1.below hb HA58.out.1.lt, HA58.out.2.1.below hb, below_thn HA58.out.2.2.1 hb (Nat.le_refl _), HA58.out.2.2.2.1.below hb HA58.out.2.2.2.1.lt, HA58.out.2.2.2.2.1, HA58.out.2.2.2.2.2.1.below hb, HA58.out.2.2.2.2.2.2.1, HA58.out.2.2.2.2.2.2.2.below hb HA58.out.2.2.2.2.2.2.2.lt⟩)
        clear hb
        go_wp2_with fail
        have C1 := Lib.hid (fun x => show Calls Try.prog 10 #[.agg (pmC q.o q.e (Value.slice x16a0 x16l0 x16c0) (Value.slice x16a1 x16l1 x16c1) (Value.slice x16a2 x16l2 x16c2)).toArray] (grew y59 x) (fun e w' => e = .returned (.int .i64 0) ∧ Below (grew y59 x).heap.size (grew y59 x) w') from check_of q true HOKQ.out _ _ _ (grew y59 x) (HY60.out.2.2.2.2.2.1.below (below_grew y59 x)))
        have C2 := Lib.hid (fun x => HKC.out (grew y59 x))
        have cp0 := HY60.out.1.cell 0
        have cp1 := HY60.out.1.cell 1
        have cq0 := HY60.out.2.2.2.2.2.2.2.cell 0
        have cq1 := HY60.out.2.2.2.2.2.2.2.cell 1
        simp only [pmC, List.getElem?_cons_zero, List.getElem?_cons_succ] at cp0 cp1 cq0 cq1
        replace cp0 := fun q => cell_grew cp0 q
        replace cp1 := fun q => cell_grew cp1 q
        replace cq0 := fun q => cell_grew cq0 q
        replace cq1 := fun q => cell_grew cq1 q
        refine wp_region_grew (by kernel_rfl) (by kernel_rfl) ?_
        repeat (first | go_big_quiet_skip | (go_big_quiet_want; (first | (refine quiet_load_mid 24 (.tmp 11) rfl y17.heap.size 0 rfl (pmC q.o q.e (Value.slice x16a0 x16l0 x16c0) (Value.slice x16a1 x16l1 x16c1) (Value.slice x16a2 x16l2 x16c2)) _ (fun w' hw' => rangeAt_grew (rangeAt_blk HY60.out.2.2.2.2.2.2.2) w' hw') Try.underlying24 rfl (pmC_info _ _ _ _ _) ?_; go_simp; go_big_quiet_on) | (refine quiet_load_mid 35 (.tmp 10) rfl wo.heap.size 0 rfl (act3C act) _ (fun w' hw' => rangeAt_grew (rangeAt_blk HY60.out.2.2.2.1) w' hw') Try.underlying35 rfl (act3C_info _) ?_; go_simp; go_big_quiet_on) | (go_big_quiet_op; (first | go_big_quiet_on | (apply Exists.intro; refine ⟨fun _ => ?_, ?_⟩; (focus (first | (go_at_call 10; with_reducible exact calls_grew (C1.out _)) | (go_at_call 16; with_reducible exact calls_grew (C2.out _)))); go_big_quiet_on))))))
        refine wpQuiet_nil ?_
        intro y50 hw50
        obtain ⟨x50, rfl⟩ := hw50
        have H50 := Lib.hid (show Blk (grew y59 x50) y2.heap.size 24 (pmC p.o p.e (Value.slice ra rl rc) (Value.slice qa ql qc) (Value.slice ga gl gc)) ∧ PmS (grew y59 x50) p (Value.slice ra rl rc) (Value.slice qa ql qc) (Value.slice ga gl gc) ∧ Below w.heap.size w (grew y59 x50) ∧ Blk (grew y59 x50) wo.heap.size 35 (act3C act) ∧ Blk (grew y59 x50) y17.heap.size 24 (pmC q.o q.e (Value.slice x16a0 x16l0 x16c0) (Value.slice x16a1 x16l1 x16c1) (Value.slice x16a2 x16l2 x16c2)) ∧ PmS (grew y59 x50) q (Value.slice x16a0 x16l0 x16c0) (Value.slice x16a1 x16l1 x16c1) (Value.slice x16a2 x16l2 x16c2) from ⟨HY60.out.1.below (below_grew y59 x50) HY60.out.1.lt, HY60.out.2.1.below (below_grew y59 x50), below_thn HY60.out.2.2.1 (below_grew y59 x50) (Nat.le_refl _), HY60.out.2.2.2.1.below (below_grew y59 x50) HY60.out.2.2.2.1.lt, HY60.out.2.2.2.2.2.2.2.below (below_grew y59 x50) HY60.out.2.2.2.2.2.2.2.lt, HY60.out.2.2.2.2.2.1.below (below_grew y59 x50)⟩)
        clear cp0 cp1 cq0 cq1 C1 C2
        go_wp2_with fail
        clear q1 q3 hw eo q2
        go_loopw [14] (fun c wr => ∃ n : Nat, 1 ≤ n ∧ n ≤ 7 ∧ c = .int .i64 n ∧ Hid (Blk wr y2.heap.size 24 (pmC p.o p.e (Value.slice ra rl rc) (Value.slice qa ql qc) (Value.slice ga gl gc)) ∧ PmS wr p (Value.slice ra rl rc) (Value.slice qa ql qc) (Value.slice ga gl gc) ∧ Below w.heap.size w wr ∧ Blk wr wo.heap.size 35 (act3C act) ∧ Blk wr y17.heap.size 24 (pmC q.o q.e (Value.slice x16a0 x16l0 x16c0) (Value.slice x16a1 x16l1 x16c1) (Value.slice x16a2 x16l2 x16c2)) ∧ PmS wr q (Value.slice x16a0 x16l0 x16c0) (Value.slice x16a1 x16l1 x16c1) (Value.slice x16a2 x16l2 x16c2))) (fun c _ => 7 - (intOf c).toNat)
        case atStart => exact ⟨1, by omega, by omega, rfl, H50⟩
        case round =>
          clear H50
          obtain ⟨n, hn1, hn7, rfl, HZ⟩ := hrel
          by_cases hn6 : n ≤ 6
          rotate_left
          · have hnz : ¬ (n : Int) ≤ 6 := by omega
            go_wp2_with (first
    | (with_reducible refine wpList_load_any rfl 24 (.tmp 11) rfl y17.heap.size 0 rfl (pmC q.o q.e (Value.slice x16a0 x16l0 x16c0) (Value.slice x16a1 x16l1 x16c1) (Value.slice x16a2 x16l2 x16c2)) _ (rangeW_blk HZ.out.2.2.2.2.1) Try.underlying24 rfl (pmC_info _ _ _ _ _) ?_)
    | ((with_reducible refine wpList_store_blk wr rfl 24 (.tmp 7) (.tmp 184) rfl y2.heap.size 24 (pmC p.o p.e (Value.slice ra rl rc) (Value.slice qa ql qc) (Value.slice ga gl gc)) (pmC q.o q.e (Value.slice x16a0 x16l0 x16c0) (Value.slice x16a1 x16l1 x16c1) (Value.slice x16a2 x16l2 x16c2)) HZ.out.1 rfl rfl rfl (pmC_info _ _ _ _ _) (pmC_one _ _ _ _ _ _ _ _ _ _ _) ?_); intro z99 hb hc hs; have H99 := Lib.hid (show Blk z99 y2.heap.size 24 (pmC q.o q.e (Value.slice x16a0 x16l0 x16c0) (Value.slice x16a1 x16l1 x16c1) (Value.slice x16a2 x16l2 x16c2)) ∧ PmS z99 q (Value.slice x16a0 x16l0 x16c0) (Value.slice x16a1 x16l1 x16c1) (Value.slice x16a2 x16l2 x16c2) ∧ Below w.heap.size w z99 from ⟨hb, HZ.out.2.2.2.2.2.ch hc HOFQ.out, below_ch HZ.out.2.2.1 hc (Nat.le_refl _) (fun k hk => by have e : k = y2.heap.size := hk; have := HOF.out; omega)⟩); clear hb hc hs))
            go_round
            case rel => exact ⟨k + 1, by omega, by omega, by go_num, Lib.hid ⟨q, _, _, _, _, _, _, _, _, _, HG.out.ok, HQN.out, H99.out.1, H99.out.2.1, H99.out.2.2⟩⟩
            case measure => simp [intOf]; omega
          have hnz : (n : Int) ≤ 6 := by omega
          obtain ⟨a, ha⟩ : ∃ b, mayRB p (n : Int) m = b := ⟨_, rfl⟩
          obtain ⟨b, hb⟩ : ∃ b, mayRB q (n : Int) m = b := ⟨_, rfl⟩
          obtain ⟨c, hc⟩ : ∃ b, mayWB p (n : Int) = b := ⟨_, rfl⟩
          obtain ⟨d, hd⟩ : ∃ b, mayWB q (n : Int) = b := ⟨_, rfl⟩
          obtain ⟨f, hf⟩ : ∃ b, mayRB q (n : Int) [] = b := ⟨_, rfl⟩
          obtain ⟨nw, hnw⟩ : ∃ b, ((n : Int) != act.n) = b := ⟨_, rfl⟩
          have HLW := Lib.hid (goes_b HG.out (n : Int) ha hb hc hd hf HKZ.out.1 HKZ.out.2 hnw)
          have HA := Lib.hid ha
          have HB := Lib.hid hb
          have HC := Lib.hid hc
          have HD := Lib.hid hd
          have HF := Lib.hid hf
          clear ha hb hc hd hf
          have ca := HZ.out.2.2.2.1.cell 2
          simp only [act3C, List.getElem?_cons_zero, List.getElem?_cons_succ] at ca
          go_wp2_with (with_reducible refine wpList_load_any rfl 24 (.tmp 11) rfl y17.heap.size 0 rfl (pmC q.o q.e (Value.slice x16a0 x16l0 x16c0) (Value.slice x16a1 x16l1 x16c1) (Value.slice x16a2 x16l2 x16c2)) _ (rangeW_blk HZ.out.2.2.2.2.1) Try.underlying24 rfl (pmC_info _ _ _ _ _) ?_)
          clear ca
          have h1 := mayWrite_any q (n : Int) _ _ _ wr HZ.out.2.2.2.2.2
          rw [HD.out] at h1
          refine Calls.mono h1 ?_
          clear h1
          rintro e' z61 ⟨rfl, hb⟩
          have HZ62 := Lib.hid (show Blk z61 y2.heap.size 24 (pmC p.o p.e (Value.slice ra rl rc) (Value.slice qa ql qc) (Value.slice ga gl gc)) ∧ PmS z61 p (Value.slice ra rl rc) (Value.slice qa ql qc) (Value.slice ga gl gc) ∧ Below w.heap.size w z61 ∧ Blk z61 wo.heap.size 35 (act3C act) ∧ Blk z61 y17.heap.size 24 (pmC q.o q.e (Value.slice x16a0 x16l0 x16c0) (Value.slice x16a1 x16l1 x16c1) (Value.slice x16a2 x16l2 x16c2)) ∧ PmS z61 q (Value.slice x16a0 x16l0 x16c0) (Value.slice x16a1 x16l1 x16c1) (Value.slice x16a2 x16l2 x16c2) from ⟨HZ.out.1.below hb HZ.out.1.lt, HZ.out.2.1.below hb, below_thn HZ.out.2.2.1 hb (Nat.le_refl _), HZ.out.2.2.2.1.below hb HZ.out.2.2.2.1.lt, HZ.out.2.2.2.2.1.below hb HZ.out.2.2.2.2.1.lt, HZ.out.2.2.2.2.2.below hb⟩)
          clear hb
          cases d
          · skip
            have ca := HZ62.out.2.2.2.1.cell 2
            simp only [act3C, List.getElem?_cons_zero, List.getElem?_cons_succ] at ca
            go_wp2_with (with_reducible refine wpList_load_any rfl 24 (.tmp 7) rfl y2.heap.size 0 rfl (pmC p.o p.e (Value.slice ra rl rc) (Value.slice qa ql qc) (Value.slice ga gl gc)) _ (rangeW_blk HZ62.out.1) Try.underlying24 rfl (pmC_info _ _ _ _ _) ?_)
            clear ca
            have h1 := mayRead_any p (n : Int) m _ _ _ _ z61 HZ62.out.2.1 (HSM.out.below HZ62.out.2.2.1)
            rw [HA.out] at h1
            refine Calls.mono h1 ?_
            clear h1
            rintro e' z63 ⟨rfl, hb⟩
            have HZ64 := Lib.hid (show Blk z63 y2.heap.size 24 (pmC p.o p.e (Value.slice ra rl rc) (Value.slice qa ql qc) (Value.slice ga gl gc)) ∧ PmS z63 p (Value.slice ra rl rc) (Value.slice qa ql qc) (Value.slice ga gl gc) ∧ Below w.heap.size w z63 ∧ Blk z63 wo.heap.size 35 (act3C act) ∧ Blk z63 y17.heap.size 24 (pmC q.o q.e (Value.slice x16a0 x16l0 x16c0) (Value.slice x16a1 x16l1 x16c1) (Value.slice x16a2 x16l2 x16c2)) ∧ PmS z63 q (Value.slice x16a0 x16l0 x16c0) (Value.slice x16a1 x16l1 x16c1) (Value.slice x16a2 x16l2 x16c2) from ⟨HZ62.out.1.below hb HZ62.out.1.lt, HZ62.out.2.1.below hb, below_thn HZ62.out.2.2.1 hb (Nat.le_refl _), HZ62.out.2.2.2.1.below hb HZ62.out.2.2.2.1.lt, HZ62.out.2.2.2.2.1.below hb HZ62.out.2.2.2.2.1.lt, HZ62.out.2.2.2.2.2.below hb⟩)
            clear hb
            cases a
            · skip
              have ca := HZ64.out.2.2.2.1.cell 2
              simp only [act3C, List.getElem?_cons_zero, List.getElem?_cons_succ] at ca
              go_wp2_with ((with_reducible refine wpList_load_want ?_ 24 (.tmp 7) rfl y2.heap.size 0 rfl (pmC p.o p.e (Value.slice ra rl rc) (Value.slice qa ql qc) (Value.slice ga gl gc)) _ (rangeW_blk HZ64.out.1) Try.underlying24 rfl (pmC_info _ _ _ _ _) ?_); focus rfl)
              clear ca
              have h1 := mayWrite_any p (n : Int) _ _ _ z63 HZ64.out.2.1
              rw [HC.out] at h1
              refine Calls.mono h1 ?_
              clear h1
              rintro e' z65 ⟨rfl, hb⟩
              have HZ66 := Lib.hid (show Blk z65 y2.heap.size 24 (pmC p.o p.e (Value.slice ra rl rc) (Value.slice qa ql qc) (Value.slice ga gl gc)) ∧ PmS z65 p (Value.slice ra rl rc) (Value.slice qa ql qc) (Value.slice ga gl gc) ∧ Below w.heap.size w z65 ∧ Blk z65 wo.heap.size 35 (act3C act) ∧ Blk z65 y17.heap.size 24 (pmC q.o q.e (Value.slice x16a0 x16l0 x16c0) (Value.slice x16a1 x16l1 x16c1) (Value.slice x16a2 x16l2 x16c2)) ∧ PmS z65 q (Value.slice x16a0 x16l0 x16c0) (Value.slice x16a1 x16l1 x16c1) (Value.slice x16a2 x16l2 x16c2) from ⟨HZ64.out.1.below hb HZ64.out.1.lt, HZ64.out.2.1.below hb, below_thn HZ64.out.2.2.1 hb (Nat.le_refl _), HZ64.out.2.2.2.1.below hb HZ64.out.2.2.2.1.lt, HZ64.out.2.2.2.2.1.below hb HZ64.out.2.2.2.2.1.lt, HZ64.out.2.2.2.2.2.below hb⟩)
              clear hb
              cases c
              · skip
                have ca := HZ66.out.2.2.2.1.cell 2
                simp only [act3C, List.getElem?_cons_zero, List.getElem?_cons_succ] at ca
                go_wp2_with ((with_reducible refine wpList_load_want ?_ 24 (.tmp 7) rfl y2.heap.size 0 rfl (pmC p.o p.e (Value.slice ra rl rc) (Value.slice qa ql qc) (Value.slice ga gl gc)) _ (rangeW_blk HZ66.out.1) Try.underlying24 rfl (pmC_info _ _ _ _ _) ?_); focus rfl)
                clear ca
                have h1 := mayRead_any p (n : Int) m _ _ _ _ z65 HZ66.out.2.1 (HSM.out.below HZ66.out.2.2.1)
                rw [HA.out] at h1
                refine Calls.mono h1 ?_
                clear h1
                rintro e' z67 ⟨rfl, hb⟩
                have HZ68 := Lib.hid (show Blk z67 y2.heap.size 24 (pmC p.o p.e (Value.slice ra rl rc) (Value.slice qa ql qc) (Value.slice ga gl gc)) ∧ PmS z67 p (Value.slice ra rl rc) (Value.slice qa ql qc) (Value.slice ga gl gc) ∧ Below w.heap.size w z67 ∧ Blk z67 wo.heap.size 35 (act3C act) ∧ Blk z67 y17.heap.size 24 (pmC q.o q.e (Value.slice x16a0 x16l0 x16c0) (Value.slice x16a1 x16l1 x16c1) (Value.slice x16a2 x16l2 x16c2)) ∧ PmS z67 q (Value.slice x16a0 x16l0 x16c0) (Value.slice x16a1 x16l1 x16c1) (Value.slice x16a2 x16l2 x16c2) from ⟨HZ66.out.1.below hb HZ66.out.1.lt, HZ66.out.2.1.below hb, below_thn HZ66.out.2.2.1 hb (Nat.le_refl _), HZ66.out.2.2.2.1.below hb HZ66.out.2.2.2.1.lt, HZ66.out.2.2.2.2.1.below hb HZ66.out.2.2.2.2.1.lt, HZ66.out.2.2.2.2.2.below hb⟩)
                clear hb
                have ca := HZ68.out.2.2.2.1.cell 2
                simp only [act3C, List.getElem?_cons_zero, List.getElem?_cons_succ] at ca
                go_wp2_with ((with_reducible refine wpList_load_want ?_ 24 (.tmp 11) rfl y17.heap.size 0 rfl (pmC q.o q.e (Value.slice x16a0 x16l0 x16c0) (Value.slice x16a1 x16l1 x16c1) (Value.slice x16a2 x16l2 x16c2)) _ (rangeW_blk HZ68.out.2.2.2.2.1) Try.underlying24 rfl (pmC_info _ _ _ _ _) ?_); focus rfl)
                clear ca
                have h1 := mayRead_any q (n : Int) m _ _ _ _ z67 HZ68.out.2.2.2.2.2 (HSM.out.below HZ68.out.2.2.1)
                rw [HB.out] at h1
                refine Calls.mono h1 ?_
                clear h1
                rintro e' z69 ⟨rfl, hb⟩
                have HZ70 := Lib.hid (show Blk z69 y2.heap.size 24 (pmC p.o p.e (Value.slice ra rl rc) (Value.slice qa ql qc) (Value.slice ga gl gc)) ∧ PmS z69 p (Value.slice ra rl rc) (Value.slice qa ql qc) (Value.slice ga gl gc) ∧ Below w.heap.size w z69 ∧ Blk z69 wo.heap.size 35 (act3C act) ∧ Blk z69 y17.heap.size 24 (pmC q.o q.e (Value.slice x16a0 x16l0 x16c0) (Value.slice x16a1 x16l1 x16c1) (Value.slice x16a2 x16l2 x16c2)) ∧ PmS z69 q (Value.slice x16a0 x16l0 x16c0) (Value.slice x16a1 x16l1 x16c1) (Value.slice x16a2 x16l2 x16c2) from ⟨HZ68.out.1.below hb HZ68.out.1.lt, HZ68.out.2.1.below hb, below_thn HZ68.out.2.2.1 hb (Nat.le_refl _), HZ68.out.2.2.2.1.below hb HZ68.out.2.2.2.1.lt, HZ68.out.2.2.2.2.1.below hb HZ68.out.2.2.2.2.1.lt, HZ68.out.2.2.2.2.2.below hb⟩)
                clear hb
                cases b
                · skip
                  have ca := HZ70.out.2.2.2.1.cell 2
                  simp only [act3C, List.getElem?_cons_zero, List.getElem?_cons_succ] at ca
                  go_wp2_with ((with_reducible refine wpList_load_want ?_ 24 (.tmp 7) rfl y2.heap.size 0 rfl (pmC p.o p.e (Value.slice ra rl rc) (Value.slice qa ql qc) (Value.slice ga gl gc)) _ (rangeW_blk HZ70.out.1) Try.underlying24 rfl (pmC_info _ _ _ _ _) ?_); focus rfl)
                  clear ca
                  have h1 := mayWrite_any p (n : Int) _ _ _ z69 HZ70.out.2.1
                  rw [HC.out] at h1
                  refine Calls.mono h1 ?_
                  clear h1
                  rintro e' z71 ⟨rfl, hb⟩
                  have HZ72 := Lib.hid (show Blk z71 y2.heap.size 24 (pmC p.o p.e (Value.slice ra rl rc) (Value.slice qa ql qc) (Value.slice ga gl gc)) ∧ PmS z71 p (Value.slice ra rl rc) (Value.slice qa ql qc) (Value.slice ga gl gc) ∧ Below w.heap.size w z71 ∧ Blk z71 wo.heap.size 35 (act3C act) ∧ Blk z71 y17.heap.size 24 (pmC q.o q.e (Value.slice x16a0 x16l0 x16c0) (Value.slice x16a1 x16l1 x16c1) (Value.slice x16a2 x16l2 x16c2)) ∧ PmS z71 q (Value.slice x16a0 x16l0 x16c0) (Value.slice x16a1 x16l1 x16c1) (Value.slice x16a2 x16l2 x16c2) from ⟨HZ70.out.1.below hb HZ70.out.1.lt, HZ70.out.2.1.below hb, below_thn HZ70.out.2.2.1 hb (Nat.le_refl _), HZ70.out.2.2.2.1.below hb HZ70.out.2.2.2.1.lt, HZ70.out.2.2.2.2.1.below hb HZ70.out.2.2.2.2.1.lt, HZ70.out.2.2.2.2.2.below hb⟩)
                  clear hb
                  have ca := HZ72.out.2.2.2.1.cell 2
                  simp only [act3C, List.getElem?_cons_zero, List.getElem?_cons_succ] at ca
                  go_wp2_with ((with_reducible refine wpList_load_want ?_ 24 (.tmp 11) rfl y17.heap.size 0 rfl (pmC q.o q.e (Value.slice x16a0 x16l0 x16c0) (Value.slice x16a1 x16l1 x16c1) (Value.slice x16a2 x16l2 x16c2)) _ (rangeW_blk HZ72.out.2.2.2.2.1) Try.underlying24 rfl (pmC_info _ _ _ _ _) ?_); focus rfl)
                  clear ca
                  have h1 := mayWrite_any q (n : Int) _ _ _ z71 HZ72.out.2.2.2.2.2
                  rw [HD.out] at h1
                  refine Calls.mono h1 ?_
                  clear h1
                  rintro e' z73 ⟨rfl, hb⟩
                  have HZ74 := Lib.hid (show Blk z73 y2.heap.size 24 (pmC p.o p.e (Value.slice ra rl rc) (Value.slice qa ql qc) (Value.slice ga gl gc)) ∧ PmS z73 p (Value.slice ra rl rc) (Value.slice qa ql qc) (Value.slice ga gl gc) ∧ Below w.heap.size w z73 ∧ Blk z73 wo.heap.size 35 (act3C act) ∧ Blk z73 y17.heap.size 24 (pmC q.o q.e (Value.slice x16a0 x16l0 x16c0) (Value.slice x16a1 x16l1 x16c1) (Value.slice x16a2 x16l2 x16c2)) ∧ PmS z73 q (Value.slice x16a0 x16l0 x16c0) (Value.slice x16a1 x16l1 x16c1) (Value.slice x16a2 x16l2 x16c2) from ⟨HZ72.out.1.below hb HZ72.out.1.lt, HZ72.out.2.1.below hb, below_thn HZ72.out.2.2.1 hb (Nat.le_refl _), HZ72.out.2.2.2.1.below hb HZ72.out.2.2.2.1.lt, HZ72.out.2.2.2.2.1.below hb HZ72.out.2.2.2.2.1.lt, HZ72.out.2.2.2.2.2.below hb⟩)
                  clear hb
                  go_wp2_with fail
                  go_round
                  case rel => exact ⟨n + 1, by omega, by omega, by go_num, HZ74⟩
                  case measure => simp [intOf]; omega
                · skip
                  exfalso
                  have h := HLW.out
                  simp at h
              · skip
                have ca := HZ66.out.2.2.2.1.cell 2
                simp only [act3C, List.getElem?_cons_zero, List.getElem?_cons_succ] at ca
                go_wp2_with ((with_reducible refine wpList_load_want ?_ 24 (.tmp 11) rfl y17.heap.size 0 rfl (pmC q.o q.e (Value.slice x16a0 x16l0 x16c0) (Value.slice x16a1 x16l1 x16c1) (Value.slice x16a2 x16l2 x16c2)) _ (rangeW_blk HZ66.out.2.2.2.2.1) Try.underlying24 rfl (pmC_info _ _ _ _ _) ?_); focus rfl)
                clear ca
                have h1 := mayWrite_any q (n : Int) _ _ _ z65 HZ66.out.2.2.2.2.2
                rw [HD.out] at h1
                refine Calls.mono h1 ?_
                clear h1
                rintro e' z75 ⟨rfl, hb⟩
                have HZ76 := Lib.hid (show Blk z75 y2.heap.size 24 (pmC p.o p.e (Value.slice ra rl rc) (Value.slice qa ql qc) (Value.slice ga gl gc)) ∧ PmS z75 p (Value.slice ra rl rc) (Value.slice qa ql qc) (Value.slice ga gl gc) ∧ Below w.heap.size w z75 ∧ Blk z75 wo.heap.size 35 (act3C act) ∧ Blk z75 y17.heap.size 24 (pmC q.o q.e (Value.slice x16a0 x16l0 x16c0) (Value.slice x16a1 x16l1 x16c1) (Value.slice x16a2 x16l2 x16c2)) ∧ PmS z75 q (Value.slice x16a0 x16l0 x16c0) (Value.slice x16a1 x16l1 x16c1) (Value.slice x16a2 x16l2 x16c2) from ⟨HZ66.out.1.below hb HZ66.out.1.lt, HZ66.out.2.1.below hb, below_thn HZ66.out.2.2.1 hb (Nat.le_refl _), HZ66.out.2.2.2.1.below hb HZ66.out.2.2.2.1.lt, HZ66.out.2.2.2.2.1.below hb HZ66.out.2.2.2.2.1.lt, HZ66.out.2.2.2.2.2.below hb⟩)
                clear hb
                have ca := HZ76.out.2.2.2.1.cell 2
                simp only [act3C, List.getElem?_cons_zero, List.getElem?_cons_succ] at ca
                go_wp2_with ((with_reducible refine wpList_load_want ?_ 35 (.tmp 10) rfl wo.heap.size 0 rfl (act3C act) _ (rangeW_blk HZ76.out.2.2.2.1) Try.underlying35 rfl (act3C_info _) ?_); focus rfl)
                clear ca
                refine (HKC.out z75).mono ?_
                rintro e' y77 ⟨rfl, hb⟩
                have HY78 := Lib.hid (show Blk y77 y2.heap.size 24 (pmC p.o p.e (Value.slice ra rl rc) (Value.slice qa ql qc) (Value.slice ga gl gc)) ∧ PmS y77 p (Value.slice ra rl rc) (Value.slice qa ql qc) (Value.slice ga gl gc) ∧ Below w.heap.size w y77 ∧ Blk y77 wo.heap.size 35 (act3C act) ∧ Blk y77 y17.heap.size 24 (pmC q.o q.e (Value.slice x16a0 x16l0 x16c0) (Value.slice x16a1 x16l1 x16c1) (Value.slice x16a2 x16l2 x16c2)) ∧ PmS y77 q (Value.slice x16a0 x16l0 x16c0) (Value.slice x16a1 x16l1 x16c1) (Value.slice x16a2 x16l2 x16c2) from ⟨HZ76.out.1.below hb HZ76.out.1.lt, HZ76.out.2.1.below hb, below_thn HZ76.out.2.2.1 hb (Nat.le_refl _), HZ76.out.2.2.2.1.below hb HZ76.out.2.2.2.1.lt, HZ76.out.2.2.2.2.1.below hb HZ76.out.2.2.2.2.1.lt, HZ76.out.2.2.2.2.2.below hb⟩)
                clear hb
                cases nw
                · skip
                  have ca := HY78.out.2.2.2.1.cell 2
                  simp only [act3C, List.getElem?_cons_zero, List.getElem?_cons_succ] at ca
                  go_wp2_with ((with_reducible refine wpList_load_want ?_ 24 (.tmp 7) rfl y2.heap.size 0 rfl (pmC p.o p.e (Value.slice ra rl rc) (Value.slice qa ql qc) (Value.slice ga gl gc)) _ (rangeW_blk HY78.out.1) Try.underlying24 rfl (pmC_info _ _ _ _ _) ?_); focus rfl)
                  clear ca
                  have h1 := mayRead_any p (n : Int) m _ _ _ _ y77 HY78.out.2.1 (HSM.out.below HY78.out.2.2.1)
                  rw [HA.out] at h1
                  refine Calls.mono h1 ?_
                  clear h1
                  rintro e' z79 ⟨rfl, hb⟩
                  have HZ80 := Lib.hid (show Blk z79 y2.heap.size 24 (pmC p.o p.e (Value.slice ra rl rc) (Value.slice qa ql qc) (Value.slice ga gl gc)) ∧ PmS z79 p (Value.slice ra rl rc) (Value.slice qa ql qc) (Value.slice ga gl gc) ∧ Below w.heap.size w z79 ∧ Blk z79 wo.heap.size 35 (act3C act) ∧ Blk z79 y17.heap.size 24 (pmC q.o q.e (Value.slice x16a0 x16l0 x16c0) (Value.slice x16a1 x16l1 x16c1) (Value.slice x16a2 x16l2 x16c2)) ∧ PmS z79 q (Value.slice x16a0 x16l0 x16c0) (Value.slice x16a1 x16l1 x16c1) (Value.slice x16a2 x16l2 x16c2) from ⟨HY78.out.1.below hb HY78.out.1.lt, HY78.out.2.1.below hb, below_thn HY78.out.2.2.1 hb (Nat.le_refl _), HY78.out.2.2.2.1.below hb HY78.out.2.2.2.1.lt, HY78.out.2.2.2.2.1.below hb HY78.out.2.2.2.2.1.lt, HY78.out.2.2.2.2.2.below hb⟩)
                  clear hb
                  have ca := HZ80.out.2.2.2.1.cell 2
                  simp only [act3C, List.getElem?_cons_zero, List.getElem?_cons_succ] at ca
                  go_wp2_with ((with_reducible refine wpList_load_want ?_ 24 (.tmp 11) rfl y17.heap.size 0 rfl (pmC q.o q.e (Value.slice x16a0 x16l0 x16c0) (Value.slice x16a1 x16l1 x16c1) (Value.slice x16a2 x16l2 x16c2)) _ (rangeW_blk HZ80.out.2.2.2.2.1) Try.underlying24 rfl (pmC_info _ _ _ _ _) ?_); focus rfl)
                  clear ca
                  have h1 := mayRead_any q (n : Int) m _ _ _ _ z79 HZ80.out.2.2.2.2.2 (HSM.out.below HZ80.out.2.2.1)
                  rw [HB.out] at h1
                  refine Calls.mono h1 ?_
                  clear h1
                  rintro e' z81 ⟨rfl, hb⟩
                  have HZ82 := Lib.hid (show Blk z81 y2.heap.size 24 (pmC p.o p.e (Value.slice ra rl rc) (Value.slice qa ql qc) (Value.slice ga gl gc)) ∧ PmS z81 p (Value.slice ra rl rc) (Value.slice qa ql qc) (Value.slice ga gl gc) ∧ Below w.heap.size w z81 ∧ Blk z81 wo.heap.size 35 (act3C act) ∧ Blk z81 y17.heap.size 24 (pmC q.o q.e (Value.slice x16a0 x16l0 x16c0) (Value.slice x16a1 x16l1 x16c1) (Value.slice x16a2 x16l2 x16c2)) ∧ PmS z81 q (Value.slice x16a0 x16l0 x16c0) (Value.slice x16a1 x16l1 x16c1) (Value.slice x16a2 x16l2 x16c2) from ⟨HZ80.out.1.below hb HZ80.out.1.lt, HZ80.out.2.1.below hb, below_thn HZ80.out.2.2.1 hb (Nat.le_refl _), HZ80.out.2.2.2.1.below hb HZ80.out.2.2.2.1.lt, HZ80.out.2.2.2.2.1.below hb HZ80.out.2.2.2.2.1.lt, HZ80.out.2.2.2.2.2.below hb⟩)
                  clear hb
                  cases b
                  · skip
                    have ca := HZ82.out.2.2.2.1.cell 2
                    simp only [act3C, List.getElem?_cons_zero, List.getElem?_cons_succ] at ca
                    go_wp2_with ((with_reducible refine wpList_load_want ?_ 24 (.tmp 7) rfl y2.heap.size 0 rfl (pmC p.o p.e (Value.slice ra rl rc) (Value.slice qa ql qc) (Value.slice ga gl gc)) _ (rangeW_blk HZ82.out.1) Try.underlying24 rfl (pmC_info _ _ _ _ _) ?_); focus rfl)
                    clear ca
                    have h1 := mayWrite_any p (n : Int) _ _ _ z81 HZ82.out.2.1
                    rw [HC.out] at h1
                    refine Calls.mono h1 ?_
                    clear h1
                    rintro e' z83 ⟨rfl, hb⟩
                    have HZ84 := Lib.hid (show Blk z83 y2.heap.size 24 (pmC p.o p.e (Value.slice ra rl rc) (Value.slice qa ql qc) (Value.slice ga gl gc)) ∧ PmS z83 p (Value.slice ra rl rc) (Value.slice qa ql qc) (Value.slice ga gl gc) ∧ Below w.heap.size w z83 ∧ Blk z83 wo.heap.size 35 (act3C act) ∧ Blk z83 y17.heap.size 24 (pmC q.o q.e (Value.slice x16a0 x16l0 x16c0) (Value.slice x16a1 x16l1 x16c1) (Value.slice x16a2 x16l2 x16c2)) ∧ PmS z83 q (Value.slice x16a0 x16l0 x16c0) (Value.slice x16a1 x16l1 x16c1) (Value.slice x16a2 x16l2 x16c2) from ⟨HZ82.out.1.below hb HZ82.out.1.lt, HZ82.out.2.1.below hb, below_thn HZ82.out.2.2.1 hb (Nat.le_refl _), HZ82.out.2.2.2.1.below hb HZ82.out.2.2.2.1.lt, HZ82.out.2.2.2.2.1.below hb HZ82.out.2.2.2.2.1.lt, HZ82.out.2.2.2.2.2.below hb⟩)
                    clear hb
                    go_wp2_with fail
                    go_round
                    case rel => exact ⟨n + 1, by omega, by omega, by go_num, HZ84⟩
                    case measure => simp [intOf]; omega
                  · skip
                    exfalso
                    have h := HLW.out
                    simp at h
                · skip
                  exfalso
                  have h := HLW.out
                  simp at h
            · skip
              have ca := HZ64.out.2.2.2.1.cell 2
              simp only [act3C, List.getElem?_cons_zero, List.getElem?_cons_succ] at ca
              go_wp2_with ((with_reducible refine wpList_load_want ?_ 24 (.tmp 11) rfl y17.heap.size 0 rfl (pmC q.o q.e (Value.slice x16a0 x16l0 x16c0) (Value.slice x16a1 x16l1 x16c1) (Value.slice x16a2 x16l2 x16c2)) _ (rangeW_blk HZ64.out.2.2.2.2.1) Try.underlying24 rfl (pmC_info _ _ _ _ _) ?_); focus rfl)
              clear ca
              have h1 := mayRead_any q (n : Int) m _ _ _ _ z63 HZ64.out.2.2.2.2.2 (HSM.out.below HZ64.out.2.2.1)
              rw [HB.out] at h1
              refine Calls.mono h1 ?_
              clear h1
              rintro e' z85 ⟨rfl, hb⟩
              have HZ86 := Lib.hid (show Blk z85 y2.heap.size 24 (pmC p.o p.e (Value.slice ra rl rc) (Value.slice qa ql qc) (Value.slice ga gl gc)) ∧ PmS z85 p (Value.slice ra rl rc) (Value.slice qa ql qc) (Value.slice ga gl gc) ∧ Below w.heap.size w z85 ∧ Blk z85 wo.heap.size 35 (act3C act) ∧ Blk z85 y17.heap.size 24 (pmC q.o q.e (Value.slice x16a0 x16l0 x16c0) (Value.slice x16a1 x16l1 x16c1) (Value.slice x16a2 x16l2 x16c2)) ∧ PmS z85 q (Value.slice x16a0 x16l0 x16c0) (Value.slice x16a1 x16l1 x16c1) (Value.slice x16a2 x16l2 x16c2) from ⟨HZ64.out.1.below hb HZ64.out.1.lt, HZ64.out.2.1.below hb, below_thn HZ64.out.2.2.1 hb (Nat.le_refl _), HZ64.out.2.2.2.1.below hb HZ64.out.2.2.2.1.lt, HZ64.out.2.2.2.2.1.below hb HZ64.out.2.2.2.2.1.lt, HZ64.out.2.2.2.2.2.below hb⟩)
              clear hb
              cases b
              · skip
                have ca := HZ86.out.2.2.2.1.cell 2
                simp only [act3C, List.getElem?_cons_zero, List.getElem?_cons_succ] at ca
                go_wp2_with ((with_reducible refine wpList_load_want ?_ 35 (.tmp 10) rfl wo.heap.size 0 rfl (act3C act) _ (rangeW_blk HZ86.out.2.2.2.1) Try.underlying35 rfl (act3C_info _) ?_); focus rfl)
                clear ca
                refine (HKC.out z85).mono ?_
                rintro e' y87 ⟨rfl, hb⟩
                have HY88 := Lib.hid (show Blk y87 y2.heap.size 24 (pmC p.o p.e (Value.slice ra rl rc) (Value.slice qa ql qc) (Value.slice ga gl gc)) ∧ PmS y87 p (Value.slice ra rl rc) (Value.slice qa ql qc) (Value.slice ga gl gc) ∧ Below w.heap.size w y87 ∧ Blk y87 wo.heap.size 35 (act3C act) ∧ Blk y87 y17.heap.size 24 (pmC q.o q.e (Value.slice x16a0 x16l0 x16c0) (Value.slice x16a1 x16l1 x16c1) (Value.slice x16a2 x16l2 x16c2)) ∧ PmS y87 q (Value.slice x16a0 x16l0 x16c0) (Value.slice x16a1 x16l1 x16c1) (Value.slice x16a2 x16l2 x16c2) from ⟨HZ86.out.1.below hb HZ86.out.1.lt, HZ86.out.2.1.below hb, below_thn HZ86.out.2.2.1 hb (Nat.le_refl _), HZ86.out.2.2.2.1.below hb HZ86.out.2.2.2.1.lt, HZ86.out.2.2.2.2.1.below hb HZ86.out.2.2.2.2.1.lt, HZ86.out.2.2.2.2.2.below hb⟩)
                clear hb
                cases nw
                · skip
                  have ca := HY88.out.2.2.2.1.cell 2
                  simp only [act3C, List.getElem?_cons_zero, List.getElem?_cons_succ] at ca
                  go_wp2_with ((with_reducible refine wpList_load_want ?_ 24 (.tmp 7) rfl y2.heap.size 0 rfl (pmC p.o p.e (Value.slice ra rl rc) (Value.slice qa ql qc) (Value.slice ga gl gc)) _ (rangeW_blk HY88.out.1) Try.underlying24 rfl (pmC_info _ _ _ _ _) ?_); focus rfl)
                  clear ca
                  have h1 := mayWrite_any p (n : Int) _ _ _ y87 HY88.out.2.1
                  rw [HC.out] at h1
                  refine Calls.mono h1 ?_
                  clear h1
                  rintro e' z89 ⟨rfl, hb⟩
                  have HZ90 := Lib.hid (show Blk z89 y2.heap.size 24 (pmC p.o p.e (Value.slice ra rl rc) (Value.slice qa ql qc) (Value.slice ga gl gc)) ∧ PmS z89 p (Value.slice ra rl rc) (Value.slice qa ql qc) (Value.slice ga gl gc) ∧ Below w.heap.size w z89 ∧ Blk z89 wo.heap.size 35 (act3C act) ∧ Blk z89 y17.heap.size 24 (pmC q.o q.e (Value.slice x16a0 x16l0 x16c0) (Value.slice x16a1 x16l1 x16c1) (Value.slice x16a2 x16l2 x16c2)) ∧ PmS z89 q (Value.slice x16a0 x16l0 x16c0) (Value.slice x16a1 x16l1 x16c1) (Value.slice x16a2 x16l2 x16c2) from ⟨HY88.out.1.below hb HY88.out.1.lt, HY88.out.2.1.below hb, below_thn HY88.out.2.2.1 hb (Nat.le_refl _), HY88.out.2.2.2.1.below hb HY88.out.2.2.2.1.lt, HY88.out.2.2.2.2.1.below hb HY88.out.2.2.2.2.1.lt, HY88.out.2.2.2.2.2.below hb⟩)
                  clear hb
                  cases c
                  · skip
                    have ca := HZ90.out.2.2.2.1.cell 2
                    simp only [act3C, List.getElem?_cons_zero, List.getElem?_cons_succ] at ca
                    go_wp2_with ((with_reducible refine wpList_load_want ?_ 24 (.tmp 7) rfl y2.heap.size 0 rfl (pmC p.o p.e (Value.slice ra rl rc) (Value.slice qa ql qc) (Value.slice ga gl gc)) _ (rangeW_blk HZ90.out.1) Try.underlying24 rfl (pmC_info _ _ _ _ _) ?_); focus rfl)
                    clear ca
                    have h1 := mayRead_any p (n : Int) m _ _ _ _ z89 HZ90.out.2.1 (HSM.out.below HZ90.out.2.2.1)
                    rw [HA.out] at h1
                    refine Calls.mono h1 ?_
                    clear h1
                    rintro e' z91 ⟨rfl, hb⟩
                    have HZ92 := Lib.hid (show Blk z91 y2.heap.size 24 (pmC p.o p.e (Value.slice ra rl rc) (Value.slice qa ql qc) (Value.slice ga gl gc)) ∧ PmS z91 p (Value.slice ra rl rc) (Value.slice qa ql qc) (Value.slice ga gl gc) ∧ Below w.heap.size w z91 ∧ Blk z91 wo.heap.size 35 (act3C act) ∧ Blk z91 y17.heap.size 24 (pmC q.o q.e (Value.slice x16a0 x16l0 x16c0) (Value.slice x16a1 x16l1 x16c1) (Value.slice x16a2 x16l2 x16c2)) ∧ PmS z91 q (Value.slice x16a0 x16l0 x16c0) (Value.slice x16a1 x16l1 x16c1) (Value.slice x16a2 x16l2 x16c2) from ⟨HZ90.out.1.below hb HZ90.out.1.lt, HZ90.out.2.1.below hb, below_thn HZ90.out.2.2.1 hb (Nat.le_refl _), HZ90.out.2.2.2.1.below hb HZ90.out.2.2.2.1.lt, HZ90.out.2.2.2.2.1.below hb HZ90.out.2.2.2.2.1.lt, HZ90.out.2.2.2.2.2.below hb⟩)
                    clear hb
                    have ca := HZ92.out.2.2.2.1.cell 2
                    simp only [act3C, List.getElem?_cons_zero, List.getElem?_cons_succ] at ca
                    go_wp2_with ((with_reducible refine wpList_load_want ?_ 24 (.tmp 7) rfl y2.heap.size 0 rfl (pmC p.o p.e (Value.slice ra rl rc) (Value.slice qa ql qc) (Value.slice ga gl gc)) _ (rangeW_blk HZ92.out.1) Try.underlying24 rfl (pmC_info _ _ _ _ _) ?_); focus rfl)
                    clear ca
                    have h1 := mayWrite_any p (n : Int) _ _ _ z91 HZ92.out.2.1
                    rw [HC.out] at h1
                    refine Calls.mono h1 ?_
                    clear h1
                    rintro e' z93 ⟨rfl, hb⟩
                    have HZ94 := Lib.hid (show Blk z93 y2.heap.size 24 (pmC p.o p.e (Value.slice ra rl rc) (Value.slice qa ql qc) (Value.slice ga gl gc)) ∧ PmS z93 p (Value.slice ra rl rc) (Value.slice qa ql qc) (Value.slice ga gl gc) ∧ Below w.heap.size w z93 ∧ Blk z93 wo.heap.size 35 (act3C act) ∧ Blk z93 y17.heap.size 24 (pmC q.o q.e (Value.slice x16a0 x16l0 x16c0) (Value.slice x16a1 x16l1 x16c1) (Value.slice x16a2 x16l2 x16c2)) ∧ PmS z93 q (Value.slice x16a0 x16l0 x16c0) (Value.slice x16a1 x16l1 x16c1) (Value.slice x16a2 x16l2 x16c2) from ⟨HZ92.out.1.below hb HZ92.out.1.lt, HZ92.out.2.1.below hb, below_thn HZ92.out.2.2.1 hb (Nat.le_refl _), HZ92.out.2.2.2.1.below hb HZ92.out.2.2.2.1.lt, HZ92.out.2.2.2.2.1.below hb HZ92.out.2.2.2.2.1.lt, HZ92.out.2.2.2.2.2.below hb⟩)
                    clear hb
                    have ca := HZ94.out.2.2.2.1.cell 2
                    simp only [act3C, List.getElem?_cons_zero, List.getElem?_cons_succ] at ca
                    go_wp2_with ((with_reducible refine wpList_load_want ?_ 24 (.tmp 11) rfl y17.heap.size 0 rfl (pmC q.o q.e (Value.slice x16a0 x16l0 x16c0) (Value.slice x16a1 x16l1 x16c1) (Value.slice x16a2 x16l2 x16c2)) _ (rangeW_blk HZ94.out.2.2.2.2.1) Try.underlying24 rfl (pmC_info _ _ _ _ _) ?_); focus rfl)
                    clear ca
                    have h1 := mayWrite_any q (n : Int) _ _ _ z93 HZ94.out.2.2.2.2.2
                    rw [HD.out] at h1
                    refine Calls.mono h1 ?_
                    clear h1
                    rintro e' z95 ⟨rfl, hb⟩
                    have HZ96 := Lib.hid (show Blk z95 y2.heap.size 24 (pmC p.o p.e (Value.slice ra rl rc) (Value.slice qa ql qc) (Value.slice ga gl gc)) ∧ PmS z95 p (Value.slice ra rl rc) (Value.slice qa ql qc) (Value.slice ga gl gc) ∧ Below w.heap.size w z95 ∧ Blk z95 wo.heap.size 35 (act3C act) ∧ Blk z95 y17.heap.size 24 (pmC q.o q.e (Value.slice x16a0 x16l0 x16c0) (Value.slice x16a1 x16l1 x16c1) (Value.slice x16a2 x16l2 x16c2)) ∧ PmS z95 q (Value.slice x16a0 x16l0 x16c0) (Value.slice x16a1 x16l1 x16c1) (Value.slice x16a2 x16l2 x16c2) from ⟨HZ94.out.1.below hb HZ94.out.1.lt, HZ94.out.2.1.below hb, below_thn HZ94.out.2.2.1 hb (Nat.le_refl _), HZ94.out.2.2.2.1.below hb HZ94.out.2.2.2.1.lt, HZ94.out.2.2.2.2.1.below hb HZ94.out.2.2.2.2.1.lt, HZ94.out.2.2.2.2.2.below hb⟩)
                    clear hb
                    go_wp2_with fail
                    go_round
                    case rel => exact ⟨n + 1, by omega, by omega, by go_num, HZ96⟩
                    case measure => simp [intOf]; omega
                  · skip
                    have ca := HZ90.out.2.2.2.1.cell 2
                    simp only [act3C, List.getElem?_cons_zero, List.getElem?_cons_succ] at ca
                    go_wp2_with ((with_reducible refine wpList_load_want ?_ 24 (.tmp 11) rfl y17.heap.size 0 rfl (pmC q.o q.e (Value.slice x16a0 x16l0 x16c0) (Value.slice x16a1 x16l1 x16c1) (Value.slice x16a2 x16l2 x16c2)) _ (rangeW_blk HZ90.out.2.2.2.2.1) Try.underlying24 rfl (pmC_info _ _ _ _ _) ?_); focus rfl)
                    clear ca
                    have h1 := mayWrite_any q (n : Int) _ _ _ z89 HZ90.out.2.2.2.2.2
                    rw [HD.out] at h1
                    refine Calls.mono h1 ?_
                    clear h1
                    rintro e' z97 ⟨rfl, hb⟩
                    have HZ98 := Lib.hid (show Blk z97 y2.heap.size 24 (pmC p.o p.e (Value.slice ra rl rc) (Value.slice qa ql qc) (Value.slice ga gl gc)) ∧ PmS z97 p (Value.slice ra rl rc) (Value.slice qa ql qc) (Value.slice ga gl gc) ∧ Below w.heap.size w z97 ∧ Blk z97 wo.heap.size 35 (act3C act) ∧ Blk z97 y17.heap.size 24 (pmC q.o q.e (Value.slice x16a0 x16l0 x16c0) (Value.slice x16a1 x16l1 x16c1) (Value.slice x16a2 x16l2 x16c2)) ∧ PmS z97 q (Value.slice x16a0 x16l0 x16c0) (Value.slice x16a1 x16l1 x16c1) (Value.slice x16a2 x16l2 x16c2) from ⟨HZ90.out.1.below hb HZ90.out.1.lt, HZ90.out.2.1.below hb, below_thn HZ90.out.2.2.1 hb (Nat.le_refl _), HZ90.out.2.2.2.1.below hb HZ90.out.2.2.2.1.lt, HZ90.out.2.2.2.2.1.below hb HZ90.out.2.2.2.2.1.lt, HZ90.out.2.2.2.2.2.below hb⟩)
                    clear hb
                    have ca := HZ98.out.2.2.2.1.cell 2
                    simp only [act3C, List.getElem?_cons_zero, List.getElem?_cons_succ] at ca
                    go_wp2_with ((with_reducible refine wpList_load_want ?_ 35 (.tmp 10) rfl wo.heap.size 0 rfl (act3C act) _ (rangeW_blk HZ98.out.2.2.2.1) Try.underlying35 rfl (act3C_info _) ?_); focus rfl)
                    clear ca
                    refine (HKC.out z97).mono ?_
                    rintro e' y99 ⟨rfl, hb⟩
                    have HY100 := Lib.hid (show Blk y99 y2.heap.size 24 (pmC p.o p.e (Value.slice ra rl rc) (Value.slice qa ql qc) (Value.slice ga gl gc)) ∧ PmS y99 p (Value.slice ra rl rc) (Value.slice qa ql qc) (Value.slice ga gl gc) ∧ Below w.heap.size w y99 ∧ Blk y99 wo.heap.size 35 (act3C act) ∧ Blk y99 y17.heap.size 24 (pmC q.o q.e (Value.slice x16a0 x16l0 x16c0) (Value.slice x16a1 x16l1 x16c1) (Value.slice x16a2 x16l2 x16c2)) ∧ PmS y99 q (Value.slice x16a0 x16l0 x16c0) (Value.slice x16a1 x16l1 x16c1) (Value.slice x16a2 x16l2 x16c2) from ⟨HZ98.out.1.below hb HZ98.out.1.lt, HZ98.out.2.1.below hb, below_thn HZ98.out.2.2.1 hb (Nat.le_refl _), HZ98.out.2.2.2.1.below hb HZ98.out.2.2.2.1.lt, HZ98.out.2.2.2.2.1.below hb HZ98.out.2.2.2.2.1.lt, HZ98.out.2.2.2.2.2.below hb⟩)
                    clear hb
                    have ca := HY100.out.2.2.2.1.cell 2
                    simp only [act3C, List.getElem?_cons_zero, List.getElem?_cons_succ] at ca
                    go_wp2_with ((with_reducible refine wpList_load_want ?_ 24 (.tmp 7) rfl y2.heap.size 0 rfl (pmC p.o p.e (Value.slice ra rl rc) (Value.slice qa ql qc) (Value.slice ga gl gc)) _ (rangeW_blk HY100.out.1) Try.underlying24 rfl (pmC_info _ _ _ _ _) ?_); focus rfl)
                    clear ca
                    have h1 := mayRead_any p (n : Int) m _ _ _ _ y99 HY100.out.2.1 (HSM.out.below HY100.out.2.2.1)
                    rw [HA.out] at h1
                    refine Calls.mono h1 ?_
                    clear h1
                    rintro e' z101 ⟨rfl, hb⟩
                    have HZ102 := Lib.hid (show Blk z101 y2.heap.size 24 (pmC p.o p.e (Value.slice ra rl rc) (Value.slice qa ql qc) (Value.slice ga gl gc)) ∧ PmS z101 p (Value.slice ra rl rc) (Value.slice qa ql qc) (Value.slice ga gl gc) ∧ Below w.heap.size w z101 ∧ Blk z101 wo.heap.size 35 (act3C act) ∧ Blk z101 y17.heap.size 24 (pmC q.o q.e (Value.slice x16a0 x16l0 x16c0) (Value.slice x16a1 x16l1 x16c1) (Value.slice x16a2 x16l2 x16c2)) ∧ PmS z101 q (Value.slice x16a0 x16l0 x16c0) (Value.slice x16a1 x16l1 x16c1) (Value.slice x16a2 x16l2 x16c2) from ⟨HY100.out.1.below hb HY100.out.1.lt, HY100.out.2.1.below hb, below_thn HY100.out.2.2.1 hb (Nat.le_refl _), HY100.out.2.2.2.1.below hb HY100.out.2.2.2.1.lt, HY100.out.2.2.2.2.1.below hb HY100.out.2.2.2.2.1.lt, HY100.out.2.2.2.2.2.below hb⟩)
                    clear hb
                    have ca := HZ102.out.2.2.2.1.cell 2
                    simp only [act3C, List.getElem?_cons_zero, List.getElem?_cons_succ] at ca
                    go_wp2_with ((with_reducible refine wpList_load_want ?_ 24 (.tmp 7) rfl y2.heap.size 0 rfl (pmC p.o p.e (Value.slice ra rl rc) (Value.slice qa ql qc) (Value.slice ga gl gc)) _ (rangeW_blk HZ102.out.1) Try.underlying24 rfl (pmC_info _ _ _ _ _) ?_); focus rfl)
                    clear ca
                    have h1 := mayWrite_any p (n : Int) _ _ _ z101 HZ102.out.2.1
                    rw [HC.out] at h1
                    refine Calls.mono h1 ?_
                    clear h1
                    rintro e' z103 ⟨rfl, hb⟩
                    have HZ104 := Lib.hid (show Blk z103 y2.heap.size 24 (pmC p.o p.e (Value.slice ra rl rc) (Value.slice qa ql qc) (Value.slice ga gl gc)) ∧ PmS z103 p (Value.slice ra rl rc) (Value.slice qa ql qc) (Value.slice ga gl gc) ∧ Below w.heap.size w z103 ∧ Blk z103 wo.heap.size 35 (act3C act) ∧ Blk z103 y17.heap.size 24 (pmC q.o q.e (Value.slice x16a0 x16l0 x16c0) (Value.slice x16a1 x16l1 x16c1) (Value.slice x16a2 x16l2 x16c2)) ∧ PmS z103 q (Value.slice x16a0 x16l0 x16c0) (Value.slice x16a1 x16l1 x16c1) (Value.slice x16a2 x16l2 x16c2) from ⟨HZ102.out.1.below hb HZ102.out.1.lt, HZ102.out.2.1.below hb, below_thn HZ102.out.2.2.1 hb (Nat.le_refl _), HZ102.out.2.2.2.1.below hb HZ102.out.2.2.2.1.lt, HZ102.out.2.2.2.2.1.below hb HZ102.out.2.2.2.2.1.lt, HZ102.out.2.2.2.2.2.below hb⟩)
                    clear hb
                    go_wp2_with fail
                    go_round
                    case rel => exact ⟨n + 1, by omega, by omega, by go_num, HZ104⟩
                    case measure => simp [intOf]; omega
                · skip
                  exfalso
                  have h := HLW.out
                  simp at h
              · skip
                have ca := HZ86.out.2.2.2.1.cell 2
                simp only [act3C, List.getElem?_cons_zero, List.getElem?_cons_succ] at ca
                go_wp2_with ((with_reducible refine wpList_load_want ?_ 24 (.tmp 7) rfl y2.heap.size 0 rfl (pmC p.o p.e (Value.slice ra rl rc) (Value.slice qa ql qc) (Value.slice ga gl gc)) _ (rangeW_blk HZ86.out.1) Try.underlying24 rfl (pmC_info _ _ _ _ _) ?_); focus rfl)
                clear ca
                have h1 := mayWrite_any p (n : Int) _ _ _ z85 HZ86.out.2.1
                rw [HC.out] at h1
                refine Calls.mono h1 ?_
                clear h1
                rintro e' z105 ⟨rfl, hb⟩
                have HZ106 := Lib.hid (show Blk z105 y2.heap.size 24 (pmC p.o p.e (Value.slice ra rl rc) (Value.slice qa ql qc) (Value.slice ga gl gc)) ∧ PmS z105 p (Value.slice ra rl rc) (Value.slice qa ql qc) (Value.slice ga gl gc) ∧ Below w.heap.size w z105 ∧ Blk z105 wo.heap.size 35 (act3C act) ∧ Blk z105 y17.heap.size 24 (pmC q.o q.e (Value.slice x16a0 x16l0 x16c0) (Value.slice x16a1 x16l1 x16c1) (Value.slice x16a2 x16l2 x16c2)) ∧ PmS z105 q (Value.slice x16a0 x16l0 x16c0) (Value.slice x16a1 x16l1 x16c1) (Value.slice x16a2 x16l2 x16c2) from ⟨HZ86.out.1.below hb HZ86.out.1.lt, HZ86.out.2.1.below hb, below_thn HZ86.out.2.2.1 hb (Nat.le_refl _), HZ86.out.2.2.2.1.below hb HZ86.out.2.2.2.1.lt, HZ86.out.2.2.2.2.1.below hb HZ86.out.2.2.2.2.1.lt, HZ86.out.2.2.2.2.2.below hb⟩)
                clear hb
                cases c
                · skip
                  have ca := HZ106.out.2.2.2.1.cell 2
                  simp only [act3C, List.getElem?_cons_zero, List.getElem?_cons_succ] at ca
                  go_wp2_with ((with_reducible refine wpList_load_want ?_ 24 (.tmp 7) rfl y2.heap.size 0 rfl (pmC p.o p.e (Value.slice ra rl rc) (Value.slice qa ql qc) (Value.slice ga gl gc)) _ (rangeW_blk HZ106.out.1) Try.underlying24 rfl (pmC_info _ _ _ _ _) ?_); focus rfl)
                  clear ca
                  have h1 := mayRead_any p (n : Int) m _ _ _ _ z105 HZ106.out.2.1 (HSM.out.below HZ106.out.2.2.1)
                  rw [HA.out] at h1
                  refine Calls.mono h1 ?_
                  clear h1
                  rintro e' z107 ⟨rfl, hb⟩
                  have HZ108 := Lib.hid (show Blk z107 y2.heap.size 24 (pmC p.o p.e (Value.slice ra rl rc) (Value.slice qa ql qc) (Value.slice ga gl gc)) ∧ PmS z107 p (Value.slice ra rl rc) (Value.slice qa ql qc) (Value.slice ga gl gc) ∧ Below w.heap.size w z107 ∧ Blk z107 wo.heap.size 35 (act3C act) ∧ Blk z107 y17.heap.size 24 (pmC q.o q.e (Value.slice x16a0 x16l0 x16c0) (Value.slice x16a1 x16l1 x16c1) (Value.slice x16a2 x16l2 x16c2)) ∧ PmS z107 q (Value.slice x16a0 x16l0 x16c0) (Value.slice x16a1 x16l1 x16c1) (Value.slice x16a2 x16l2 x16c2) from ⟨HZ106.out.1.below hb HZ106.out.1.lt, HZ106.out.2.1.below hb, below_thn HZ106.out.2.2.1 hb (Nat.le_refl _), HZ106.out.2.2.2.1.below hb HZ106.out.2.2.2.1.lt, HZ106.out.2.2.2.2.1.below hb HZ106.out.2.2.2.2.1.lt, HZ106.out.2.2.2.2.2.below hb⟩)
                  clear hb
                  have ca := HZ108.out.2.2.2.1.cell 2
                  simp only [act3C, List.getElem?_cons_zero, List.getElem?_cons_succ] at ca
                  go_wp2_with ((with_reducible refine wpList_load_want ?_ 24 (.tmp 7) rfl y2.heap.size 0 rfl (pmC p.o p.e (Value.slice ra rl rc) (Value.slice qa ql qc) (Value.slice ga gl gc)) _ (rangeW_blk HZ108.out.1) Try.underlying24 rfl (pmC_info _ _ _ _ _) ?_); focus rfl)
                  clear ca
                  have h1 := mayWrite_any p (n : Int) _ _ _ z107 HZ108.out.2.1
                  rw [HC.out] at h1
                  refine Calls.mono h1 ?_
                  clear h1
                  rintro e' z109 ⟨rfl, hb⟩
                  have HZ110 := Lib.hid (show Blk z109 y2.heap.size 24 (pmC p.o p.e (Value.slice ra rl rc) (Value.slice qa ql qc) (Value.slice ga gl gc)) ∧ PmS z109 p (Value.slice ra rl rc) (Value.slice qa ql qc) (Value.slice ga gl gc) ∧ Below w.heap.size w z109 ∧ Blk z109 wo.heap.size 35 (act3C act) ∧ Blk z109 y17.heap.size 24 (pmC q.o q.e (Value.slice x16a0 x16l0 x16c0) (Value.slice x16a1 x16l1 x16c1) (Value.slice x16a2 x16l2 x16c2)) ∧ PmS z109 q (Value.slice x16a0 x16l0 x16c0) (Value.slice x16a1 x16l1 x16c1) (Value.slice x16a2 x16l2 x16c2) from ⟨HZ108.out.1.below hb HZ108.out.1.lt, HZ108.out.2.1.below hb, below_thn HZ108.out.2.2.1 hb (Nat.le_refl _), HZ108.out.2.2.2.1.below hb HZ108.out.2.2.2.1.lt, HZ108.out.2.2.2.2.1.below hb HZ108.out.2.2.2.2.1.lt, HZ108.out.2.2.2.2.2.below hb⟩)
                  clear hb
                  have ca := HZ110.out.2.2.2.1.cell 2
                  simp only [act3C, List.getElem?_cons_zero, List.getElem?_cons_succ] at ca
                  go_wp2_with ((with_reducible refine wpList_load_want ?_ 24 (.tmp 11) rfl y17.heap.size 0 rfl (pmC q.o q.e (Value.slice x16a0 x16l0 x16c0) (Value.slice x16a1 x16l1 x16c1) (Value.slice x16a2 x16l2 x16c2)) _ (rangeW_blk HZ110.out.2.2.2.2.1) Try.underlying24 rfl (pmC_info _ _ _ _ _) ?_); focus rfl)
                  clear ca
                  have h1 := mayWrite_any q (n : Int) _ _ _ z109 HZ110.out.2.2.2.2.2
                  rw [HD.out] at h1
                  refine Calls.mono h1 ?_
                  clear h1
                  rintro e' z111 ⟨rfl, hb⟩
                  have HZ112 := Lib.hid (show Blk z111 y2.heap.size 24 (pmC p.o p.e (Value.slice ra rl rc) (Value.slice qa ql qc) (Value.slice ga gl gc)) ∧ PmS z111 p (Value.slice ra rl rc) (Value.slice qa ql qc) (Value.slice ga gl gc) ∧ Below w.heap.size w z111 ∧ Blk z111 wo.heap.size 35 (act3C act) ∧ Blk z111 y17.heap.size 24 (pmC q.o q.e (Value.slice x16a0 x16l0 x16c0) (Value.slice x16a1 x16l1 x16c1) (Value.slice x16a2 x16l2 x16c2)) ∧ PmS z111 q (Value.slice x16a0 x16l0 x16c0) (Value.slice x16a1 x16l1 x16c1) (Value.slice x16a2 x16l2 x16c2) from ⟨HZ110.out.1.below hb HZ110.out.1.lt, HZ110.out.2.1.below hb, below_thn HZ110.out.2.2.1 hb (Nat.le_refl _), HZ110.out.2.2.2.1.below hb HZ110.out.2.2.2.1.lt, HZ110.out.2.2.2.2.1.below hb HZ110.out.2.2.2.2.1.lt, HZ110.out.2.2.2.2.2.below hb⟩)
                  clear hb
                  go_wp2_with fail
                  go_round
                  case rel => exact ⟨n + 1, by omega, by omega, by go_num, HZ112⟩
                  case measure => simp [intOf]; omega
                · skip
                  have ca := HZ106.out.2.2.2.1.cell 2
                  simp only [act3C, List.getElem?_cons_zero, List.getElem?_cons_succ] at ca
                  go_wp2_with ((with_reducible refine wpList_load_want ?_ 24 (.tmp 11) rfl y17.heap.size 0 rfl (pmC q.o q.e (Value.slice x16a0 x16l0 x16c0) (Value.slice x16a1 x16l1 x16c1) (Value.slice x16a2 x16l2 x16c2)) _ (rangeW_blk HZ106.out.2.2.2.2.1) Try.underlying24 rfl (pmC_info _ _ _ _ _) ?_); focus rfl)
                  clear ca
                  have h1 := mayWrite_any q (n : Int) _ _ _ z105 HZ106.out.2.2.2.2.2
                  rw [HD.out] at h1
                  refine Calls.mono h1 ?_
                  clear h1
                  rintro e' z113 ⟨rfl, hb⟩
                  have HZ114 := Lib.hid (show Blk z113 y2.heap.size 24 (pmC p.o p.e (Value.slice ra rl rc) (Value.slice qa ql qc) (Value.slice ga gl gc)) ∧ PmS z113 p (Value.slice ra rl rc) (Value.slice qa ql qc) (Value.slice ga gl gc) ∧ Below w.heap.size w z113 ∧ Blk z113 wo.heap.size 35 (act3C act) ∧ Blk z113 y17.heap.size 24 (pmC q.o q.e (Value.slice x16a0 x16l0 x16c0) (Value.slice x16a1 x16l1 x16c1) (Value.slice x16a2 x16l2 x16c2)) ∧ PmS z113 q (Value.slice x16a0 x16l0 x16c0) (Value.slice x16a1 x16l1 x16c1) (Value.slice x16a2 x16l2 x16c2) from ⟨HZ106.out.1.below hb HZ106.out.1.lt, HZ106.out.2.1.below hb, below_thn HZ106.out.2.2.1 hb (Nat.le_refl _), HZ106.out.2.2.2.1.below hb HZ106.out.2.2.2.1.lt, HZ106.out.2.2.2.2.1.below hb HZ106.out.2.2.2.2.1.lt, HZ106.out.2.2.2.2.2.below hb⟩)
                  clear hb
                  have ca := HZ114.out.2.2.2.1.cell 2
                  simp only [act3C, List.getElem?_cons_zero, List.getElem?_cons_succ] at ca
                  go_wp2_with ((with_reducible refine wpList_load_want ?_ 35 (.tmp 10) rfl wo.heap.size 0 rfl (act3C act) _ (rangeW_blk HZ114.out.2.2.2.1) Try.underlying35 rfl (act3C_info _) ?_); focus rfl)
                  clear ca
                  refine (HKC.out z113).mono ?_
                  rintro e' y115 ⟨rfl, hb⟩
                  have HY116 := Lib.hid (show Blk y115 y2.heap.size 24 (pmC p.o p.e (Value.slice ra rl rc) (Value.slice qa ql qc) (Value.slice ga gl gc)) ∧ PmS y115 p (Value.slice ra rl rc) (Value.slice qa ql qc) (Value.slice ga gl gc) ∧ Below w.heap.size w y115 ∧ Blk y115 wo.heap.size 35 (act3C act) ∧ Blk y115 y17.heap.size 24 (pmC q.o q.e (Value.slice x16a0 x16l0 x16c0) (Value.slice x16a1 x16l1 x16c1) (Value.slice x16a2 x16l2 x16c2)) ∧ PmS y115 q (Value.slice x16a0 x16l0 x16c0) (Value.slice x16a1 x16l1 x16c1) (Value.slice x16a2 x16l2 x16c2) from ⟨HZ114.out.1.below hb HZ114.out.1.lt, HZ114.out.2.1.below hb, below_thn HZ114.out.2.2.1 hb (Nat.le_refl _), HZ114.out.2.2.2.1.below hb HZ114.out.2.2.2.1.lt, HZ114.out.2.2.2.2.1.below hb HZ114.out.2.2.2.2.1.lt, HZ114.out.2.2.2.2.2.below hb⟩)
                  clear hb
                  cases nw
                  · skip
                    have ca := HY116.out.2.2.2.1.cell 2
                    simp only [act3C, List.getElem?_cons_zero, List.getElem?_cons_succ] at ca
                    go_wp2_with ((with_reducible refine wpList_load_want ?_ 24 (.tmp 7) rfl y2.heap.size 0 rfl (pmC p.o p.e (Value.slice ra rl rc) (Value.slice qa ql qc) (Value.slice ga gl gc)) _ (rangeW_blk HY116.out.1) Try.underlying24 rfl (pmC_info _ _ _ _ _) ?_); focus rfl)
                    clear ca
                    have h1 := mayRead_any p (n : Int) m _ _ _ _ y115 HY116.out.2.1 (HSM.out.below HY116.out.2.2.1)
                    rw [HA.out] at h1
                    refine Calls.mono h1 ?_
                    clear h1
                    rintro e' z117 ⟨rfl, hb⟩
                    have HZ118 := Lib.hid (show Blk z117 y2.heap.size 24 (pmC p.o p.e (Value.slice ra rl rc) (Value.slice qa ql qc) (Value.slice ga gl gc)) ∧ PmS z117 p (Value.slice ra rl rc) (Value.slice qa ql qc) (Value.slice ga gl gc) ∧ Below w.heap.size w z117 ∧ Blk z117 wo.heap.size 35 (act3C act) ∧ Blk z117 y17.heap.size 24 (pmC q.o q.e (Value.slice x16a0 x16l0 x16c0) (Value.slice x16a1 x16l1 x16c1) (Value.slice x16a2 x16l2 x16c2)) ∧ PmS z117 q (Value.slice x16a0 x16l0 x16c0) (Value.slice x16a1 x16l1 x16c1) (Value.slice x16a2 x16l2 x16c2) from ⟨HY116.out.1.below hb HY116.out.1.lt, HY116.out.2.1.below hb, below_thn HY116.out.2.2.1 hb (Nat.le_refl _), HY116.out.2.2.2.1.below hb HY116.out.2.2.2.1.lt, HY116.out.2.2.2.2.1.below hb HY116.out.2.2.2.2.1.lt, HY116.out.2.2.2.2.2.below hb⟩)
                    clear hb
                    have ca := HZ118.out.2.2.2.1.cell 2
                    simp only [act3C, List.getElem?_cons_zero, List.getElem?_cons_succ] at ca
                    go_wp2_with ((with_reducible refine wpList_load_want ?_ 24 (.tmp 7) rfl y2.heap.size 0 rfl (pmC p.o p.e (Value.slice ra rl rc) (Value.slice qa ql qc) (Value.slice ga gl gc)) _ (rangeW_blk HZ118.out.1) Try.underlying24 rfl (pmC_info _ _ _ _ _) ?_); focus rfl)
                    clear ca
                    have h1 := mayWrite_any p (n : Int) _ _ _ z117 HZ118.out.2.1
                    rw [HC.out] at h1
                    refine Calls.mono h1 ?_
                    clear h1
                    rintro e' z119 ⟨rfl, hb⟩
                    have HZ120 := Lib.hid (show Blk z119 y2.heap.size 24 (pmC p.o p.e (Value.slice ra rl rc) (Value.slice qa ql qc) (Value.slice ga gl gc)) ∧ PmS z119 p (Value.slice ra rl rc) (Value.slice qa ql qc) (Value.slice ga gl gc) ∧ Below w.heap.size w z119 ∧ Blk z119 wo.heap.size 35 (act3C act) ∧ Blk z119 y17.heap.size 24 (pmC q.o q.e (Value.slice x16a0 x16l0 x16c0) (Value.slice x16a1 x16l1 x16c1) (Value.slice x16a2 x16l2 x16c2)) ∧ PmS z119 q (Value.slice x16a0 x16l0 x16c0) (Value.slice x16a1 x16l1 x16c1) (Value.slice x16a2 x16l2 x16c2) from ⟨HZ118.out.1.below hb HZ118.out.1.lt, HZ118.out.2.1.below hb, below_thn HZ118.out.2.2.1 hb (Nat.le_refl _), HZ118.out.2.2.2.1.below hb HZ118.out.2.2.2.1.lt, HZ118.out.2.2.2.2.1.below hb HZ118.out.2.2.2.2.1.lt, HZ118.out.2.2.2.2.2.below hb⟩)
                    clear hb
                    go_wp2_with fail
                    go_round
                    case rel => exact ⟨n + 1, by omega, by omega, by go_num, HZ120⟩
                    case measure => simp [intOf]; omega
                  · skip
                    exfalso
                    have h := HLW.out
                    simp at h
          · skip
            have ca := HZ62.out.2.2.2.1.cell 2
            simp only [act3C, List.getElem?_cons_zero, List.getElem?_cons_succ] at ca
            go_wp2_with ((with_reducible refine wpList_load_want ?_ 24 (.tmp 11) rfl y17.heap.size 0 rfl (pmC q.o q.e (Value.slice x16a0 x16l0 x16c0) (Value.slice x16a1 x16l1 x16c1) (Value.slice x16a2 x16l2 x16c2)) _ (rangeW_blk HZ62.out.2.2.2.2.1) Try.underlying24 rfl (pmC_info _ _ _ _ _) ?_); focus rfl)
            clear ca
            have h1 := mayRead_any q (n : Int) [] _ _ _ _ z61 HZ62.out.2.2.2.2.2 (SlP.nil_ _ _ _)
            rw [HF.out] at h1
            refine Calls.mono h1 ?_
            clear h1
            rintro e' z121 ⟨rfl, hb⟩
            have HZ122 := Lib.hid (show Blk z121 y2.heap.size 24 (pmC p.o p.e (Value.slice ra rl rc) (Value.slice qa ql qc) (Value.slice ga gl gc)) ∧ PmS z121 p (Value.slice ra rl rc) (Value.slice qa ql qc) (Value.slice ga gl gc) ∧ Below w.heap.size w z121 ∧ Blk z121 wo.heap.size 35 (act3C act) ∧ Blk z121 y17.heap.size 24 (pmC q.o q.e (Value.slice x16a0 x16l0 x16c0) (Value.slice x16a1 x16l1 x16c1) (Value.slice x16a2 x16l2 x16c2)) ∧ PmS z121 q (Value.slice x16a0 x16l0 x16c0) (Value.slice x16a1 x16l1 x16c1) (Value.slice x16a2 x16l2 x16c2) from ⟨HZ62.out.1.below hb HZ62.out.1.lt, HZ62.out.2.1.below hb, below_thn HZ62.out.2.2.1 hb (Nat.le_refl _), HZ62.out.2.2.2.1.below hb HZ62.out.2.2.2.1.lt, HZ62.out.2.2.2.2.1.below hb HZ62.out.2.2.2.2.1.lt, HZ62.out.2.2.2.2.2.below hb⟩)
            clear hb
            cases f
            · skip
              exfalso
              have h := HLW.out
              simp at h
            · skip
              have ca := HZ122.out.2.2.2.1.cell 2
              simp only [act3C, List.getElem?_cons_zero, List.getElem?_cons_succ] at ca
              go_wp2_with (with_reducible refine wpList_load_any rfl 24 (.tmp 7) rfl y2.heap.size 0 rfl (pmC p.o p.e (Value.slice ra rl rc) (Value.slice qa ql qc) (Value.slice ga gl gc)) _ (rangeW_blk HZ122.out.1) Try.underlying24 rfl (pmC_info _ _ _ _ _) ?_)
              clear ca
              have h1 := mayRead_any p (n : Int) m _ _ _ _ z121 HZ122.out.2.1 (HSM.out.below HZ122.out.2.2.1)
              rw [HA.out] at h1
              refine Calls.mono h1 ?_
              clear h1
              rintro e' z123 ⟨rfl, hb⟩
              have HZ124 := Lib.hid (show Blk z123 y2.heap.size 24 (pmC p.o p.e (Value.slice ra rl rc) (Value.slice qa ql qc) (Value.slice ga gl gc)) ∧ PmS z123 p (Value.slice ra rl rc) (Value.slice qa ql qc) (Value.slice ga gl gc) ∧ Below w.heap.size w z123 ∧ Blk z123 wo.heap.size 35 (act3C act) ∧ Blk z123 y17.heap.size 24 (pmC q.o q.e (Value.slice x16a0 x16l0 x16c0) (Value.slice x16a1 x16l1 x16c1) (Value.slice x16a2 x16l2 x16c2)) ∧ PmS z123 q (Value.slice x16a0 x16l0 x16c0) (Value.slice x16a1 x16l1 x16c1) (Value.slice x16a2 x16l2 x16c2) from ⟨HZ122.out.1.below hb HZ122.out.1.lt, HZ122.out.2.1.below hb, below_thn HZ122.out.2.2.1 hb (Nat.le_refl _), HZ122.out.2.2.2.1.below hb HZ122.out.2.2.2.1.lt, HZ122.out.2.2.2.2.1.below hb HZ122.out.2.2.2.2.1.lt, HZ122.out.2.2.2.2.2.below hb⟩)
              clear hb
              cases a
              · skip
                have ca := HZ124.out.2.2.2.1.cell 2
                simp only [act3C, List.getElem?_cons_zero, List.getElem?_cons_succ] at ca
                go_wp2_with ((with_reducible refine wpList_load_want ?_ 24 (.tmp 7) rfl y2.heap.size 0 rfl (pmC p.o p.e (Value.slice ra rl rc) (Value.slice qa ql qc) (Value.slice ga gl gc)) _ (rangeW_blk HZ124.out.1) Try.underlying24 rfl (pmC_info _ _ _ _ _) ?_); focus rfl)
                clear ca
                have h1 := mayWrite_any p (n : Int) _ _ _ z123 HZ124.out.2.1
                rw [HC.out] at h1
                refine Calls.mono h1 ?_
                clear h1
                rintro e' z125 ⟨rfl, hb⟩
                have HZ126 := Lib.hid (show Blk z125 y2.heap.size 24 (pmC p.o p.e (Value.slice ra rl rc) (Value.slice qa ql qc) (Value.slice ga gl gc)) ∧ PmS z125 p (Value.slice ra rl rc) (Value.slice qa ql qc) (Value.slice ga gl gc) ∧ Below w.heap.size w z125 ∧ Blk z125 wo.heap.size 35 (act3C act) ∧ Blk z125 y17.heap.size 24 (pmC q.o q.e (Value.slice x16a0 x16l0 x16c0) (Value.slice x16a1 x16l1 x16c1) (Value.slice x16a2 x16l2 x16c2)) ∧ PmS z125 q (Value.slice x16a0 x16l0 x16c0) (Value.slice x16a1 x16l1 x16c1) (Value.slice x16a2 x16l2 x16c2) from ⟨HZ124.out.1.below hb HZ124.out.1.lt, HZ124.out.2.1.below hb, below_thn HZ124.out.2.2.1 hb (Nat.le_refl _), HZ124.out.2.2.2.1.below hb HZ124.out.2.2.2.1.lt, HZ124.out.2.2.2.2.1.below hb HZ124.out.2.2.2.2.1.lt, HZ124.out.2.2.2.2.2.below hb⟩)
                clear hb
                cases c
                · skip
                  exfalso
                  have h := HLW.out
                  simp at h
                · skip
                  have ca := HZ126.out.2.2.2.1.cell 2
                  simp only [act3C, List.getElem?_cons_zero, List.getElem?_cons_succ] at ca
                  go_wp2_with ((with_reducible refine wpList_load_want ?_ 24 (.tmp 11) rfl y17.heap.size 0 rfl (pmC q.o q.e (Value.slice x16a0 x16l0 x16c0) (Value.slice x16a1 x16l1 x16c1) (Value.slice x16a2 x16l2 x16c2)) _ (rangeW_blk HZ126.out.2.2.2.2.1) Try.underlying24 rfl (pmC_info _ _ _ _ _) ?_); focus rfl)
                  clear ca
                  have h1 := mayWrite_any q (n : Int) _ _ _ z125 HZ126.out.2.2.2.2.2
                  rw [HD.out] at h1
                  refine Calls.mono h1 ?_
                  clear h1
                  rintro e' z127 ⟨rfl, hb⟩
                  have HZ128 := Lib.hid (show Blk z127 y2.heap.size 24 (pmC p.o p.e (Value.slice ra rl rc) (Value.slice qa ql qc) (Value.slice ga gl gc)) ∧ PmS z127 p (Value.slice ra rl rc) (Value.slice qa ql qc) (Value.slice ga gl gc) ∧ Below w.heap.size w z127 ∧ Blk z127 wo.heap.size 35 (act3C act) ∧ Blk z127 y17.heap.size 24 (pmC q.o q.e (Value.slice x16a0 x16l0 x16c0) (Value.slice x16a1 x16l1 x16c1) (Value.slice x16a2 x16l2 x16c2)) ∧ PmS z127 q (Value.slice x16a0 x16l0 x16c0) (Value.slice x16a1 x16l1 x16c1) (Value.slice x16a2 x16l2 x16c2) from ⟨HZ126.out.1.below hb HZ126.out.1.lt, HZ126.out.2.1.below hb, below_thn HZ126.out.2.2.1 hb (Nat.le_refl _), HZ126.out.2.2.2.1.below hb HZ126.out.2.2.2.1.lt, HZ126.out.2.2.2.2.1.below hb HZ126.out.2.2.2.2.1.lt, HZ126.out.2.2.2.2.2.below hb⟩)
                  clear hb
                  have ca := HZ128.out.2.2.2.1.cell 2
                  simp only [act3C, List.getElem?_cons_zero, List.getElem?_cons_succ] at ca
                  go_wp2_with ((with_reducible refine wpList_load_want ?_ 24 (.tmp 7) rfl y2.heap.size 0 rfl (pmC p.o p.e (Value.slice ra rl rc) (Value.slice qa ql qc) (Value.slice ga gl gc)) _ (rangeW_blk HZ128.out.1) Try.underlying24 rfl (pmC_info _ _ _ _ _) ?_); focus rfl)
                  clear ca
                  have h1 := mayRead_any p (n : Int) m _ _ _ _ z127 HZ128.out.2.1 (HSM.out.below HZ128.out.2.2.1)
                  rw [HA.out] at h1
                  refine Calls.mono h1 ?_
                  clear h1
                  rintro e' z129 ⟨rfl, hb⟩
                  have HZ130 := Lib.hid (show Blk z129 y2.heap.size 24 (pmC p.o p.e (Value.slice ra rl rc) (Value.slice qa ql qc) (Value.slice ga gl gc)) ∧ PmS z129 p (Value.slice ra rl rc) (Value.slice qa ql qc) (Value.slice ga gl gc) ∧ Below w.heap.size w z129 ∧ Blk z129 wo.heap.size 35 (act3C act) ∧ Blk z129 y17.heap.size 24 (pmC q.o q.e (Value.slice x16a0 x16l0 x16c0) (Value.slice x16a1 x16l1 x16c1) (Value.slice x16a2 x16l2 x16c2)) ∧ PmS z129 q (Value.slice x16a0 x16l0 x16c0) (Value.slice x16a1 x16l1 x16c1) (Value.slice x16a2 x16l2 x16c2) from ⟨HZ128.out.1.below hb HZ128.out.1.lt, HZ128.out.2.1.below hb, below_thn HZ128.out.2.2.1 hb (Nat.le_refl _), HZ128.out.2.2.2.1.below hb HZ128.out.2.2.2.1.lt, HZ128.out.2.2.2.2.1.below hb HZ128.out.2.2.2.2.1.lt, HZ128.out.2.2.2.2.2.below hb⟩)
                  clear hb
                  have ca := HZ130.out.2.2.2.1.cell 2
                  simp only [act3C, List.getElem?_cons_zero, List.getElem?_cons_succ] at ca
                  go_wp2_with ((with_reducible refine wpList_load_want ?_ 24 (.tmp 11) rfl y17.heap.size 0 rfl (pmC q.o q.e (Value.slice x16a0 x16l0 x16c0) (Value.slice x16a1 x16l1 x16c1) (Value.slice x16a2 x16l2 x16c2)) _ (rangeW_blk HZ130.out.2.2.2.2.1) Try.underlying24 rfl (pmC_info _ _ _ _ _) ?_); focus rfl)
                  clear ca
                  have h1 := mayRead_any q (n : Int) m _ _ _ _ z129 HZ130.out.2.2.2.2.2 (HSM.out.below HZ130.out.2.2.1)
                  rw [HB.out] at h1
                  refine Calls.mono h1 ?_
                  clear h1
                  rintro e' z131 ⟨rfl, hb⟩
                  have HZ132 := Lib.hid (show Blk z131 y2.heap.size 24 (pmC p.o p.e (Value.slice ra rl rc) (Value.slice qa ql qc) (Value.slice ga gl gc)) ∧ PmS z131 p (Value.slice ra rl rc) (Value.slice qa ql qc) (Value.slice ga gl gc) ∧ Below w.heap.size w z131 ∧ Blk z131 wo.heap.size 35 (act3C act) ∧ Blk z131 y17.heap.size 24 (pmC q.o q.e (Value.slice x16a0 x16l0 x16c0) (Value.slice x16a1 x16l1 x16c1) (Value.slice x16a2 x16l2 x16c2)) ∧ PmS z131 q (Value.slice x16a0 x16l0 x16c0) (Value.slice x16a1 x16l1 x16c1) (Value.slice x16a2 x16l2 x16c2) from ⟨HZ130.out.1.below hb HZ130.out.1.lt, HZ130.out.2.1.below hb, below_thn HZ130.out.2.2.1 hb (Nat.le_refl _), HZ130.out.2.2.2.1.below hb HZ130.out.2.2.2.1.lt, HZ130.out.2.2.2.2.1.below hb HZ130.out.2.2.2.2.1.lt, HZ130.out.2.2.2.2.2.below hb⟩)
                  clear hb
                  cases b
                  · skip
                    have ca := HZ132.out.2.2.2.1.cell 2
                    simp only [act3C, List.getElem?_cons_zero, List.getElem?_cons_succ] at ca
                    go_wp2_with ((with_reducible refine wpList_load_want ?_ 24 (.tmp 7) rfl y2.heap.size 0 rfl (pmC p.o p.e (Value.slice ra rl rc) (Value.slice qa ql qc) (Value.slice ga gl gc)) _ (rangeW_blk HZ132.out.1) Try.underlying24 rfl (pmC_info _ _ _ _ _) ?_); focus rfl)
                    clear ca
                    have h1 := mayWrite_any p (n : Int) _ _ _ z131 HZ132.out.2.1
                    rw [HC.out] at h1
                    refine Calls.mono h1 ?_
                    clear h1
                    rintro e' z133 ⟨rfl, hb⟩
                    have HZ134 := Lib.hid (show Blk z133 y2.heap.size 24 (pmC p.o p.e (Value.slice ra rl rc) (Value.slice qa ql qc) (Value.slice ga gl gc)) ∧ PmS z133 p (Value.slice ra rl rc) (Value.slice qa ql qc) (Value.slice ga gl gc) ∧ Below w.heap.size w z133 ∧ Blk z133 wo.heap.size 35 (act3C act) ∧ Blk z133 y17.heap.size 24 (pmC q.o q.e (Value.slice x16a0 x16l0 x16c0) (Value.slice x16a1 x16l1 x16c1) (Value.slice x16a2 x16l2 x16c2)) ∧ PmS z133 q (Value.slice x16a0 x16l0 x16c0) (Value.slice x16a1 x16l1 x16c1) (Value.slice x16a2 x16l2 x16c2) from ⟨HZ132.out.1.below hb HZ132.out.1.lt, HZ132.out.2.1.below hb, below_thn HZ132.out.2.2.1 hb (Nat.le_refl _), HZ132.out.2.2.2.1.below hb HZ132.out.2.2.2.1.lt, HZ132.out.2.2.2.2.1.below hb HZ132.out.2.2.2.2.1.lt, HZ132.out.2.2.2.2.2.below hb⟩)
                    clear hb
                    go_wp2_with fail
                    go_round
                    case rel => exact ⟨n + 1, by omega, by omega, by go_num, HZ134⟩
                    case measure => simp [intOf]; omega
                  · skip
                    exfalso
                    have h := HLW.out
                    simp at h
              · skip
                have ca := HZ124.out.2.2.2.1.cell 2
                simp only [act3C, List.getElem?_cons_zero, List.getElem?_cons_succ] at ca
                go_wp2_with ((with_reducible refine wpList_load_want ?_ 24 (.tmp 11) rfl y17.heap.size 0 rfl (pmC q.o q.e (Value.slice x16a0 x16l0 x16c0) (Value.slice x16a1 x16l1 x16c1) (Value.slice x16a2 x16l2 x16c2)) _ (rangeW_blk HZ124.out.2.2.2.2.1) Try.underlying24 rfl (pmC_info _ _ _ _ _) ?_); focus rfl)
                clear ca
                have h1 := mayRead_any q (n : Int) m _ _ _ _ z123 HZ124.out.2.2.2.2.2 (HSM.out.below HZ124.out.2.2.1)
                rw [HB.out] at h1
                refine Calls.mono h1 ?_
                clear h1
                rintro e' z135 ⟨rfl, hb⟩
                have HZ136 := Lib.hid (show Blk z135 y2.heap.size 24 (pmC p.o p.e (Value.slice ra rl rc) (Value.slice qa ql qc) (Value.slice ga gl gc)) ∧ PmS z135 p (Value.slice ra rl rc) (Value.slice qa ql qc) (Value.slice ga gl gc) ∧ Below w.heap.size w z135 ∧ Blk z135 wo.heap.size 35 (act3C act) ∧ Blk z135 y17.heap.size 24 (pmC q.o q.e (Value.slice x16a0 x16l0 x16c0) (Value.slice x16a1 x16l1 x16c1) (Value.slice x16a2 x16l2 x16c2)) ∧ PmS z135 q (Value.slice x16a0 x16l0 x16c0) (Value.slice x16a1 x16l1 x16c1) (Value.slice x16a2 x16l2 x16c2) from ⟨HZ124.out.1.below hb HZ124.out.1.lt, HZ124.out.2.1.below hb, below_thn HZ124.out.2.2.1 hb (Nat.le_refl _), HZ124.out.2.2.2.1.below hb HZ124.out.2.2.2.1.lt, HZ124.out.2.2.2.2.1.below hb HZ124.out.2.2.2.2.1.lt, HZ124.out.2.2.2.2.2.below hb⟩)
                clear hb
                cases b
                · skip
                  have ca := HZ136.out.2.2.2.1.cell 2
                  simp only [act3C, List.getElem?_cons_zero, List.getElem?_cons_succ] at ca
                  go_wp2_with ((with_reducible refine wpList_load_want ?_ 35 (.tmp 10) rfl wo.heap.size 0 rfl (act3C act) _ (rangeW_blk HZ136.out.2.2.2.1) Try.underlying35 rfl (act3C_info _) ?_); focus rfl)
                  clear ca
                  refine (HKC.out z135).mono ?_
                  rintro e' y137 ⟨rfl, hb⟩
                  have HY138 := Lib.hid (show Blk y137 y2.heap.size 24 (pmC p.o p.e (Value.slice ra rl rc) (Value.slice qa ql qc) (Value.slice ga gl gc)) ∧ PmS y137 p (Value.slice ra rl rc) (Value.slice qa ql qc) (Value.slice ga gl gc) ∧ Below w.heap.size w y137 ∧ Blk y137 wo.heap.size 35 (act3C act) ∧ Blk y137 y17.heap.size 24 (pmC q.o q.e (Value.slice x16a0 x16l0 x16c0) (Value.slice x16a1 x16l1 x16c1) (Value.slice x16a2 x16l2 x16c2)) ∧ PmS y137 q (Value.slice x16a0 x16l0 x16c0) (Value.slice x16a1 x16l1 x16c1) (Value.slice x16a2 x16l2 x16c2) from ⟨HZ136.out.1.below hb HZ136.out.1.lt, HZ136.out.2.1.below hb, below_thn HZ136.out.2.2.1 hb (Nat.le_refl _), HZ136.out.2.2.2.1.below hb HZ136.out.2.2.2.1.lt, HZ136.out.2.2.2.2.1.below hb HZ136.out.2.2.2.2.1.lt, HZ136.out.2.2.2.2.2.below hb⟩)
                  clear hb
                  cases nw
                  · skip
                    have ca := HY138.out.2.2.2.1.cell 2
                    simp only [act3C, List.getElem?_cons_zero, List.getElem?_cons_succ] at ca
                    go_wp2_with ((with_reducible refine wpList_load_want ?_ 24 (.tmp 7) rfl y2.heap.size 0 rfl (pmC p.o p.e (Value.slice ra rl rc) (Value.slice qa ql qc) (Value.slice ga gl gc)) _ (rangeW_blk HY138.out.1) Try.underlying24 rfl (pmC_info _ _ _ _ _) ?_); focus rfl)
                    clear ca
                    have h1 := mayWrite_any p (n : Int) _ _ _ y137 HY138.out.2.1
                    rw [HC.out] at h1
                    refine Calls.mono h1 ?_
                    clear h1
                    rintro e' z139 ⟨rfl, hb⟩
                    have HZ140 := Lib.hid (show Blk z139 y2.heap.size 24 (pmC p.o p.e (Value.slice ra rl rc) (Value.slice qa ql qc) (Value.slice ga gl gc)) ∧ PmS z139 p (Value.slice ra rl rc) (Value.slice qa ql qc) (Value.slice ga gl gc) ∧ Below w.heap.size w z139 ∧ Blk z139 wo.heap.size 35 (act3C act) ∧ Blk z139 y17.heap.size 24 (pmC q.o q.e (Value.slice x16a0 x16l0 x16c0) (Value.slice x16a1 x16l1 x16c1) (Value.slice x16a2 x16l2 x16c2)) ∧ PmS z139 q (Value.slice x16a0 x16l0 x16c0) (Value.slice x16a1 x16l1 x16c1) (Value.slice x16a2 x16l2 x16c2) from ⟨HY138.out.1.below hb HY138.out.1.lt, HY138.out.2.1.below hb, below_thn HY138.out.2.2.1 hb (Nat.le_refl _), HY138.out.2.2.2.1.below hb HY138.out.2.2.2.1.lt, HY138.out.2.2.2.2.1.below hb HY138.out.2.2.2.2.1.lt, HY138.out.2.2.2.2.2.below hb⟩)
                    clear hb
                    cases c
                    · skip
                      exfalso
                      have h := HLW.out
                      simp at h
                    · skip
                      have ca := HZ140.out.2.2.2.1.cell 2
                      simp only [act3C, List.getElem?_cons_zero, List.getElem?_cons_succ] at ca
                      go_wp2_with ((with_reducible refine wpList_load_want ?_ 24 (.tmp 11) rfl y17.heap.size 0 rfl (pmC q.o q.e (Value.slice x16a0 x16l0 x16c0) (Value.slice x16a1 x16l1 x16c1) (Value.slice x16a2 x16l2 x16c2)) _ (rangeW_blk HZ140.out.2.2.2.2.1) Try.underlying24 rfl (pmC_info _ _ _ _ _) ?_); focus rfl)
                      clear ca
                      have h1 := mayWrite_any q (n : Int) _ _ _ z139 HZ140.out.2.2.2.2.2
                      rw [HD.out] at h1
                      refine Calls.mono h1 ?_
                      clear h1
                      rintro e' z141 ⟨rfl, hb⟩
                      have HZ142 := Lib.hid (show Blk z141 y2.heap.size 24 (pmC p.o p.e (Value.slice ra rl rc) (Value.slice qa ql qc) (Value.slice ga gl gc)) ∧ PmS z141 p (Value.slice ra rl rc) (Value.slice qa ql qc) (Value.slice ga gl gc) ∧ Below w.heap.size w z141 ∧ Blk z141 wo.heap.size 35 (act3C act) ∧ Blk z141 y17.heap.size 24 (pmC q.o q.e (Value.slice x16a0 x16l0 x16c0) (Value.slice x16a1 x16l1 x16c1) (Value.slice x16a2 x16l2 x16c2)) ∧ PmS z141 q (Value.slice x16a0 x16l0 x16c0) (Value.slice x16a1 x16l1 x16c1) (Value.slice x16a2 x16l2 x16c2) from ⟨HZ140.out.1.below hb HZ140.out.1.lt, HZ140.out.2.1.below hb, below_thn HZ140.out.2.2.1 hb (Nat.le_refl _), HZ140.out.2.2.2.1.below hb HZ140.out.2.2.2.1.lt, HZ140.out.2.2.2.2.1.below hb HZ140.out.2.2.2.2.1.lt, HZ140.out.2.2.2.2.2.below hb⟩)
                      clear hb
                      have ca := HZ142.out.2.2.2.1.cell 2
                      simp only [act3C, List.getElem?_cons_zero, List.getElem?_cons_succ] at ca
                      go_wp2_with ((with_reducible refine wpList_load_want ?_ 24 (.tmp 7) rfl y2.heap.size 0 rfl (pmC p.o p.e (Value.slice ra rl rc) (Value.slice qa ql qc) (Value.slice ga gl gc)) _ (rangeW_blk HZ142.out.1) Try.underlying24 rfl (pmC_info _ _ _ _ _) ?_); focus rfl)
                      clear ca
                      have h1 := mayRead_any p (n : Int) m _ _ _ _ z141 HZ142.out.2.1 (HSM.out.below HZ142.out.2.2.1)
                      rw [HA.out] at h1
                      refine Calls.mono h1 ?_
                      clear h1
                      rintro e' z143 ⟨rfl, hb⟩
                      have HZ144 := Lib.hid (show Blk z143 y2.heap.size 24 (pmC p.o p.e (Value.slice ra rl rc) (Value.slice qa ql qc) (Value.slice ga gl gc)) ∧ PmS z143 p (Value.slice ra rl rc) (Value.slice qa ql qc) (Value.slice ga gl gc) ∧ Below w.heap.size w z143 ∧ Blk z143 wo.heap.size 35 (act3C act) ∧ Blk z143 y17.heap.size 24 (pmC q.o q.e (Value.slice x16a0 x16l0 x16c0) (Value.slice x16a1 x16l1 x16c1) (Value.slice x16a2 x16l2 x16c2)) ∧ PmS z143 q (Value.slice x16a0 x16l0 x16c0) (Value.slice x16a1 x16l1 x16c1) (Value.slice x16a2 x16l2 x16c2) from ⟨HZ142.out.1.below hb HZ142.out.1.lt, HZ142.out.2.1.below hb, below_thn HZ142.out.2.2.1 hb (Nat.le_refl _), HZ142.out.2.2.2.1.below hb HZ142.out.2.2.2.1.lt, HZ142.out.2.2.2.2.1.below hb HZ142.out.2.2.2.2.1.lt, HZ142.out.2.2.2.2.2.below hb⟩)
                      clear hb
                      have ca := HZ144.out.2.2.2.1.cell 2
                      simp only [act3C, List.getElem?_cons_zero, List.getElem?_cons_succ] at ca
                      go_wp2_with ((with_reducible refine wpList_load_want ?_ 24 (.tmp 7) rfl y2.heap.size 0 rfl (pmC p.o p.e (Value.slice ra rl rc) (Value.slice qa ql qc) (Value.slice ga gl gc)) _ (rangeW_blk HZ144.out.1) Try.underlying24 rfl (pmC_info _ _ _ _ _) ?_); focus rfl)
                      clear ca
                      have h1 := mayWrite_any p (n : Int) _ _ _ z143 HZ144.out.2.1
                      rw [HC.out] at h1
                      refine Calls.mono h1 ?_
                      clear h1
                      rintro e' z145 ⟨rfl, hb⟩
                      have HZ146 := Lib.hid (show Blk z145 y2.heap.size 24 (pmC p.o p.e (Value.slice ra rl rc) (Value.slice qa ql qc) (Value.slice ga gl gc)) ∧ PmS z145 p (Value.slice ra rl rc) (Value.slice qa ql qc) (Value.slice ga gl gc) ∧ Below w.heap.size w z145 ∧ Blk z145 wo.heap.size 35 (act3C act) ∧ Blk z145 y17.heap.size 24 (pmC q.o q.e (Value.slice x16a0 x16l0 x16c0) (Value.slice x16a1 x16l1 x16c1) (Value.slice x16a2 x16l2 x16c2)) ∧ PmS z145 q (Value.slice x16a0 x16l0 x16c0) (Value.slice x16a1 x16l1 x16c1) (Value.slice x16a2 x16l2 x16c2) from ⟨HZ144.out.1.below hb HZ144.out.1.lt, HZ144.out.2.1.below hb, below_thn HZ144.out.2.2.1 hb (Nat.le_refl _), HZ144.out.2.2.2.1.below hb HZ144.out.2.2.2.1.lt, HZ144.out.2.2.2.2.1.below hb HZ144.out.2.2.2.2.1.lt, HZ144.out.2.2.2.2.2.below hb⟩)
                      clear hb
                      go_wp2_with fail
                      go_round
                      case rel => exact ⟨n + 1, by omega, by omega, by go_num, HZ146⟩
                      case measure => simp [intOf]; omega
                  · skip
                    exfalso
                    have h := HLW.out
                    simp at h
                · skip
                  have ca := HZ136.out.2.2.2.1.cell 2
                  simp only [act3C, List.getElem?_cons_zero, List.getElem?_cons_succ] at ca
                  go_wp2_with ((with_reducible refine wpList_load_want ?_ 24 (.tmp 7) rfl y2.heap.size 0 rfl (pmC p.o p.e (Value.slice ra rl rc) (Value.slice qa ql qc) (Value.slice ga gl gc)) _ (rangeW_blk HZ136.out.1) Try.underlying24 rfl (pmC_info _ _ _ _ _) ?_); focus rfl)
                  clear ca
                  have h1 := mayWrite_any p (n : Int) _ _ _ z135 HZ136.out.2.1
                  rw [HC.out] at h1
                  refine Calls.mono h1 ?_
                  clear h1
                  rintro e' z147 ⟨rfl, hb⟩
                  have HZ148 := Lib.hid (show Blk z147 y2.heap.size 24 (pmC p.o p.e (Value.slice ra rl rc) (Value.slice qa ql qc) (Value.slice ga gl gc)) ∧ PmS z147 p (Value.slice ra rl rc) (Value.slice qa ql qc) (Value.slice ga gl gc) ∧ Below w.heap.size w z147 ∧ Blk z147 wo.heap.size 35 (act3C act) ∧ Blk z147 y17.heap.size 24 (pmC q.o q.e (Value.slice x16a0 x16l0 x16c0) (Value.slice x16a1 x16l1 x16c1) (Value.slice x16a2 x16l2 x16c2)) ∧ PmS z147 q (Value.slice x16a0 x16l0 x16c0) (Value.slice x16a1 x16l1 x16c1) (Value.slice x16a2 x16l2 x16c2) from ⟨HZ136.out.1.below hb HZ136.out.1.lt, HZ136.out.2.1.below hb, below_thn HZ136.out.2.2.1 hb (Nat.le_refl _), HZ136.out.2.2.2.1.below hb HZ136.out.2.2.2.1.lt, HZ136.out.2.2.2.2.1.below hb HZ136.out.2.2.2.2.1.lt, HZ136.out.2.2.2.2.2.below hb⟩)
                  clear hb
                  cases c
                  · skip
                    exfalso
                    have h := HLW.out
                    simp at h
                  · skip
                    have ca := HZ148.out.2.2.2.1.cell 2
                    simp only [act3C, List.getElem?_cons_zero, List.getElem?_cons_succ] at ca
                    go_wp2_with ((with_reducible refine wpList_load_want ?_ 24 (.tmp 11) rfl y17.heap.size 0 rfl (pmC q.o q.e (Value.slice x16a0 x16l0 x16c0) (Value.slice x16a1 x16l1 x16c1) (Value.slice x16a2 x16l2 x16c2)) _ (rangeW_blk HZ148.out.2.2.2.2.1) Try.underlying24 rfl (pmC_info _ _ _ _ _) ?_); focus rfl)
                    clear ca
                    have h1 := mayWrite_any q (n : Int) _ _ _ z147 HZ148.out.2.2.2.2.2
                    rw [HD.out] at h1
                    refine Calls.mono h1 ?_
                    clear h1
                    rintro e' z149 ⟨rfl, hb⟩
                    have HZ150 := Lib.hid (show Blk z149 y2.heap.size 24 (pmC p.o p.e (Value.slice ra rl rc) (Value.slice qa ql qc) (Value.slice ga gl gc)) ∧ PmS z149 p (Value.slice ra rl rc) (Value.slice qa ql qc) (Value.slice ga gl gc) ∧ Below w.heap.size w z149 ∧ Blk z149 wo.heap.size 35 (act3C act) ∧ Blk z149 y17.heap.size 24 (pmC q.o q.e (Value.slice x16a0 x16l0 x16c0) (Value.slice x16a1 x16l1 x16c1) (Value.slice x16a2 x16l2 x16c2)) ∧ PmS z149 q (Value.slice x16a0 x16l0 x16c0) (Value.slice x16a1 x16l1 x16c1) (Value.slice x16a2 x16l2 x16c2) from ⟨HZ148.out.1.below hb HZ148.out.1.lt, HZ148.out.2.1.below hb, below_thn HZ148.out.2.2.1 hb (Nat.le_refl _), HZ148.out.2.2.2.1.below hb HZ148.out.2.2.2.1.lt, HZ148.out.2.2.2.2.1.below hb HZ148.out.2.2.2.2.1.lt, HZ148.out.2.2.2.2.2.below hb⟩)
                    clear hb
                    have ca := HZ150.out.2.2.2.1.cell 2
                    simp only [act3C, List.getElem?_cons_zero, List.getElem?_cons_succ] at ca
                    go_wp2_with ((with_reducible refine wpList_load_want ?_ 24 (.tmp 7) rfl y2.heap.size 0 rfl (pmC p.o p.e (Value.slice ra rl rc) (Value.slice qa ql qc) (Value.slice ga gl gc)) _ (rangeW_blk HZ150.out.1) Try.underlying24 rfl (pmC_info _ _ _ _ _) ?_); focus rfl)
                    clear ca
                    have h1 := mayRead_any p (n : Int) m _ _ _ _ z149 HZ150.out.2.1 (HSM.out.below HZ150.out.2.2.1)
                    rw [HA.out] at h1
                    refine Calls.mono h1 ?_
                    clear h1
                    rintro e' z151 ⟨rfl, hb⟩
                    have HZ152 := Lib.hid (show Blk z151 y2.heap.size 24 (pmC p.o p.e (Value.slice ra rl rc) (Value.slice qa ql qc) (Value.slice ga gl gc)) ∧ PmS z151 p (Value.slice ra rl rc) (Value.slice qa ql qc) (Value.slice ga gl gc) ∧ Below w.heap.size w z151 ∧ Blk z151 wo.heap.size 35 (act3C act) ∧ Blk z151 y17.heap.size 24 (pmC q.o q.e (Value.slice x16a0 x16l0 x16c0) (Value.slice x16a1 x16l1 x16c1) (Value.slice x16a2 x16l2 x16c2)) ∧ PmS z151 q (Value.slice x16a0 x16l0 x16c0) (Value.slice x16a1 x16l1 x16c1) (Value.slice x16a2 x16l2 x16c2) from ⟨HZ150.out.1.below hb HZ150.out.1.lt, HZ150.out.2.1.below hb, below_thn HZ150.out.2.2.1 hb (Nat.le_refl _), HZ150.out.2.2.2.1.below hb HZ150.out.2.2.2.1.lt, HZ150.out.2.2.2.2.1.below hb HZ150.out.2.2.2.2.1.lt, HZ150.out.2.2.2.2.2.below hb⟩)
                    clear hb
                    have ca := HZ152.out.2.2.2.1.cell 2
                    simp only [act3C, List.getElem?_cons_zero, List.getElem?_cons_succ] at ca
                    go_wp2_with ((with_reducible refine wpList_load_want ?_ 24 (.tmp 7) rfl y2.heap.size 0 rfl (pmC p.o p.e (Value.slice ra rl rc) (Value.slice qa ql qc) (Value.slice ga gl gc)) _ (rangeW_blk HZ152.out.1) Try.underlying24 rfl (pmC_info _ _ _ _ _) ?_); focus rfl)
                    clear ca
                    have h1 := mayWrite_any p (n : Int) _ _ _ z151 HZ152.out.2.1
                    rw [HC.out] at h1
                    refine Calls.mono h1 ?_
                    clear h1
                    rintro e' z153 ⟨rfl, hb⟩
                    have HZ154 := Lib.hid (show Blk z153 y2.heap.size 24 (pmC p.o p.e (Value.slice ra rl rc) (Value.slice qa ql qc) (Value.slice ga gl gc)) ∧ PmS z153 p (Value.slice ra rl rc) (Value.slice qa ql qc) (Value.slice ga gl gc) ∧ Below w.heap.size w z153 ∧ Blk z153 wo.heap.size 35 (act3C act) ∧ Blk z153 y17.heap.size 24 (pmC q.o q.e (Value.slice x16a0 x16l0 x16c0) (Value.slice x16a1 x16l1 x16c1) (Value.slice x16a2 x16l2 x16c2)) ∧ PmS z153 q (Value.slice x16a0 x16l0 x16c0) (Value.slice x16a1 x16l1 x16c1) (Value.slice x16a2 x16l2 x16c2) from ⟨HZ152.out.1.below hb HZ152.out.1.lt, HZ152.out.2.1.below hb, below_thn HZ152.out.2.2.1 hb (Nat.le_refl _), HZ152.out.2.2.2.1.below hb HZ152.out.2.2.2.1.lt, HZ152.out.2.2.2.2.1.below hb HZ152.out.2.2.2.2.1.lt, HZ152.out.2.2.2.2.2.below hb⟩)
                    clear hb
                    go_wp2_with fail
                    go_round
                    case rel => exact ⟨n + 1, by omega, by omega, by go_num, HZ154⟩
                    case measure => simp [intOf]; omega
      · as_aux_lemma =>
        subst h2
        have HKZ := Lib.hid (show (kindF act.k == 2) = false ∧ (kindF act.k == 4) = true from by rw [HKE.out]; exact ⟨rfl, rfl⟩)
        have q1 : (q.e != p.e) = true := by rw [hee]; simp; omega
        have q2 : (q.e != p.e + 1) = false := by rw [hee]; simp
        have q3 : p.e < q.e := by omega
        clear hee
        go_wp2_with (first
    | ((with_reducible refine wpList_alloc_blk y17 rfl 24 rfl (pmC 0 0 (.slice none 0 0) (.slice none 0 0) (.slice none 0 0)) Try.zeroPm ?_); intro a155 hb hbel hsz; have HA157 := Lib.hid (And.intro hb hbel); clear hb hbel hsz)
    | ((with_reducible refine wpList_store_blk a155 rfl 24 (.tmp 11) (.tmp 43) rfl y17.heap.size 24 (pmC 0 0 (.slice none 0 0) (.slice none 0 0) (.slice none 0 0)) (pmC q.o q.e (Value.slice x16a0 x16l0 x16c0) (Value.slice x16a1 x16l1 x16c1) (Value.slice x16a2 x16l2 x16c2)) HA157.out.1 rfl rfl rfl (pmC_info _ _ _ _ _) (pmC_one _ _ _ _ _ _ _ _ _ _ _) ?_); intro a156 hb hc hs; have hbw : Below y17.heap.size y17 a156 := below_ch HA157.out.2 hc (Nat.le_refl _) (fun k hk => by have e : k = y17.heap.size := hk; omega); have HA158 := Lib.hid (show Blk a156 y2.heap.size 24 (pmC p.o p.e (Value.slice ra rl rc) (Value.slice qa ql qc) (Value.slice ga gl gc)) ∧ PmS a156 p (Value.slice ra rl rc) (Value.slice qa ql qc) (Value.slice ga gl gc) ∧ Below w.heap.size w a156 ∧ Blk a156 wo.heap.size 35 (act3C act) ∧ y2.heap.size < wo.heap.size ∧ PmS a156 q (Value.slice x16a0 x16l0 x16c0) (Value.slice x16a1 x16l1 x16c1) (Value.slice x16a2 x16l2 x16c2) ∧ AbvS a13.heap.size (Value.slice x16a0 x16l0 x16c0) (Value.slice x16a1 x16l1 x16c1) (Value.slice x16a2 x16l2 x16c2) ∧ Blk a156 y17.heap.size 24 (pmC q.o q.e (Value.slice x16a0 x16l0 x16c0) (Value.slice x16a1 x16l1 x16c1) (Value.slice x16a2 x16l2 x16c2)) from ⟨HY18.out.1.below hbw HY18.out.1.lt, HY18.out.2.1.below hbw, below_thn HY18.out.2.2.1 hbw (Nat.le_refl _), HY18.out.2.2.2.1.below hbw HY18.out.2.2.2.1.lt, HY18.out.2.2.2.2.1, HY18.out.2.2.2.2.2.1.below hbw, HY18.out.2.2.2.2.2.2, hb⟩); clear hb hc hs hbw)
    | (with_reducible refine wpList_load_any rfl 35 (.tmp 10) rfl wo.heap.size 0 rfl (act3C act) _ (rangeW_blk HA158.out.2.2.2.1) Try.underlying35 rfl (act3C_info _) ?_))
        refine (HKC.out a156).mono ?_
        rintro e' y159 ⟨rfl, hb⟩
        have HY160 := Lib.hid (show Blk y159 y2.heap.size 24 (pmC p.o p.e (Value.slice ra rl rc) (Value.slice qa ql qc) (Value.slice ga gl gc)) ∧ PmS y159 p (Value.slice ra rl rc) (Value.slice qa ql qc) (Value.slice ga gl gc) ∧ Below w.heap.size w y159 ∧ Blk y159 wo.heap.size 35 (act3C act) ∧ y2.heap.size < wo.heap.size ∧ PmS y159 q (Value.slice x16a0 x16l0 x16c0) (Value.slice x16a1 x16l1 x16c1) (Value.slice x16a2 x16l2 x16c2) ∧ AbvS a13.heap.size (Value.slice x16a0 x16l0 x16c0) (Value.slice x16a1 x16l1 x16c1) (Value.slice x16a2 x16l2 x16c2) ∧ Blk y159 y17.heap.size 24 (pmC q.o q.e (Value.slice x16a0 x16l0 x16c0) (Value.slice x16a1 x16l1 x16c1) (Value.slice x16a2 x16l2 x16c2)) from ⟨HA158.out.1.below hb HA158.out.1.lt, HA158.out.2.1.below hb, below_thn HA158.out.2.2.1 hb (Nat.le_refl _), HA158.out.2.2.2.1.below hb HA158.out.2.2.2.1.lt, HA158.out.2.2.2.2.1, HA158.out.2.2.2.2.2.1.below hb, HA158.out.2.2.2.2.2.2.1, HA158.out.2.2.2.2.2.2.2.below hb HA158.out.2.2.2.2.2.2.2.lt⟩)
        clear hb
        go_wp2_with (first
    | (with_reducible refine wpList_load_any rfl 35 (.tmp 10) rfl wo.heap.size 0 rfl (act3C act) _ (rangeW_blk HY160.out.2.2.2.1) Try.underlying35 rfl (act3C_info _) ?_)
    | ((with_reducible refine wpList_load_want ?_ 35 (.tmp 10) rfl wo.heap.size 0 rfl (act3C act) _ (rangeW_blk HY160.out.2.2.2.1) Try.underlying35 rfl (act3C_info _) ?_); focus rfl))
        refine (HKC.out y159).mono ?_
        rintro e' y161 ⟨rfl, hb⟩
        have HY162 := Lib.hid (show Blk y161 y2.heap.size 24 (pmC p.o p.e (Value.slice ra rl rc) (Value.slice qa ql qc) (Value.slice ga gl gc)) ∧ PmS y161 p (Value.slice ra rl rc) (Value.slice qa ql qc) (Value.slice ga gl gc) ∧ Below w.heap.size w y161 ∧ Blk y161 wo.heap.size 35 (act3C act) ∧ y2.heap.size < wo.heap.size ∧ PmS y161 q (Value.slice x16a0 x16l0 x16c0) (Value.slice x16a1 x16l1 x16c1) (Value.slice x16a2 x16l2 x16c2) ∧ AbvS a13.heap.size (Value.slice x16a0 x16l0 x16c0) (Value.slice x16a1 x16l1 x16c1) (Value.slice x16a2 x16l2 x16c2) ∧ Blk y161 y17.heap.size 24 (pmC q.o q.e (Value.slice x16a0 x16l0 x16c0) (Value.slice x16a1 x16l1 x16c1) (Value.slice x16a2 x16l2 x16c2)) from ⟨HY160.out.1.below hb HY160.out.1.lt, HY160.out.2.1.below hb, below_thn HY160.out.2.2.1 hb (Nat.le_refl _), HY160.out.2.2.2.1.below hb HY160.out.2.2.2.1.lt, HY160.out.2.2.2.2.1, HY160.out.2.2.2.2.2.1.below hb, HY160.out.2.2.2.2.2.2.1, HY160.out.2.2.2.2.2.2.2.below hb HY160.out.2.2.2.2.2.2.2.lt⟩)
        clear hb
        go_wp2_with fail
        have C1 := Lib.hid (fun x => show Calls Try.prog 10 #[.agg (pmC q.o q.e (Value.slice x16a0 x16l0 x16c0) (Value.slice x16a1 x16l1 x16c1) (Value.slice x16a2 x16l2 x16c2)).toArray] (grew y161 x) (fun e w' => e = .returned (.int .i64 0) ∧ Below (grew y161 x).heap.size (grew y161 x) w') from check_of q true HOKQ.out _ _ _ (grew y161 x) (HY162.out.2.2.2.2.2.1.below (below_grew y161 x)))
        have C2 := Lib.hid (fun x => HKC.out (grew y161 x))
        have cp0 := HY162.out.1.cell 0
        have cp1 := HY162.out.1.cell 1
        have cq0 := HY162.out.2.2.2.2.2.2.2.cell 0
        have cq1 := HY162.out.2.2.2.2.2.2.2.cell 1
        simp only [pmC, List.getElem?_cons_zero, List.getElem?_cons_succ] at cp0 cp1 cq0 cq1
        replace cp0 := fun q => cell_grew cp0 q
        replace cp1 := fun q => cell_grew cp1 q
        replace cq0 := fun q => cell_grew cq0 q
        replace cq1 := fun q => cell_grew cq1 q
        refine wp_region_grew (by kernel_rfl) (by kernel_rfl) ?_
        repeat (first | go_big_quiet_skip | (go_big_quiet_want; (first | (refine quiet_load_mid 24 (.tmp 11) rfl y17.heap.size 0 rfl (pmC q.o q.e (Value.slice x16a0 x16l0 x16c0) (Value.slice x16a1 x16l1 x16c1) (Value.slice x16a2 x16l2 x16c2)) _ (fun w' hw' => rangeAt_grew (rangeAt_blk HY162.out.2.2.2.2.2.2.2) w' hw') Try.underlying24 rfl (pmC_info _ _ _ _ _) ?_; go_simp; go_big_quiet_on) | (refine quiet_load_mid 35 (.tmp 10) rfl wo.heap.size 0 rfl (act3C act) _ (fun w' hw' => rangeAt_grew (rangeAt_blk HY162.out.2.2.2.1) w' hw') Try.underlying35 rfl (act3C_info _) ?_; go_simp; go_big_quiet_on) | (go_big_quiet_op; (first | go_big_quiet_on | (apply Exists.intro; refine ⟨fun _ => ?_, ?_⟩; (focus (first | (go_at_call 10; with_reducible exact calls_grew (C1.out _)) | (go_at_call 16; with_reducible exact calls_grew (C2.out _)))); go_big_quiet_on))))))
        refine wpQuiet_nil ?_
        intro y50 hw50
        obtain ⟨x50, rfl⟩ := hw50
        have H50 := Lib.hid (show Blk (grew y161 x50) y2.heap.size 24 (pmC p.o p.e (Value.slice ra rl rc) (Value.slice qa ql qc) (Value.slice ga gl gc)) ∧ PmS (grew y161 x50) p (Value.slice ra rl rc) (Value.slice qa ql qc) (Value.slice ga gl gc) ∧ Below w.heap.size w (grew y161 x50) ∧ Blk (grew y161 x50) wo.heap.size 35 (act3C act) ∧ Blk (grew y161 x50) y17.heap.size 24 (pmC q.o q.e (Value.slice x16a0 x16l0 x16c0) (Value.slice x16a1 x16l1 x16c1) (Value.slice x16a2 x16l2 x16c2)) ∧ PmS (grew y161 x50) q (Value.slice x16a0 x16l0 x16c0) (Value.slice x16a1 x16l1 x16c1) (Value.slice x16a2 x16l2 x16c2) from ⟨HY162.out.1.below (below_grew y161 x50) HY162.out.1.lt, HY162.out.2.1.below (below_grew y161 x50), below_thn HY162.out.2.2.1 (below_grew y161 x50) (Nat.le_refl _), HY162.out.2.2.2.1.below (below_grew y161 x50) HY162.out.2.2.2.1.lt, HY162.out.2.2.2.2.2.2.2.below (below_grew y161 x50) HY162.out.2.2.2.2.2.2.2.lt, HY162.out.2.2.2.2.2.1.below (below_grew y161 x50)⟩)
        clear cp0 cp1 cq0 cq1 C1 C2
        go_wp2_with fail
        clear q1 q3 hw eo q2
        go_loopw [14] (fun c wr => ∃ n : Nat, 1 ≤ n ∧ n ≤ 7 ∧ c = .int .i64 n ∧ Hid (Blk wr y2.heap.size 24 (pmC p.o p.e (Value.slice ra rl rc) (Value.slice qa ql qc) (Value.slice ga gl gc)) ∧ PmS wr p (Value.slice ra rl rc) (Value.slice qa ql qc) (Value.slice ga gl gc) ∧ Below w.heap.size w wr ∧ Blk wr wo.heap.size 35 (act3C act) ∧ Blk wr y17.heap.size 24 (pmC q.o q.e (Value.slice x16a0 x16l0 x16c0) (Value.slice x16a1 x16l1 x16c1) (Value.slice x16a2 x16l2 x16c2)) ∧ PmS wr q (Value.slice x16a0 x16l0 x16c0) (Value.slice x16a1 x16l1 x16c1) (Value.slice x16a2 x16l2 x16c2))) (fun c _ => 7 - (intOf c).toNat)
        case atStart => exact ⟨1, by omega, by omega, rfl, H50⟩
        case round =>
          clear H50
          obtain ⟨n, hn1, hn7, rfl, HZ⟩ := hrel
          by_cases hn6 : n ≤ 6
          rotate_left
          · have hnz : ¬ (n : Int) ≤ 6 := by omega
            go_wp2_with (first
    | (with_reducible refine wpList_load_any rfl 24 (.tmp 11) rfl y17.heap.size 0 rfl (pmC q.o q.e (Value.slice x16a0 x16l0 x16c0) (Value.slice x16a1 x16l1 x16c1) (Value.slice x16a2 x16l2 x16c2)) _ (rangeW_blk HZ.out.2.2.2.2.1) Try.underlying24 rfl (pmC_info _ _ _ _ _) ?_)
    | ((with_reducible refine wpList_store_blk wr rfl 24 (.tmp 7) (.tmp 184) rfl y2.heap.size 24 (pmC p.o p.e (Value.slice ra rl rc) (Value.slice qa ql qc) (Value.slice ga gl gc)) (pmC q.o q.e (Value.slice x16a0 x16l0 x16c0) (Value.slice x16a1 x16l1 x16c1) (Value.slice x16a2 x16l2 x16c2)) HZ.out.1 rfl rfl rfl (pmC_info _ _ _ _ _) (pmC_one _ _ _ _ _ _ _ _ _ _ _) ?_); intro z99 hb hc hs; have H99 := Lib.hid (show Blk z99 y2.heap.size 24 (pmC q.o q.e (Value.slice x16a0 x16l0 x16c0) (Value.slice x16a1 x16l1 x16c1) (Value.slice x16a2 x16l2 x16c2)) ∧ PmS z99 q (Value.slice x16a0 x16l0 x16c0) (Value.slice x16a1 x16l1 x16c1) (Value.slice x16a2 x16l2 x16c2) ∧ Below w.heap.size w z99 from ⟨hb, HZ.out.2.2.2.2.2.ch hc HOFQ.out, below_ch HZ.out.2.2.1 hc (Nat.le_refl _) (fun k hk => by have e : k = y2.heap.size := hk; have := HOF.out; omega)⟩); clear hb hc hs))
            go_round
            case rel => exact ⟨k + 1, by omega, by omega, by go_num, Lib.hid ⟨q, _, _, _, _, _, _, _, _, _, HG.out.ok, HQN.out, H99.out.1, H99.out.2.1, H99.out.2.2⟩⟩
            case measure => simp [intOf]; omega
          have hnz : (n : Int) ≤ 6 := by omega
          obtain ⟨a, ha⟩ : ∃ b, mayRB p (n : Int) m = b := ⟨_, rfl⟩
          obtain ⟨b, hb⟩ : ∃ b, mayRB q (n : Int) m = b := ⟨_, rfl⟩
          obtain ⟨c, hc⟩ : ∃ b, mayWB p (n : Int) = b := ⟨_, rfl⟩
          obtain ⟨d, hd⟩ : ∃ b, mayWB q (n : Int) = b := ⟨_, rfl⟩
          obtain ⟨f, hf⟩ : ∃ b, mayRB q (n : Int) [] = b := ⟨_, rfl⟩
          obtain ⟨nw, hnw⟩ : ∃ b, ((n : Int) != act.n) = b := ⟨_, rfl⟩
          have HLW := Lib.hid (goes_b HG.out (n : Int) ha hb hc hd hf HKZ.out.1 HKZ.out.2 hnw)
          have HA := Lib.hid ha
          have HB := Lib.hid hb
          have HC := Lib.hid hc
          have HD := Lib.hid hd
          have HF := Lib.hid hf
          clear ha hb hc hd hf
          have ca := HZ.out.2.2.2.1.cell 2
          simp only [act3C, List.getElem?_cons_zero, List.getElem?_cons_succ] at ca
          go_wp2_with (with_reducible refine wpList_load_any rfl 24 (.tmp 11) rfl y17.heap.size 0 rfl (pmC q.o q.e (Value.slice x16a0 x16l0 x16c0) (Value.slice x16a1 x16l1 x16c1) (Value.slice x16a2 x16l2 x16c2)) _ (rangeW_blk HZ.out.2.2.2.2.1) Try.underlying24 rfl (pmC_info _ _ _ _ _) ?_)
          clear ca
          have h1 := mayWrite_any q (n : Int) _ _ _ wr HZ.out.2.2.2.2.2
          rw [HD.out] at h1
          refine Calls.mono h1 ?_
          clear h1
          rintro e' z163 ⟨rfl, hb⟩
          have HZ164 := Lib.hid (show Blk z163 y2.heap.size 24 (pmC p.o p.e (Value.slice ra rl rc) (Value.slice qa ql qc) (Value.slice ga gl gc)) ∧ PmS z163 p (Value.slice ra rl rc) (Value.slice qa ql qc) (Value.slice ga gl gc) ∧ Below w.heap.size w z163 ∧ Blk z163 wo.heap.size 35 (act3C act) ∧ Blk z163 y17.heap.size 24 (pmC q.o q.e (Value.slice x16a0 x16l0 x16c0) (Value.slice x16a1 x16l1 x16c1) (Value.slice x16a2 x16l2 x16c2)) ∧ PmS z163 q (Value.slice x16a0 x16l0 x16c0) (Value.slice x16a1 x16l1 x16c1) (Value.slice x16a2 x16l2 x16c2) from ⟨HZ.out.1.below hb HZ.out.1.lt, HZ.out.2.1.below hb, below_thn HZ.out.2.2.1 hb (Nat.le_refl _), HZ.out.2.2.2.1.below hb HZ.out.2.2.2.1.lt, HZ.out.2.2.2.2.1.below hb HZ.out.2.2.2.2.1.lt, HZ.out.2.2.2.2.2.below hb⟩)
          clear hb
          cases d
          · skip
            have ca := HZ164.out.2.2.2.1.cell 2
            simp only [act3C, List.getElem?_cons_zero, List.getElem?_cons_succ] at ca
            go_wp2_with (with_reducible refine wpList_load_any rfl 24 (.tmp 7) rfl y2.heap.size 0 rfl (pmC p.o p.e (Value.slice ra rl rc) (Value.slice qa ql qc) (Value.slice ga gl gc)) _ (rangeW_blk HZ164.out.1) Try.underlying24 rfl (pmC_info _ _ _ _ _) ?_)
            clear ca
            have h1 := mayRead_any p (n : Int) m _ _ _ _ z163 HZ164.out.2.1 (HSM.out.below HZ164.out.2.2.1)
            rw [HA.out] at h1
            refine Calls.mono h1 ?_
            clear h1
            rintro e' z165 ⟨rfl, hb⟩
            have HZ166 := Lib.hid (show Blk z165 y2.heap.size 24 (pmC p.o p.e (Value.slice ra rl rc) (Value.slice qa ql qc) (Value.slice ga gl gc)) ∧ PmS z165 p (Value.slice ra rl rc) (Value.slice qa ql qc) (Value.slice ga gl gc) ∧ Below w.heap.size w z165 ∧ Blk z165 wo.heap.size 35 (act3C act) ∧ Blk z165 y17.heap.size 24 (pmC q.o q.e (Value.slice x16a0 x16l0 x16c0) (Value.slice x16a1 x16l1 x16c1) (Value.slice x16a2 x16l2 x16c2)) ∧ PmS z165 q (Value.slice x16a0 x16l0 x16c0) (Value.slice x16a1 x16l1 x16c1) (Value.slice x16a2 x16l2 x16c2) from ⟨HZ164.out.1.below hb HZ164.out.1.lt, HZ164.out.2.1.below hb, below_thn HZ164.out.2.2.1 hb (Nat.le_refl _), HZ164.out.2.2.2.1.below hb HZ164.out.2.2.2.1.lt, HZ164.out.2.2.2.2.1.below hb HZ164.out.2.2.2.2.1.lt, HZ164.out.2.2.2.2.2.below hb⟩)
            clear hb
            cases a
            · skip
              have ca := HZ166.out.2.2.2.1.cell 2
              simp only [act3C, List.getElem?_cons_zero, List.getElem?_cons_succ] at ca
              go_wp2_with ((with_reducible refine wpList_load_want ?_ 24 (.tmp 7) rfl y2.heap.size 0 rfl (pmC p.o p.e (Value.slice ra rl rc) (Value.slice qa ql qc) (Value.slice ga gl gc)) _ (rangeW_blk HZ166.out.1) Try.underlying24 rfl (pmC_info _ _ _ _ _) ?_); focus rfl)
              clear ca
              have h1 := mayWrite_any p (n : Int) _ _ _ z165 HZ166.out.2.1
              rw [HC.out] at h1
              refine Calls.mono h1 ?_
              clear h1
              rintro e' z167 ⟨rfl, hb⟩
              have HZ168 := Lib.hid (show Blk z167 y2.heap.size 24 (pmC p.o p.e (Value.slice ra rl rc) (Value.slice qa ql qc) (Value.slice ga gl gc)) ∧ PmS z167 p (Value.slice ra rl rc) (Value.slice qa ql qc) (Value.slice ga gl gc) ∧ Below w.heap.size w z167 ∧ Blk z167 wo.heap.size 35 (act3C act) ∧ Blk z167 y17.heap.size 24 (pmC q.o q.e (Value.slice x16a0 x16l0 x16c0) (Value.slice x16a1 x16l1 x16c1) (Value.slice x16a2 x16l2 x16c2)) ∧ PmS z167 q (Value.slice x16a0 x16l0 x16c0) (Value.slice x16a1 x16l1 x16c1) (Value.slice x16a2 x16l2 x16c2) from ⟨HZ166.out.1.below hb HZ166.out.1.lt, HZ166.out.2.1.below hb, below_thn HZ166.out.2.2.1 hb (Nat.le_refl _), HZ166.out.2.2.2.1.below hb HZ166.out.2.2.2.1.lt, HZ166.out.2.2.2.2.1.below hb HZ166.out.2.2.2.2.1.lt, HZ166.out.2.2.2.2.2.below hb⟩)
              clear hb
              cases c
              · skip
                have ca := HZ168.out.2.2.2.1.cell 2
                simp only [act3C, List.getElem?_cons_zero, List.getElem?_cons_succ] at ca
                go_wp2_with ((with_reducible refine wpList_load_want ?_ 24 (.tmp 7) rfl y2.heap.size 0 rfl (pmC p.o p.e (Value.slice ra rl rc) (Value.slice qa ql qc) (Value.slice ga gl gc)) _ (rangeW_blk HZ168.out.1) Try.underlying24 rfl (pmC_info _ _ _ _ _) ?_); focus rfl)
                clear ca
                have h1 := mayRead_any p (n : Int) m _ _ _ _ z167 HZ168.out.2.1 (HSM.out.below HZ168.out.2.2.1)
                rw [HA.out] at h1
                refine Calls.mono h1 ?_
                clear h1
                rintro e' z169 ⟨rfl, hb⟩
                have HZ170 := Lib.hid (show Blk z169 y2.heap.size 24 (pmC p.o p.e (Value.slice ra rl rc) (Value.slice qa ql qc) (Value.slice ga gl gc)) ∧ PmS z169 p (Value.slice ra rl rc) (Value.slice qa ql qc) (Value.slice ga gl gc) ∧ Below w.heap.size w z169 ∧ Blk z169 wo.heap.size 35 (act3C act) ∧ Blk z169 y17.heap.size 24 (pmC q.o q.e (Value.slice x16a0 x16l0 x16c0) (Value.slice x16a1 x16l1 x16c1) (Value.slice x16a2 x16l2 x16c2)) ∧ PmS z169 q (Value.slice x16a0 x16l0 x16c0) (Value.slice x16a1 x16l1 x16c1) (Value.slice x16a2 x16l2 x16c2) from ⟨HZ168.out.1.below hb HZ168.out.1.lt, HZ168.out.2.1.below hb, below_thn HZ168.out.2.2.1 hb (Nat.le_refl _), HZ168.out.2.2.2.1.below hb HZ168.out.2.2.2.1.lt, HZ168.out.2.2.2.2.1.below hb HZ168.out.2.2.2.2.1.lt, HZ168.out.2.2.2.2.2.below hb⟩)
                clear hb
                have ca := HZ170.out.2.2.2.1.cell 2
                simp only [act3C, List.getElem?_cons_zero, List.getElem?_cons_succ] at ca
                go_wp2_with ((with_reducible refine wpList_load_want ?_ 24 (.tmp 11) rfl y17.heap.size 0 rfl (pmC q.o q.e (Value.slice x16a0 x16l0 x16c0) (Value.slice x16a1 x16l1 x16c1) (Value.slice x16a2 x16l2 x16c2)) _ (rangeW_blk HZ170.out.2.2.2.2.1) Try.underlying24 rfl (pmC_info _ _ _ _ _) ?_); focus rfl)
                clear ca
                have h1 := mayRead_any q (n : Int) m _ _ _ _ z169 HZ170.out.2.2.2.2.2 (HSM.out.below HZ170.out.2.2.1)
                rw [HB.out] at h1
                refine Calls.mono h1 ?_
                clear h1
                rintro e' z171 ⟨rfl, hb⟩
                have HZ172 := Lib.hid (show Blk z171 y2.heap.size 24 (pmC p.o p.e (Value.slice ra rl rc) (Value.slice qa ql qc) (Value.slice ga gl gc)) ∧ PmS z171 p (Value.slice ra rl rc) (Value.slice qa ql qc) (Value.slice ga gl gc) ∧ Below w.heap.size w z171 ∧ Blk z171 wo.heap.size 35 (act3C act) ∧ Blk z171 y17.heap.size 24 (pmC q.o q.e (Value.slice x16a0 x16l0 x16c0) (Value.slice x16a1 x16l1 x16c1) (Value.slice x16a2 x16l2 x16c2)) ∧ PmS z171 q (Value.slice x16a0 x16l0 x16c0) (Value.slice x16a1 x16l1 x16c1) (Value.slice x16a2 x16l2 x16c2) from ⟨HZ170.out.1.below hb HZ170.out.1.lt, HZ170.out.2.1.below hb, below_thn HZ170.out.2.2.1 hb (Nat.le_refl _), HZ170.out.2.2.2.1.below hb HZ170.out.2.2.2.1.lt, HZ170.out.2.2.2.2.1.below hb HZ170.out.2.2.2.2.1.lt, HZ170.out.2.2.2.2.2.below hb⟩)
                clear hb
                cases b
                · skip
                  have ca := HZ172.out.2.2.2.1.cell 2
                  simp only [act3C, List.getElem?_cons_zero, List.getElem?_cons_succ] at ca
                  go_wp2_with ((with_reducible refine wpList_load_want ?_ 24 (.tmp 7) rfl y2.heap.size 0 rfl (pmC p.o p.e (Value.slice ra rl rc) (Value.slice qa ql qc) (Value.slice ga gl gc)) _ (rangeW_blk HZ172.out.1) Try.underlying24 rfl (pmC_info _ _ _ _ _) ?_); focus rfl)
                  clear ca
                  have h1 := mayWrite_any p (n : Int) _ _ _ z171 HZ172.out.2.1
                  rw [HC.out] at h1
                  refine Calls.mono h1 ?_
                  clear h1
                  rintro e' z173 ⟨rfl, hb⟩
                  have HZ174 := Lib.hid (show Blk z173 y2.heap.size 24 (pmC p.o p.e (Value.slice ra rl rc) (Value.slice qa ql qc) (Value.slice ga gl gc)) ∧ PmS z173 p (Value.slice ra rl rc) (Value.slice qa ql qc) (Value.slice ga gl gc) ∧ Below w.heap.size w z173 ∧ Blk z173 wo.heap.size 35 (act3C act) ∧ Blk z173 y17.heap.size 24 (pmC q.o q.e (Value.slice x16a0 x16l0 x16c0) (Value.slice x16a1 x16l1 x16c1) (Value.slice x16a2 x16l2 x16c2)) ∧ PmS z173 q (Value.slice x16a0 x16l0 x16c0) (Value.slice x16a1 x16l1 x16c1) (Value.slice x16a2 x16l2 x16c2) from ⟨HZ172.out.1.below hb HZ172.out.1.lt, HZ172.out.2.1.below hb, below_thn HZ172.out.2.2.1 hb (Nat.le_refl _), HZ172.out.2.2.2.1.below hb HZ172.out.2.2.2.1.lt, HZ172.out.2.2.2.2.1.below hb HZ172.out.2.2.2.2.1.lt, HZ172.out.2.2.2.2.2.below hb⟩)
                  clear hb
                  have ca := HZ174.out.2.2.2.1.cell 2
                  simp only [act3C, List.getElem?_cons_zero, List.getElem?_cons_succ] at ca
                  go_wp2_with ((with_reducible refine wpList_load_want ?_ 24 (.tmp 11) rfl y17.heap.size 0 rfl (pmC q.o q.e (Value.slice x16a0 x16l0 x16c0) (Value.slice x16a1 x16l1 x16c1) (Value.slice x16a2 x16l2 x16c2)) _ (rangeW_blk HZ174.out.2.2.2.2.1) Try.underlying24 rfl (pmC_info _ _ _ _ _) ?_); focus rfl)
                  clear ca
                  have h1 := mayWrite_any q (n : Int) _ _ _ z173 HZ174.out.2.2.2.2.2
                  rw [HD.out] at h1
                  refine Calls.mono h1 ?_
                  clear h1
                  rintro e' z175 ⟨rfl, hb⟩
                  have HZ176 := Lib.hid (show Blk z175 y2.heap.size 24 (pmC p.o p.e (Value.slice ra rl rc) (Value.slice qa ql qc) (Value.slice ga gl gc)) ∧ PmS z175 p (Value.slice ra rl rc) (Value.slice qa ql qc) (Value.slice ga gl gc) ∧ Below w.heap.size w z175 ∧ Blk z175 wo.heap.size 35 (act3C act) ∧ Blk z175 y17.heap.size 24 (pmC q.o q.e (Value.slice x16a0 x16l0 x16c0) (Value.slice x16a1 x16l1 x16c1) (Value.slice x16a2 x16l2 x16c2)) ∧ PmS z175 q (Value.slice x16a0 x16l0 x16c0) (Value.slice x16a1 x16l1 x16c1) (Value.slice x16a2 x16l2 x16c2) from ⟨HZ174.out.1.below hb HZ174.out.1.lt, HZ174.out.2.1.below hb, below_thn HZ174.out.2.2.1 hb (Nat.le_refl _), HZ174.out.2.2.2.1.below hb HZ174.out.2.2.2.1.lt, HZ174.out.2.2.2.2.1.below hb HZ174.out.2.2.2.2.1.lt, HZ174.out.2.2.2.2.2.below hb⟩)
                  clear hb
                  go_wp2_with fail
                  go_round
                  case rel => exact ⟨n + 1, by omega, by omega, by go_num, HZ176⟩
                  case measure => simp [intOf]; omega
                · skip
                  exfalso
                  have h := HLW.out
                  simp at h
              · skip
                exfalso
                have h := HLW.out
                simp at h
            · skip
              have ca := HZ166.out.2.2.2.1.cell 2
              simp only [act3C, List.getElem?_cons_zero, List.getElem?_cons_succ] at ca
              go_wp2_with ((with_reducible refine wpList_load_want ?_ 24 (.tmp 11) rfl y17.heap.size 0 rfl (pmC q.o q.e (Value.slice x16a0 x16l0 x16c0) (Value.slice x16a1 x16l1 x16c1) (Value.slice x16a2 x16l2 x16c2)) _ (rangeW_blk HZ166.out.2.2.2.2.1) Try.underlying24 rfl (pmC_info _ _ _ _ _) ?_); focus rfl)
              clear ca
              have h1 := mayRead_any q (n : Int) m _ _ _ _ z165 HZ166.out.2.2.2.2.2 (HSM.out.below HZ166.out.2.2.1)
              rw [HB.out] at h1
              refine Calls.mono h1 ?_
              clear h1
              rintro e' z177 ⟨rfl, hb⟩
              have HZ178 := Lib.hid (show Blk z177 y2.heap.size 24 (pmC p.o p.e (Value.slice ra rl rc) (Value.slice qa ql qc) (Value.slice ga gl gc)) ∧ PmS z177 p (Value.slice ra rl rc) (Value.slice qa ql qc) (Value.slice ga gl gc) ∧ Below w.heap.size w z177 ∧ Blk z177 wo.heap.size 35 (act3C act) ∧ Blk z177 y17.heap.size 24 (pmC q.o q.e (Value.slice x16a0 x16l0 x16c0) (Value.slice x16a1 x16l1 x16c1) (Value.slice x16a2 x16l2 x16c2)) ∧ PmS z177 q (Value.slice x16a0 x16l0 x16c0) (Value.slice x16a1 x16l1 x16c1) (Value.slice x16a2 x16l2 x16c2) from ⟨HZ166.out.1.below hb HZ166.out.1.lt, HZ166.out.2.1.below hb, below_thn HZ166.out.2.2.1 hb (Nat.le_refl _), HZ166.out.2.2.2.1.below hb HZ166.out.2.2.2.1.lt, HZ166.out.2.2.2.2.1.below hb HZ166.out.2.2.2.2.1.lt, HZ166.out.2.2.2.2.2.below hb⟩)
              clear hb
              cases b
              · skip
                have ca := HZ178.out.2.2.2.1.cell 2
                simp only [act3C, List.getElem?_cons_zero, List.getElem?_cons_succ] at ca
                go_wp2_with ((with_reducible refine wpList_load_want ?_ 35 (.tmp 10) rfl wo.heap.size 0 rfl (act3C act) _ (rangeW_blk HZ178.out.2.2.2.1) Try.underlying35 rfl (act3C_info _) ?_); focus rfl)
                clear ca
                refine (HKC.out z177).mono ?_
                rintro e' y179 ⟨rfl, hb⟩
                have HY180 := Lib.hid (show Blk y179 y2.heap.size 24 (pmC p.o p.e (Value.slice ra rl rc) (Value.slice qa ql qc) (Value.slice ga gl gc)) ∧ PmS y179 p (Value.slice ra rl rc) (Value.slice qa ql qc) (Value.slice ga gl gc) ∧ Below w.heap.size w y179 ∧ Blk y179 wo.heap.size 35 (act3C act) ∧ Blk y179 y17.heap.size 24 (pmC q.o q.e (Value.slice x16a0 x16l0 x16c0) (Value.slice x16a1 x16l1 x16c1) (Value.slice x16a2 x16l2 x16c2)) ∧ PmS y179 q (Value.slice x16a0 x16l0 x16c0) (Value.slice x16a1 x16l1 x16c1) (Value.slice x16a2 x16l2 x16c2) from ⟨HZ178.out.1.below hb HZ178.out.1.lt, HZ178.out.2.1.below hb, below_thn HZ178.out.2.2.1 hb (Nat.le_refl _), HZ178.out.2.2.2.1.below hb HZ178.out.2.2.2.1.lt, HZ178.out.2.2.2.2.1.below hb HZ178.out.2.2.2.2.1.lt, HZ178.out.2.2.2.2.2.below hb⟩)
                clear hb
                have ca := HY180.out.2.2.2.1.cell 2
                simp only [act3C, List.getElem?_cons_zero, List.getElem?_cons_succ] at ca
                go_wp2_with ((with_reducible refine wpList_load_want ?_ 35 (.tmp 10) rfl wo.heap.size 0 rfl (act3C act) _ (rangeW_blk HY180.out.2.2.2.1) Try.underlying35 rfl (act3C_info _) ?_); focus rfl)
                clear ca
                refine (HKC.out y179).mono ?_
                rintro e' y181 ⟨rfl, hb⟩
                have HY182 := Lib.hid (show Blk y181 y2.heap.size 24 (pmC p.o p.e (Value.slice ra rl rc) (Value.slice qa ql qc) (Value.slice ga gl gc)) ∧ PmS y181 p (Value.slice ra rl rc) (Value.slice qa ql qc) (Value.slice ga gl gc) ∧ Below w.heap.size w y181 ∧ Blk y181 wo.heap.size 35 (act3C act) ∧ Blk y181 y17.heap.size 24 (pmC q.o q.e (Value.slice x16a0 x16l0 x16c0) (Value.slice x16a1 x16l1 x16c1) (Value.slice x16a2 x16l2 x16c2)) ∧ PmS y181 q (Value.slice x16a0 x16l0 x16c0) (Value.slice x16a1 x16l1 x16c1) (Value.slice x16a2 x16l2 x16c2) from ⟨HY180.out.1.below hb HY180.out.1.lt, HY180.out.2.1.below hb, below_thn HY180.out.2.2.1 hb (Nat.le_refl _), HY180.out.2.2.2.1.below hb HY180.out.2.2.2.1.lt, HY180.out.2.2.2.2.1.below hb HY180.out.2.2.2.2.1.lt, HY180.out.2.2.2.2.2.below hb⟩)
                clear hb
                have ca := HY182.out.2.2.2.1.cell 2
                simp only [act3C, List.getElem?_cons_zero, List.getElem?_cons_succ] at ca
                go_wp2_with ((with_reducible refine wpList_load_want ?_ 24 (.tmp 7) rfl y2.heap.size 0 rfl (pmC p.o p.e (Value.slice ra rl rc) (Value.slice qa ql qc) (Value.slice ga gl gc)) _ (rangeW_blk HY182.out.1) Try.underlying24 rfl (pmC_info _ _ _ _ _) ?_); focus rfl)
                clear ca
                have h1 := mayWrite_any p (n : Int) _ _ _ y181 HY182.out.2.1
                rw [HC.out] at h1
                refine Calls.mono h1 ?_
                clear h1
                rintro e' z183 ⟨rfl, hb⟩
                have HZ184 := Lib.hid (show Blk z183 y2.heap.size 24 (pmC p.o p.e (Value.slice ra rl rc) (Value.slice qa ql qc) (Value.slice ga gl gc)) ∧ PmS z183 p (Value.slice ra rl rc) (Value.slice qa ql qc) (Value.slice ga gl gc) ∧ Below w.heap.size w z183 ∧ Blk z183 wo.heap.size 35 (act3C act) ∧ Blk z183 y17.heap.size 24 (pmC q.o q.e (Value.slice x16a0 x16l0 x16c0) (Value.slice x16a1 x16l1 x16c1) (Value.slice x16a2 x16l2 x16c2)) ∧ PmS z183 q (Value.slice x16a0 x16l0 x16c0) (Value.slice x16a1 x16l1 x16c1) (Value.slice x16a2 x16l2 x16c2) from ⟨HY182.out.1.below hb HY182.out.1.lt, HY182.out.2.1.below hb, below_thn HY182.out.2.2.1 hb (Nat.le_refl _), HY182.out.2.2.2.1.below hb HY182.out.2.2.2.1.lt, HY182.out.2.2.2.2.1.below hb HY182.out.2.2.2.2.1.lt, HY182.out.2.2.2.2.2.below hb⟩)
                clear hb
                cases c
                · skip
                  have ca := HZ184.out.2.2.2.1.cell 2
                  simp only [act3C, List.getElem?_cons_zero, List.getElem?_cons_succ] at ca
                  go_wp2_with ((with_reducible refine wpList_load_want ?_ 24 (.tmp 7) rfl y2.heap.size 0 rfl (pmC p.o p.e (Value.slice ra rl rc) (Value.slice qa ql qc) (Value.slice ga gl gc)) _ (rangeW_blk HZ184.out.1) Try.underlying24 rfl (pmC_info _ _ _ _ _) ?_); focus rfl)
                  clear ca
                  have h1 := mayRead_any p (n : Int) m _ _ _ _ z183 HZ184.out.2.1 (HSM.out.below HZ184.out.2.2.1)
                  rw [HA.out] at h1
                  refine Calls.mono h1 ?_
                  clear h1
                  rintro e' z185 ⟨rfl, hb⟩
                  have HZ186 := Lib.hid (show Blk z185 y2.heap.size 24 (pmC p.o p.e (Value.slice ra rl rc) (Value.slice qa ql qc) (Value.slice ga gl gc)) ∧ PmS z185 p (Value.slice ra rl rc) (Value.slice qa ql qc) (Value.slice ga gl gc) ∧ Below w.heap.size w z185 ∧ Blk z185 wo.heap.size 35 (act3C act) ∧ Blk z185 y17.heap.size 24 (pmC q.o q.e (Value.slice x16a0 x16l0 x16c0) (Value.slice x16a1 x16l1 x16c1) (Value.slice x16a2 x16l2 x16c2)) ∧ PmS z185 q (Value.slice x16a0 x16l0 x16c0) (Value.slice x16a1 x16l1 x16c1) (Value.slice x16a2 x16l2 x16c2) from ⟨HZ184.out.1.below hb HZ184.out.1.lt, HZ184.out.2.1.below hb, below_thn HZ184.out.2.2.1 hb (Nat.le_refl _), HZ184.out.2.2.2.1.below hb HZ184.out.2.2.2.1.lt, HZ184.out.2.2.2.2.1.below hb HZ184.out.2.2.2.2.1.lt, HZ184.out.2.2.2.2.2.below hb⟩)
                  clear hb
                  have ca := HZ186.out.2.2.2.1.cell 2
                  simp only [act3C, List.getElem?_cons_zero, List.getElem?_cons_succ] at ca
                  go_wp2_with ((with_reducible refine wpList_load_want ?_ 24 (.tmp 7) rfl y2.heap.size 0 rfl (pmC p.o p.e (Value.slice ra rl rc) (Value.slice qa ql qc) (Value.slice ga gl gc)) _ (rangeW_blk HZ186.out.1) Try.underlying24 rfl (pmC_info _ _ _ _ _) ?_); focus rfl)
                  clear ca
                  have h1 := mayWrite_any p (n : Int) _ _ _ z185 HZ186.out.2.1
                  rw [HC.out] at h1
                  refine Calls.mono h1 ?_
                  clear h1
                  rintro e' z187 ⟨rfl, hb⟩
                  have HZ188 := Lib.hid (show Blk z187 y2.heap.size 24 (pmC p.o p.e (Value.slice ra rl rc) (Value.slice qa ql qc) (Value.slice ga gl gc)) ∧ PmS z187 p (Value.slice ra rl rc) (Value.slice qa ql qc) (Value.slice ga gl gc) ∧ Below w.heap.size w z187 ∧ Blk z187 wo.heap.size 35 (act3C act) ∧ Blk z187 y17.heap.size 24 (pmC q.o q.e (Value.slice x16a0 x16l0 x16c0) (Value.slice x16a1 x16l1 x16c1) (Value.slice x16a2 x16l2 x16c2)) ∧ PmS z187 q (Value.slice x16a0 x16l0 x16c0) (Value.slice x16a1 x16l1 x16c1) (Value.slice x16a2 x16l2 x16c2) from ⟨HZ186.out.1.below hb HZ186.out.1.lt, HZ186.out.2.1.below hb, below_thn HZ186.out.2.2.1 hb (Nat.le_refl _), HZ186.out.2.2.2.1.below hb HZ186.out.2.2.2.1.lt, HZ186.out.2.2.2.2.1.below hb HZ186.out.2.2.2.2.1.lt, HZ186.out.2.2.2.2.2.below hb⟩)
                  clear hb
                  have ca := HZ188.out.2.2.2.1.cell 2
                  simp only [act3C, List.getElem?_cons_zero, List.getElem?_cons_succ] at ca
                  go_wp2_with ((with_reducible refine wpList_load_want ?_ 24 (.tmp 11) rfl y17.heap.size 0 rfl (pmC q.o q.e (Value.slice x16a0 x16l0 x16c0) (Value.slice x16a1 x16l1 x16c1) (Value.slice x16a2 x16l2 x16c2)) _ (rangeW_blk HZ188.out.2.2.2.2.1) Try.underlying24 rfl (pmC_info _ _ _ _ _) ?_); focus rfl)
                  clear ca
                  have h1 := mayWrite_any q (n : Int) _ _ _ z187 HZ188.out.2.2.2.2.2
                  rw [HD.out] at h1
                  refine Calls.mono h1 ?_
                  clear h1
                  rintro e' z189 ⟨rfl, hb⟩
                  have HZ190 := Lib.hid (show Blk z189 y2.heap.size 24 (pmC p.o p.e (Value.slice ra rl rc) (Value.slice qa ql qc) (Value.slice ga gl gc)) ∧ PmS z189 p (Value.slice ra rl rc) (Value.slice qa ql qc) (Value.slice ga gl gc) ∧ Below w.heap.size w z189 ∧ Blk z189 wo.heap.size 35 (act3C act) ∧ Blk z189 y17.heap.size 24 (pmC q.o q.e (Value.slice x16a0 x16l0 x16c0) (Value.slice x16a1 x16l1 x16c1) (Value.slice x16a2 x16l2 x16c2)) ∧ PmS z189 q (Value.slice x16a0 x16l0 x16c0) (Value.slice x16a1 x16l1 x16c1) (Value.slice x16a2 x16l2 x16c2) from ⟨HZ188.out.1.below hb HZ188.out.1.lt, HZ188.out.2.1.below hb, below_thn HZ188.out.2.2.1 hb (Nat.le_refl _), HZ188.out.2.2.2.1.below hb HZ188.out.2.2.2.1.lt, HZ188.out.2.2.2.2.1.below hb HZ188.out.2.2.2.2.1.lt, HZ188.out.2.2.2.2.2.below hb⟩)
                  clear hb
                  go_wp2_with fail
                  go_round
                  case rel => exact ⟨n + 1, by omega, by omega, by go_num, HZ190⟩
                  case measure => simp [intOf]; omega
                · skip
                  exfalso
                  have h := HLW.out
                  simp at h
              · skip
                have ca := HZ178.out.2.2.2.1.cell 2
                simp only [act3C, List.getElem?_cons_zero, List.getElem?_cons_succ] at ca
                go_wp2_with ((with_reducible refine wpList_load_want ?_ 24 (.tmp 7) rfl y2.heap.size 0 rfl (pmC p.o p.e (Value.slice ra rl rc) (Value.slice qa ql qc) (Value.slice ga gl gc)) _ (rangeW_blk HZ178.out.1) Try.underlying24 rfl (pmC_info _ _ _ _ _) ?_); focus rfl)
                clear ca
                have h1 := mayWrite_any p (n : Int) _ _ _ z177 HZ178.out.2.1
                rw [HC.out] at h1
                refine Calls.mono h1 ?_
                clear h1
                rintro e' z191 ⟨rfl, hb⟩
                have HZ192 := Lib.hid (show Blk z191 y2.heap.size 24 (pmC p.o p.e (Value.slice ra rl rc) (Value.slice qa ql qc) (Value.slice ga gl gc)) ∧ PmS z191 p (Value.slice ra rl rc) (Value.slice qa ql qc) (Value.slice ga gl gc) ∧ Below w.heap.size w z191 ∧ Blk z191 wo.heap.size 35 (act3C act) ∧ Blk z191 y17.heap.size 24 (pmC q.o q.e (Value.slice x16a0 x16l0 x16c0) (Value.slice x16a1 x16l1 x16c1) (Value.slice x16a2 x16l2 x16c2)) ∧ PmS z191 q (Value.slice x16a0 x16l0 x16c0) (Value.slice x16a1 x16l1 x16c1) (Value.slice x16a2 x16l2 x16c2) from ⟨HZ178.out.1.below hb HZ178.out.1.lt, HZ178.out.2.1.below hb, below_thn HZ178.out.2.2.1 hb (Nat.le_refl _), HZ178.out.2.2.2.1.below hb HZ178.out.2.2.2.1.lt, HZ178.out.2.2.2.2.1.below hb HZ178.out.2.2.2.2.1.lt, HZ178.out.2.2.2.2.2.below hb⟩)
                clear hb
                cases c
                · skip
                  have ca := HZ192.out.2.2.2.1.cell 2
                  simp only [act3C, List.getElem?_cons_zero, List.getElem?_cons_succ] at ca
                  go_wp2_with ((with_reducible refine wpList_load_want ?_ 24 (.tmp 7) rfl y2.heap.size 0 rfl (pmC p.o p.e (Value.slice ra rl rc) (Value.slice qa ql qc) (Value.slice ga gl gc)) _ (rangeW_blk HZ192.out.1) Try.underlying24 rfl (pmC_info _ _ _ _ _) ?_); focus rfl)
                  clear ca
                  have h1 := mayRead_any p (n : Int) m _ _ _ _ z191 HZ192.out.2.1 (HSM.out.below HZ192.out.2.2.1)
                  rw [HA.out] at h1
                  refine Calls.mono h1 ?_
                  clear h1
                  rintro e' z193 ⟨rfl, hb⟩
                  have HZ194 := Lib.hid (show Blk z193 y2.heap.size 24 (pmC p.o p.e (Value.slice ra rl rc) (Value.slice qa ql qc) (Value.slice ga gl gc)) ∧ PmS z193 p (Value.slice ra rl rc) (Value.slice qa ql qc) (Value.slice ga gl gc) ∧ Below w.heap.size w z193 ∧ Blk z193 wo.heap.size 35 (act3C act) ∧ Blk z193 y17.heap.size 24 (pmC q.o q.e (Value.slice x16a0 x16l0 x16c0) (Value.slice x16a1 x16l1 x16c1) (Value.slice x16a2 x16l2 x16c2)) ∧ PmS z193 q (Value.slice x16a0 x16l0 x16c0) (Value.slice x16a1 x16l1 x16c1) (Value.slice x16a2 x16l2 x16c2) from ⟨HZ192.out.1.below hb HZ192.out.1.lt, HZ192.out.2.1.below hb, below_thn HZ192.out.2.2.1 hb (Nat.le_refl _), HZ192.out.2.2.2.1.below hb HZ192.out.2.2.2.1.lt, HZ192.out.2.2.2.2.1.below hb HZ192.out.2.2.2.2.1.lt, HZ192.out.2.2.2.2.2.below hb⟩)
                  clear hb
                  have ca := HZ194.out.2.2.2.1.cell 2
                  simp only [act3C, List.getElem?_cons_zero, List.getElem?_cons_succ] at ca
                  go_wp2_with ((with_reducible refine wpList_load_want ?_ 24 (.tmp 7) rfl y2.heap.size 0 rfl (pmC p.o p.e (Value.slice ra rl rc) (Value.slice qa ql qc) (Value.slice ga gl gc)) _ (rangeW_blk HZ194.out.1) Try.underlying24 rfl (pmC_info _ _ _ _ _) ?_); focus rfl)
                  clear ca
                  have h1 := mayWrite_any p (n : Int) _ _ _ z193 HZ194.out.2.1
                  rw [HC.out] at h1
                  refine Calls.mono h1 ?_
                  clear h1
                  rintro e' z195 ⟨rfl, hb⟩
                  have HZ196 := Lib.hid (show Blk z195 y2.heap.size 24 (pmC p.o p.e (Value.slice ra rl rc) (Value.slice qa ql qc) (Value.slice ga gl gc)) ∧ PmS z195 p (Value.slice ra rl rc) (Value.slice qa ql qc) (Value.slice ga gl gc) ∧ Below w.heap.size w z195 ∧ Blk z195 wo.heap.size 35 (act3C act) ∧ Blk z195 y17.heap.size 24 (pmC q.o q.e (Value.slice x16a0 x16l0 x16c0) (Value.slice x16a1 x16l1 x16c1) (Value.slice x16a2 x16l2 x16c2)) ∧ PmS z195 q (Value.slice x16a0 x16l0 x16c0) (Value.slice x16a1 x16l1 x16c1) (Value.slice x16a2 x16l2 x16c2) from ⟨HZ194.out.1.below hb HZ194.out.1.lt, HZ194.out.2.1.below hb, below_thn HZ194.out.2.2.1 hb (Nat.le_refl _), HZ194.out.2.2.2.1.below hb HZ194.out.2.2.2.1.lt, HZ194.out.2.2.2.2.1.below hb HZ194.out.2.2.2.2.1.lt, HZ194.out.2.2.2.2.2.below hb⟩)
                  clear hb
                  have ca := HZ196.out.2.2.2.1.cell 2
                  simp only [act3C, List.getElem?_cons_zero, List.getElem?_cons_succ] at ca
                  go_wp2_with ((with_reducible refine wpList_load_want ?_ 24 (.tmp 11) rfl y17.heap.size 0 rfl (pmC q.o q.e (Value.slice x16a0 x16l0 x16c0) (Value.slice x16a1 x16l1 x16c1) (Value.slice x16a2 x16l2 x16c2)) _ (rangeW_blk HZ196.out.2.2.2.2.1) Try.underlying24 rfl (pmC_info _ _ _ _ _) ?_); focus rfl)
                  clear ca
                  have h1 := mayWrite_any q (n : Int) _ _ _ z195 HZ196.out.2.2.2.2.2
                  rw [HD.out] at h1
                  refine Calls.mono h1 ?_
                  clear h1
                  rintro e' z197 ⟨rfl, hb⟩
                  have HZ198 := Lib.hid (show Blk z197 y2.heap.size 24 (pmC p.o p.e (Value.slice ra rl rc) (Value.slice qa ql qc) (Value.slice ga gl gc)) ∧ PmS z197 p (Value.slice ra rl rc) (Value.slice qa ql qc) (Value.slice ga gl gc) ∧ Below w.heap.size w z197 ∧ Blk z197 wo.heap.size 35 (act3C act) ∧ Blk z197 y17.heap.size 24 (pmC q.o q.e (Value.slice x16a0 x16l0 x16c0) (Value.slice x16a1 x16l1 x16c1) (Value.slice x16a2 x16l2 x16c2)) ∧ PmS z197 q (Value.slice x16a0 x16l0 x16c0) (Value.slice x16a1 x16l1 x16c1) (Value.slice x16a2 x16l2 x16c2) from ⟨HZ196.out.1.below hb HZ196.out.1.lt, HZ196.out.2.1.below hb, below_thn HZ196.out.2.2.1 hb (Nat.le_refl _), HZ196.out.2.2.2.1.below hb HZ196.out.2.2.2.1.lt, HZ196.out.2.2.2.2.1.below hb HZ196.out.2.2.2.2.1.lt, HZ196.out.2.2.2.2.2.below hb⟩)
                  clear hb
                  go_wp2_with fail
                  go_round
                  case rel => exact ⟨n + 1, by omega, by omega, by go_num, HZ198⟩
                  case measure => simp [intOf]; omega
                · skip
                  exfalso
                  have h := HLW.out
                  simp at h
          · skip
            have ca := HZ164.out.2.2.2.1.cell 2
            simp only [act3C, List.getElem?_cons_zero, List.getElem?_cons_succ] at ca
            go_wp2_with ((with_reducible refine wpList_load_want ?_ 24 (.tmp 11) rfl y17.heap.size 0 rfl (pmC q.o q.e (Value.slice x16a0 x16l0 x16c0) (Value.slice x16a1 x16l1 x16c1) (Value.slice x16a2 x16l2 x16c2)) _ (rangeW_blk HZ164.out.2.2.2.2.1) Try.underlying24 rfl (pmC_info _ _ _ _ _) ?_); focus rfl)
            clear ca
            have h1 := mayRead_any q (n : Int) [] _ _ _ _ z163 HZ164.out.2.2.2.2.2 (SlP.nil_ _ _ _)
            rw [HF.out] at h1
            refine Calls.mono h1 ?_
            clear h1
            rintro e' z199 ⟨rfl, hb⟩
            have HZ200 := Lib.hid (show Blk z199 y2.heap.size 24 (pmC p.o p.e (Value.slice ra rl rc) (Value.slice qa ql qc) (Value.slice ga gl gc)) ∧ PmS z199 p (Value.slice ra rl rc) (Value.slice qa ql qc) (Value.slice ga gl gc) ∧ Below w.heap.size w z199 ∧ Blk z199 wo.heap.size 35 (act3C act) ∧ Blk z199 y17.heap.size 24 (pmC q.o q.e (Value.slice x16a0 x16l0 x16c0) (Value.slice x16a1 x16l1 x16c1) (Value.slice x16a2 x16l2 x16c2)) ∧ PmS z199 q (Value.slice x16a0 x16l0 x16c0) (Value.slice x16a1 x16l1 x16c1) (Value.slice x16a2 x16l2 x16c2) from ⟨HZ164.out.1.below hb HZ164.out.1.lt, HZ164.out.2.1.below hb, below_thn HZ164.out.2.2.1 hb (Nat.le_refl _), HZ164.out.2.2.2.1.below hb HZ164.out.2.2.2.1.lt, HZ164.out.2.2.2.2.1.below hb HZ164.out.2.2.2.2.1.lt, HZ164.out.2.2.2.2.2.below hb⟩)
            clear hb
            cases f
            · skip
              exfalso
              have h := HLW.out
              simp at h
            · skip
              have ca := HZ200.out.2.2.2.1.cell 2
              simp only [act3C, List.getElem?_cons_zero, List.getElem?_cons_succ] at ca
              go_wp2_with (with_reducible refine wpList_load_any rfl 24 (.tmp 7) rfl y2.heap.size 0 rfl (pmC p.o p.e (Value.slice ra rl rc) (Value.slice qa ql qc) (Value.slice ga gl gc)) _ (rangeW_blk HZ200.out.1) Try.underlying24 rfl (pmC_info _ _ _ _ _) ?_)
              clear ca
              have h1 := mayRead_any p (n : Int) m _ _ _ _ z199 HZ200.out.2.1 (HSM.out.below HZ200.out.2.2.1)
              rw [HA.out] at h1
              refine Calls.mono h1 ?_
              clear h1
              rintro e' z201 ⟨rfl, hb⟩
              have HZ202 := Lib.hid (show Blk z201 y2.heap.size 24 (pmC p.o p.e (Value.slice ra rl rc) (Value.slice qa ql qc) (Value.slice ga gl gc)) ∧ PmS z201 p (Value.slice ra rl rc) (Value.slice qa ql qc) (Value.slice ga gl gc) ∧ Below w.heap.size w z201 ∧ Blk z201 wo.heap.size 35 (act3C act) ∧ Blk z201 y17.heap.size 24 (pmC q.o q.e (Value.slice x16a0 x16l0 x16c0) (Value.slice x16a1 x16l1 x16c1) (Value.slice x16a2 x16l2 x16c2)) ∧ PmS z201 q (Value.slice x16a0 x16l0 x16c0) (Value.slice x16a1 x16l1 x16c1) (Value.slice x16a2 x16l2 x16c2) from ⟨HZ200.out.1.below hb HZ200.out.1.lt, HZ200.out.2.1.below hb, below_thn HZ200.out.2.2.1 hb (Nat.le_refl _), HZ200.out.2.2.2.1.below hb HZ200.out.2.2.2.1.lt, HZ200.out.2.2.2.2.1.below hb HZ200.out.2.2.2.2.1.lt, HZ200.out.2.2.2.2.2.below hb⟩)
              clear hb
              cases a
              · skip
                have ca := HZ202.out.2.2.2.1.cell 2
                simp only [act3C, List.getElem?_cons_zero, List.getElem?_cons_succ] at ca
                go_wp2_with ((with_reducible refine wpList_load_want ?_ 24 (.tmp 7) rfl y2.heap.size 0 rfl (pmC p.o p.e (Value.slice ra rl rc) (Value.slice qa ql qc) (Value.slice ga gl gc)) _ (rangeW_blk HZ202.out.1) Try.underlying24 rfl (pmC_info _ _ _ _ _) ?_); focus rfl)
                clear ca
                have h1 := mayWrite_any p (n : Int) _ _ _ z201 HZ202.out.2.1
                rw [HC.out] at h1
                refine Calls.mono h1 ?_
                clear h1
                rintro e' z203 ⟨rfl, hb⟩
                have HZ204 := Lib.hid (show Blk z203 y2.heap.size 24 (pmC p.o p.e (Value.slice ra rl rc) (Value.slice qa ql qc) (Value.slice ga gl gc)) ∧ PmS z203 p (Value.slice ra rl rc) (Value.slice qa ql qc) (Value.slice ga gl gc) ∧ Below w.heap.size w z203 ∧ Blk z203 wo.heap.size 35 (act3C act) ∧ Blk z203 y17.heap.size 24 (pmC q.o q.e (Value.slice x16a0 x16l0 x16c0) (Value.slice x16a1 x16l1 x16c1) (Value.slice x16a2 x16l2 x16c2)) ∧ PmS z203 q (Value.slice x16a0 x16l0 x16c0) (Value.slice x16a1 x16l1 x16c1) (Value.slice x16a2 x16l2 x16c2) from ⟨HZ202.out.1.below hb HZ202.out.1.lt, HZ202.out.2.1.below hb, below_thn HZ202.out.2.2.1 hb (Nat.le_refl _), HZ202.out.2.2.2.1.below hb HZ202.out.2.2.2.1.lt, HZ202.out.2.2.2.2.1.below hb HZ202.out.2.2.2.2.1.lt, HZ202.out.2.2.2.2.2.below hb⟩)
                clear hb
                cases c
                · skip
                  exfalso
                  have h := HLW.out
                  simp at h
                · skip
                  have ca := HZ204.out.2.2.2.1.cell 2
                  simp only [act3C, List.getElem?_cons_zero, List.getElem?_cons_succ] at ca
                  go_wp2_with ((with_reducible refine wpList_load_want ?_ 24 (.tmp 11) rfl y17.heap.size 0 rfl (pmC q.o q.e (Value.slice x16a0 x16l0 x16c0) (Value.slice x16a1 x16l1 x16c1) (Value.slice x16a2 x16l2 x16c2)) _ (rangeW_blk HZ204.out.2.2.2.2.1) Try.underlying24 rfl (pmC_info _ _ _ _ _) ?_); focus rfl)
                  clear ca
                  have h1 := mayWrite_any q (n : Int) _ _ _ z203 HZ204.out.2.2.2.2.2
                  rw [HD.out] at h1
                  refine Calls.mono h1 ?_
                  clear h1
                  rintro e' z205 ⟨rfl, hb⟩
                  have HZ206 := Lib.hid (show Blk z205 y2.heap.size 24 (pmC p.o p.e (Value.slice ra rl rc) (Value.slice qa ql qc) (Value.slice ga gl gc)) ∧ PmS z205 p (Value.slice ra rl rc) (Value.slice qa ql qc) (Value.slice ga gl gc) ∧ Below w.heap.size w z205 ∧ Blk z205 wo.heap.size 35 (act3C act) ∧ Blk z205 y17.heap.size 24 (pmC q.o q.e (Value.slice x16a0 x16l0 x16c0) (Value.slice x16a1 x16l1 x16c1) (Value.slice x16a2 x16l2 x16c2)) ∧ PmS z205 q (Value.slice x16a0 x16l0 x16c0) (Value.slice x16a1 x16l1 x16c1) (Value.slice x16a2 x16l2 x16c2) from ⟨HZ204.out.1.below hb HZ204.out.1.lt, HZ204.out.2.1.below hb, below_thn HZ204.out.2.2.1 hb (Nat.le_refl _), HZ204.out.2.2.2.1.below hb HZ204.out.2.2.2.1.lt, HZ204.out.2.2.2.2.1.below hb HZ204.out.2.2.2.2.1.lt, HZ204.out.2.2.2.2.2.below hb⟩)
                  clear hb
                  have ca := HZ206.out.2.2.2.1.cell 2
                  simp only [act3C, List.getElem?_cons_zero, List.getElem?_cons_succ] at ca
                  go_wp2_with ((with_reducible refine wpList_load_want ?_ 24 (.tmp 7) rfl y2.heap.size 0 rfl (pmC p.o p.e (Value.slice ra rl rc) (Value.slice qa ql qc) (Value.slice ga gl gc)) _ (rangeW_blk HZ206.out.1) Try.underlying24 rfl (pmC_info _ _ _ _ _) ?_); focus rfl)
                  clear ca
                  have h1 := mayRead_any p (n : Int) m _ _ _ _ z205 HZ206.out.2.1 (HSM.out.below HZ206.out.2.2.1)
                  rw [HA.out] at h1
                  refine Calls.mono h1 ?_
                  clear h1
                  rintro e' z207 ⟨rfl, hb⟩
                  have HZ208 := Lib.hid (show Blk z207 y2.heap.size 24 (pmC p.o p.e (Value.slice ra rl rc) (Value.slice qa ql qc) (Value.slice ga gl gc)) ∧ PmS z207 p (Value.slice ra rl rc) (Value.slice qa ql qc) (Value.slice ga gl gc) ∧ Below w.heap.size w z207 ∧ Blk z207 wo.heap.size 35 (act3C act) ∧ Blk z207 y17.heap.size 24 (pmC q.o q.e (Value.slice x16a0 x16l0 x16c0) (Value.slice x16a1 x16l1 x16c1) (Value.slice x16a2 x16l2 x16c2)) ∧ PmS z207 q (Value.slice x16a0 x16l0 x16c0) (Value.slice x16a1 x16l1 x16c1) (Value.slice x16a2 x16l2 x16c2) from ⟨HZ206.out.1.below hb HZ206.out.1.lt, HZ206.out.2.1.below hb, below_thn HZ206.out.2.2.1 hb (Nat.le_refl _), HZ206.out.2.2.2.1.below hb HZ206.out.2.2.2.1.lt, HZ206.out.2.2.2.2.1.below hb HZ206.out.2.2.2.2.1.lt, HZ206.out.2.2.2.2.2.below hb⟩)
                  clear hb
                  have ca := HZ208.out.2.2.2.1.cell 2
                  simp only [act3C, List.getElem?_cons_zero, List.getElem?_cons_succ] at ca
                  go_wp2_with ((with_reducible refine wpList_load_want ?_ 24 (.tmp 11) rfl y17.heap.size 0 rfl (pmC q.o q.e (Value.slice x16a0 x16l0 x16c0) (Value.slice x16a1 x16l1 x16c1) (Value.slice x16a2 x16l2 x16c2)) _ (rangeW_blk HZ208.out.2.2.2.2.1) Try.underlying24 rfl (pmC_info _ _ _ _ _) ?_); focus rfl)
                  clear ca
                  have h1 := mayRead_any q (n : Int) m _ _ _ _ z207 HZ208.out.2.2.2.2.2 (HSM.out.below HZ208.out.2.2.1)
                  rw [HB.out] at h1
                  refine Calls.mono h1 ?_
                  clear h1
                  rintro e' z209 ⟨rfl, hb⟩
                  have HZ210 := Lib.hid (show Blk z209 y2.heap.size 24 (pmC p.o p.e (Value.slice ra rl rc) (Value.slice qa ql qc) (Value.slice ga gl gc)) ∧ PmS z209 p (Value.slice ra rl rc) (Value.slice qa ql qc) (Value.slice ga gl gc) ∧ Below w.heap.size w z209 ∧ Blk z209 wo.heap.size 35 (act3C act) ∧ Blk z209 y17.heap.size 24 (pmC q.o q.e (Value.slice x16a0 x16l0 x16c0) (Value.slice x16a1 x16l1 x16c1) (Value.slice x16a2 x16l2 x16c2)) ∧ PmS z209 q (Value.slice x16a0 x16l0 x16c0) (Value.slice x16a1 x16l1 x16c1) (Value.slice x16a2 x16l2 x16c2) from ⟨HZ208.out.1.below hb HZ208.out.1.lt, HZ208.out.2.1.below hb, below_thn HZ208.out.2.2.1 hb (Nat.le_refl _), HZ208.out.2.2.2.1.below hb HZ208.out.2.2.2.1.lt, HZ208.out.2.2.2.2.1.below hb HZ208.out.2.2.2.2.1.lt, HZ208.out.2.2.2.2.2.below hb⟩)
                  clear hb
                  cases b
                  · skip
                    have ca := HZ210.out.2.2.2.1.cell 2
                    simp only [act3C, List.getElem?_cons_zero, List.getElem?_cons_succ] at ca
                    go_wp2_with ((with_reducible refine wpList_load_want ?_ 24 (.tmp 7) rfl y2.heap.size 0 rfl (pmC p.o p.e (Value.slice ra rl rc) (Value.slice qa ql qc) (Value.slice ga gl gc)) _ (rangeW_blk HZ210.out.1) Try.underlying24 rfl (pmC_info _ _ _ _ _) ?_); focus rfl)
                    clear ca
                    have h1 := mayWrite_any p (n : Int) _ _ _ z209 HZ210.out.2.1
                    rw [HC.out] at h1
                    refine Calls.mono h1 ?_
                    clear h1
                    rintro e' z211 ⟨rfl, hb⟩
                    have HZ212 := Lib.hid (show Blk z211 y2.heap.size 24 (pmC p.o p.e (Value.slice ra rl rc) (Value.slice qa ql qc) (Value.slice ga gl gc)) ∧ PmS z211 p (Value.slice ra rl rc) (Value.slice qa ql qc) (Value.slice ga gl gc) ∧ Below w.heap.size w z211 ∧ Blk z211 wo.heap.size 35 (act3C act) ∧ Blk z211 y17.heap.size 24 (pmC q.o q.e (Value.slice x16a0 x16l0 x16c0) (Value.slice x16a1 x16l1 x16c1) (Value.slice x16a2 x16l2 x16c2)) ∧ PmS z211 q (Value.slice x16a0 x16l0 x16c0) (Value.slice x16a1 x16l1 x16c1) (Value.slice x16a2 x16l2 x16c2) from ⟨HZ210.out.1.below hb HZ210.out.1.lt, HZ210.out.2.1.below hb, below_thn HZ210.out.2.2.1 hb (Nat.le_refl _), HZ210.out.2.2.2.1.below hb HZ210.out.2.2.2.1.lt, HZ210.out.2.2.2.2.1.below hb HZ210.out.2.2.2.2.1.lt, HZ210.out.2.2.2.2.2.below hb⟩)
                    clear hb
                    go_wp2_with fail
                    go_round
                    case rel => exact ⟨n + 1, by omega, by omega, by go_num, HZ212⟩
                    case measure => simp [intOf]; omega
                  · skip
                    exfalso
                    have h := HLW.out
                    simp at h
              · skip
                have ca := HZ202.out.2.2.2.1.cell 2
                simp only [act3C, List.getElem?_cons_zero, List.getElem?_cons_succ] at ca
                go_wp2_with ((with_reducible refine wpList_load_want ?_ 24 (.tmp 11) rfl y17.heap.size 0 rfl (pmC q.o q.e (Value.slice x16a0 x16l0 x16c0) (Value.slice x16a1 x16l1 x16c1) (Value.slice x16a2 x16l2 x16c2)) _ (rangeW_blk HZ202.out.2.2.2.2.1) Try.underlying24 rfl (pmC_info _ _ _ _ _) ?_); focus rfl)
                clear ca
                have h1 := mayRead_any q (n : Int) m _ _ _ _ z201 HZ202.out.2.2.2.2.2 (HSM.out.below HZ202.out.2.2.1)
                rw [HB.out] at h1
                refine Calls.mono h1 ?_
                clear h1
                rintro e' z213 ⟨rfl, hb⟩
                have HZ214 := Lib.hid (show Blk z213 y2.heap.size 24 (pmC p.o p.e (Value.slice ra rl rc) (Value.slice qa ql qc) (Value.slice ga gl gc)) ∧ PmS z213 p (Value.slice ra rl rc) (Value.slice qa ql qc) (Value.slice ga gl gc) ∧ Below w.heap.size w z213 ∧ Blk z213 wo.heap.size 35 (act3C act) ∧ Blk z213 y17.heap.size 24 (pmC q.o q.e (Value.slice x16a0 x16l0 x16c0) (Value.slice x16a1 x16l1 x16c1) (Value.slice x16a2 x16l2 x16c2)) ∧ PmS z213 q (Value.slice x16a0 x16l0 x16c0) (Value.slice x16a1 x16l1 x16c1) (Value.slice x16a2 x16l2 x16c2) from ⟨HZ202.out.1.below hb HZ202.out.1.lt, HZ202.out.2.1.below hb, below_thn HZ202.out.2.2.1 hb (Nat.le_refl _), HZ202.out.2.2.2.1.below hb HZ202.out.2.2.2.1.lt, HZ202.out.2.2.2.2.1.below hb HZ202.out.2.2.2.2.1.lt, HZ202.out.2.2.2.2.2.below hb⟩)
                clear hb
                cases b
                · skip
                  have ca := HZ214.out.2.2.2.1.cell 2
                  simp only [act3C, List.getElem?_cons_zero, List.getElem?_cons_succ] at ca
                  go_wp2_with ((with_reducible refine wpList_load_want ?_ 35 (.tmp 10) rfl wo.heap.size 0 rfl (act3C act) _ (rangeW_blk HZ214.out.2.2.2.1) Try.underlying35 rfl (act3C_info _) ?_); focus rfl)
                  clear ca
                  refine (HKC.out z213).mono ?_
                  rintro e' y215 ⟨rfl, hb⟩
                  have HY216 := Lib.hid (show Blk y215 y2.heap.size 24 (pmC p.o p.e (Value.slice ra rl rc) (Value.slice qa ql qc) (Value.slice ga gl gc)) ∧ PmS y215 p (Value.slice ra rl rc) (Value.slice qa ql qc) (Value.slice ga gl gc) ∧ Below w.heap.size w y215 ∧ Blk y215 wo.heap.size 35 (act3C act) ∧ Blk y215 y17.heap.size 24 (pmC q.o q.e (Value.slice x16a0 x16l0 x16c0) (Value.slice x16a1 x16l1 x16c1) (Value.slice x16a2 x16l2 x16c2)) ∧ PmS y215 q (Value.slice x16a0 x16l0 x16c0) (Value.slice x16a1 x16l1 x16c1) (Value.slice x16a2 x16l2 x16c2) from ⟨HZ214.out.1.below hb HZ214.out.1.lt, HZ214.out.2.1.below hb, below_thn HZ214.out.2.2.1 hb (Nat.le_refl _), HZ214.out.2.2.2.1.below hb HZ214.out.2.2.2.1.lt, HZ214.out.2.2.2.2.1.below hb HZ214.out.2.2.2.2.1.lt, HZ214.out.2.2.2.2.2.below hb⟩)
                  clear hb
                  have ca := HY216.out.2.2.2.1.cell 2
                  simp only [act3C, List.getElem?_cons_zero, List.getElem?_cons_succ] at ca
                  go_wp2_with ((with_reducible refine wpList_load_want ?_ 35 (.tmp 10) rfl wo.heap.size 0 rfl (act3C act) _ (rangeW_blk HY216.out.2.2.2.1) Try.underlying35 rfl (act3C_info _) ?_); focus rfl)
                  clear ca
                  refine (HKC.out y215).mono ?_
                  rintro e' y217 ⟨rfl, hb⟩
                  have HY218 := Lib.hid (show Blk y217 y2.heap.size 24 (pmC p.o p.e (Value.slice ra rl rc) (Value.slice qa ql qc) (Value.slice ga gl gc)) ∧ PmS y217 p (Value.slice ra rl rc) (Value.slice qa ql qc) (Value.slice ga gl gc) ∧ Below w.heap.size w y217 ∧ Blk y217 wo.heap.size 35 (act3C act) ∧ Blk y217 y17.heap.size 24 (pmC q.o q.e (Value.slice x16a0 x16l0 x16c0) (Value.slice x16a1 x16l1 x16c1) (Value.slice x16a2 x16l2 x16c2)) ∧ PmS y217 q (Value.slice x16a0 x16l0 x16c0) (Value.slice x16a1 x16l1 x16c1) (Value.slice x16a2 x16l2 x16c2) from ⟨HY216.out.1.below hb HY216.out.1.lt, HY216.out.2.1.below hb, below_thn HY216.out.2.2.1 hb (Nat.le_refl _), HY216.out.2.2.2.1.below hb HY216.out.2.2.2.1.lt, HY216.out.2.2.2.2.1.below hb HY216.out.2.2.2.2.1.lt, HY216.out.2.2.2.2.2.below hb⟩)
                  clear hb
                  have ca := HY218.out.2.2.2.1.cell 2
                  simp only [act3C, List.getElem?_cons_zero, List.getElem?_cons_succ] at ca
                  go_wp2_with ((with_reducible refine wpList_load_want ?_ 24 (.tmp 7) rfl y2.heap.size 0 rfl (pmC p.o p.e (Value.slice ra rl rc) (Value.slice qa ql qc) (Value.slice ga gl gc)) _ (rangeW_blk HY218.out.1) Try.underlying24 rfl (pmC_info _ _ _ _ _) ?_); focus rfl)
                  clear ca
                  have h1 := mayWrite_any p (n : Int) _ _ _ y217 HY218.out.2.1
                  rw [HC.out] at h1
                  refine Calls.mono h1 ?_
                  clear h1
                  rintro e' z219 ⟨rfl, hb⟩
                  have HZ220 := Lib.hid (show Blk z219 y2.heap.size 24 (pmC p.o p.e (Value.slice ra rl rc) (Value.slice qa ql qc) (Value.slice ga gl gc)) ∧ PmS z219 p (Value.slice ra rl rc) (Value.slice qa ql qc) (Value.slice ga gl gc) ∧ Below w.heap.size w z219 ∧ Blk z219 wo.heap.size 35 (act3C act) ∧ Blk z219 y17.heap.size 24 (pmC q.o q.e (Value.slice x16a0 x16l0 x16c0) (Value.slice x16a1 x16l1 x16c1) (Value.slice x16a2 x16l2 x16c2)) ∧ PmS z219 q (Value.slice x16a0 x16l0 x16c0) (Value.slice x16a1 x16l1 x16c1) (Value.slice x16a2 x16l2 x16c2) from ⟨HY218.out.1.below hb HY218.out.1.lt, HY218.out.2.1.below hb, below_thn HY218.out.2.2.1 hb (Nat.le_refl _), HY218.out.2.2.2.1.below hb HY218.out.2.2.2.1.lt, HY218.out.2.2.2.2.1.below hb HY218.out.2.2.2.2.1.lt, HY218.out.2.2.2.2.2.below hb⟩)
                  clear hb
                  cases c
                  · skip
                    exfalso
                    have h := HLW.out
                    simp at h
                  · skip
                    have ca := HZ220.out.2.2.2.1.cell 2
                    simp only [act3C, List.getElem?_cons_zero, List.getElem?_cons_succ] at ca
                    go_wp2_with ((with_reducible refine wpList_load_want ?_ 24 (.tmp 11) rfl y17.heap.size 0 rfl (pmC q.o q.e (Value.slice x16a0 x16l0 x16c0) (Value.slice x16a1 x16l1 x16c1) (Value.slice x16a2 x16l2 x16c2)) _ (rangeW_blk HZ220.out.2.2.2.2.1) Try.underlying24 rfl (pmC_info _ _ _ _ _) ?_); focus rfl)
                    clear ca
                    have h1 := mayWrite_any q (n : Int) _ _ _ z219 HZ220.out.2.2.2.2.2
                    rw [HD.out] at h1
                    refine Calls.mono h1 ?_
                    clear h1
                    rintro e' z221 ⟨rfl, hb⟩
                    have HZ222 := Lib.hid (show Blk z221 y2.heap.size 24 (pmC p.o p.e (Value.slice ra rl rc) (Value.slice qa ql qc) (Value.slice ga gl gc)) ∧ PmS z221 p (Value.slice ra rl rc) (Value.slice qa ql qc) (Value.slice ga gl gc) ∧ Below w.heap.size w z221 ∧ Blk z221 wo.heap.size 35 (act3C act) ∧ Blk z221 y17.heap.size 24 (pmC q.o q.e (Value.slice x16a0 x16l0 x16c0) (Value.slice x16a1 x16l1 x16c1) (Value.slice x16a2 x16l2 x16c2)) ∧ PmS z221 q (Value.slice x16a0 x16l0 x16c0) (Value.slice x16a1 x16l1 x16c1) (Value.slice x16a2 x16l2 x16c2) from ⟨HZ220.out.1.below hb HZ220.out.1.lt, HZ220.out.2.1.below hb, below_thn HZ220.out.2.2.1 hb (Nat.le_refl _), HZ220.out.2.2.2.1.below hb HZ220.out.2.2.2.1.lt, HZ220.out.2.2.2.2.1.below hb HZ220.out.2.2.2.2.1.lt, HZ220.out.2.2.2.2.2.below hb⟩)
                    clear hb
                    have ca := HZ222.out.2.2.2.1.cell 2
                    simp only [act3C, List.getElem?_cons_zero, List.getElem?_cons_succ] at ca
                    go_wp2_with ((with_reducible refine wpList_load_want ?_ 24 (.tmp 7) rfl y2.heap.size 0 rfl (pmC p.o p.e (Value.slice ra rl rc) (Value.slice qa ql qc) (Value.slice ga gl gc)) _ (rangeW_blk HZ222.out.1) Try.underlying24 rfl (pmC_info _ _ _ _ _) ?_); focus rfl)
                    clear ca
                    have h1 := mayRead_any p (n : Int) m _ _ _ _ z221 HZ222.out.2.1 (HSM.out.below HZ222.out.2.2.1)
                    rw [HA.out] at h1
                    refine Calls.mono h1 ?_
                    clear h1
                    rintro e' z223 ⟨rfl, hb⟩
                    have HZ224 := Lib.hid (show Blk z223 y2.heap.size 24 (pmC p.o p.e (Value.slice ra rl rc) (Value.slice qa ql qc) (Value.slice ga gl gc)) ∧ PmS z223 p (Value.slice ra rl rc) (Value.slice qa ql qc) (Value.slice ga gl gc) ∧ Below w.heap.size w z223 ∧ Blk z223 wo.heap.size 35 (act3C act) ∧ Blk z223 y17.heap.size 24 (pmC q.o q.e (Value.slice x16a0 x16l0 x16c0) (Value.slice x16a1 x16l1 x16c1) (Value.slice x16a2 x16l2 x16c2)) ∧ PmS z223 q (Value.slice x16a0 x16l0 x16c0) (Value.slice x16a1 x16l1 x16c1) (Value.slice x16a2 x16l2 x16c2) from ⟨HZ222.out.1.below hb HZ222.out.1.lt, HZ222.out.2.1.below hb, below_thn HZ222.out.2.2.1 hb (Nat.le_refl _), HZ222.out.2.2.2.1.below hb HZ222.out.2.2.2.1.lt, HZ222.out.2.2.2.2.1.below hb HZ222.out.2.2.2.2.1.lt, HZ222.out.2.2.2.2.2.below hb⟩)
                    clear hb
                    have ca := HZ224.out.2.2.2.1.cell 2
                    simp only [act3C, List.getElem?_cons_zero, List.getElem?_cons_succ] at ca
                    go_wp2_with ((with_reducible refine wpList_load_want ?_ 24 (.tmp 7) rfl y2.heap.size 0 rfl (pmC p.o p.e (Value.slice ra rl rc) (Value.slice qa ql qc) (Value.slice ga gl gc)) _ (rangeW_blk HZ224.out.1) Try.underlying24 rfl (pmC_info _ _ _ _ _) ?_); focus rfl)
                    clear ca
                    have h1 := mayWrite_any p (n : Int) _ _ _ z223 HZ224.out.2.1
                    rw [HC.out] at h1
                    refine Calls.mono h1 ?_
                    clear h1
                    rintro e' z225 ⟨rfl, hb⟩
                    have HZ226 := Lib.hid (show Blk z225 y2.heap.size 24 (pmC p.o p.e (Value.slice ra rl rc) (Value.slice qa ql qc) (Value.slice ga gl gc)) ∧ PmS z225 p (Value.slice ra rl rc) (Value.slice qa ql qc) (Value.slice ga gl gc) ∧ Below w.heap.size w z225 ∧ Blk z225 wo.heap.size 35 (act3C act) ∧ Blk z225 y17.heap.size 24 (pmC q.o q.e (Value.slice x16a0 x16l0 x16c0) (Value.slice x16a1 x16l1 x16c1) (Value.slice x16a2 x16l2 x16c2)) ∧ PmS z225 q (Value.slice x16a0 x16l0 x16c0) (Value.slice x16a1 x16l1 x16c1) (Value.slice x16a2 x16l2 x16c2) from ⟨HZ224.out.1.below hb HZ224.out.1.lt, HZ224.out.2.1.below hb, below_thn HZ224.out.2.2.1 hb (Nat.le_refl _), HZ224.out.2.2.2.1.below hb HZ224.out.2.2.2.1.lt, HZ224.out.2.2.2.2.1.below hb HZ224.out.2.2.2.2.1.lt, HZ224.out.2.2.2.2.2.below hb⟩)
                    clear hb
                    go_wp2_with fail
                    go_round
                    case rel => exact ⟨n + 1, by omega, by omega, by go_num, HZ226⟩
                    case measure => simp [intOf]; omega
                · skip
                  have ca := HZ214.out.2.2.2.1.cell 2
                  simp only [act3C, List.getElem?_cons_zero, List.getElem?_cons_succ] at ca
                  go_wp2_with ((with_reducible refine wpList_load_want ?_ 24 (.tmp 7) rfl y2.heap.size 0 rfl (pmC p.o p.e (Value.slice ra rl rc) (Value.slice qa ql qc) (Value.slice ga gl gc)) _ (rangeW_blk HZ214.out.1) Try.underlying24 rfl (pmC_info _ _ _ _ _) ?_); focus rfl)
                  clear ca
                  have h1 := mayWrite_any p (n : Int) _ _ _ z213 HZ214.out.2.1
                  rw [HC.out] at h1
                  refine Calls.mono h1 ?_
                  clear h1
                  rintro e' z227 ⟨rfl, hb⟩
                  have HZ228 := Lib.hid (show Blk z227 y2.heap.size 24 (pmC p.o p.e (Value.slice ra rl rc) (Value.slice qa ql qc) (Value.slice ga gl gc)) ∧ PmS z227 p (Value.slice ra rl rc) (Value.slice qa ql qc) (Value.slice ga gl gc) ∧ Below w.heap.size w z227 ∧ Blk z227 wo.heap.size 35 (act3C act) ∧ Blk z227 y17.heap.size 24 (pmC q.o q.e (Value.slice x16a0 x16l0 x16c0) (Value.slice x16a1 x16l1 x16c1) (Value.slice x16a2 x16l2 x16c2)) ∧ PmS z227 q (Value.slice x16a0 x16l0 x16c0) (Value.slice x16a1 x16l1 x16c1) (Value.slice x16a2 x16l2 x16c2) from ⟨HZ214.out.1.below hb HZ214.out.1.lt, HZ214.out.2.1.below hb, below_thn HZ214.out.2.2.1 hb (Nat.le_refl _), HZ214.out.2.2.2.1.below hb HZ214.out.2.2.2.1.lt, HZ214.out.2.2.2.2.1.below hb HZ214.out.2.2.2.2.1.lt, HZ214.out.2.2.2.2.2.below hb⟩)
                  clear hb
                  cases c
                  · skip
                    exfalso
                    have h := HLW.out
                    simp at h
                  · skip
                    have ca := HZ228.out.2.2.2.1.cell 2
                    simp only [act3C, List.getElem?_cons_zero, List.getElem?_cons_succ] at ca
                    go_wp2_with ((with_reducible refine wpList_load_want ?_ 24 (.tmp 11) rfl y17.heap.size 0 rfl (pmC q.o q.e (Value.slice x16a0 x16l0 x16c0) (Value.slice x16a1 x16l1 x16c1) (Value.slice x16a2 x16l2 x16c2)) _ (rangeW_blk HZ228.out.2.2.2.2.1) Try.underlying24 rfl (pmC_info _ _ _ _ _) ?_); focus rfl)
                    clear ca
                    have h1 := mayWrite_any q (n : Int) _ _ _ z227 HZ228.out.2.2.2.2.2
                    rw [HD.out] at h1
                    refine Calls.mono h1 ?_
                    clear h1
                    rintro e' z229 ⟨rfl, hb⟩
                    have HZ230 := Lib.hid (show Blk z229 y2.heap.size 24 (pmC p.o p.e (Value.slice ra rl rc) (Value.slice qa ql qc) (Value.slice ga gl gc)) ∧ PmS z229 p (Value.slice ra rl rc) (Value.slice qa ql qc) (Value.slice ga gl gc) ∧ Below w.heap.size w z229 ∧ Blk z229 wo.heap.size 35 (act3C act) ∧ Blk z229 y17.heap.size 24 (pmC q.o q.e (Value.slice x16a0 x16l0 x16c0) (Value.slice x16a1 x16l1 x16c1) (Value.slice x16a2 x16l2 x16c2)) ∧ PmS z229 q (Value.slice x16a0 x16l0 x16c0) (Value.slice x16a1 x16l1 x16c1) (Value.slice x16a2 x16l2 x16c2) from ⟨HZ228.out.1.below hb HZ228.out.1.lt, HZ228.out.2.1.below hb, below_thn HZ228.out.2.2.1 hb (Nat.le_refl _), HZ228.out.2.2.2.1.below hb HZ228.out.2.2.2.1.lt, HZ228.out.2.2.2.2.1.below hb HZ228.out.2.2.2.2.1.lt, HZ228.out.2.2.2.2.2.below hb⟩)
                    clear hb
                    have ca := HZ230.out.2.2.2.1.cell 2
                    simp only [act3C, List.getElem?_cons_zero, List.getElem?_cons_succ] at ca
                    go_wp2_with ((with_reducible refine wpList_load_want ?_ 24 (.tmp 7) rfl y2.heap.size 0 rfl (pmC p.o p.e (Value.slice ra rl rc) (Value.slice qa ql qc) (Value.slice ga gl gc)) _ (rangeW_blk HZ230.out.1) Try.underlying24 rfl (pmC_info _ _ _ _ _) ?_); focus rfl)
                    clear ca
                    have h1 := mayRead_any p (n : Int) m _ _ _ _ z229 HZ230.out.2.1 (HSM.out.below HZ230.out.2.2.1)
                    rw [HA.out] at h1
                    refine Calls.mono h1 ?_
                    clear h1
                    rintro e' z231 ⟨rfl, hb⟩
                    have HZ232 := Lib.hid (show Blk z231 y2.heap.size 24 (pmC p.o p.e (Value.slice ra rl rc) (Value.slice qa ql qc) (Value.slice ga gl gc)) ∧ PmS z231 p (Value.slice ra rl rc) (Value.slice qa ql qc) (Value.slice ga gl gc) ∧ Below w.heap.size w z231 ∧ Blk z231 wo.heap.size 35 (act3C act) ∧ Blk z231 y17.heap.size 24 (pmC q.o q.e (Value.slice x16a0 x16l0 x16c0) (Value.slice x16a1 x16l1 x16c1) (Value.slice x16a2 x16l2 x16c2)) ∧ PmS z231 q (Value.slice x16a0 x16l0 x16c0) (Value.slice x16a1 x16l1 x16c1) (Value.slice x16a2 x16l2 x16c2) from ⟨HZ230.out.1.below hb HZ230.out.1.lt, HZ230.out.2.1.below hb, below_thn HZ230.out.2.2.1 hb (Nat.le_refl _), HZ230.out.2.2.2.1.below hb HZ230.out.2.2.2.1.lt, HZ230.out.2.2.2.2.1.below hb HZ230.out.2.2.2.2.1.lt, HZ230.out.2.2.2.2.2.below hb⟩)
                    clear hb
                    have ca := HZ232.out.2.2.2.1.cell 2
                    simp only [act3C, List.getElem?_cons_zero, List.getElem?_cons_succ] at ca
                    go_wp2_with ((with_reducible refine wpList_load_want ?_ 24 (.tmp 7) rfl y2.heap.size 0 rfl (pmC p.o p.e (Value.slice ra rl rc) (Value.slice qa ql qc) (Value.slice ga gl gc)) _ (rangeW_blk HZ232.out.1) Try.underlying24 rfl (pmC_info _ _ _ _ _) ?_); focus rfl)
                    clear ca
                    have h1 := mayWrite_any p (n : Int) _ _ _ z231 HZ232.out.2.1
                    rw [HC.out] at h1
                    refine Calls.mono h1 ?_
                    clear h1
                    rintro e' z233 ⟨rfl, hb⟩
                    have HZ234 := Lib.hid (show Blk z233 y2.heap.size 24 (pmC p.o p.e (Value.slice ra rl rc) (Value.slice qa ql qc) (Value.slice ga gl gc)) ∧ PmS z233 p (Value.slice ra rl rc) (Value.slice qa ql qc) (Value.slice ga gl gc) ∧ Below w.heap.size w z233 ∧ Blk z233 wo.heap.size 35 (act3C act) ∧ Blk z233 y17.heap.size 24 (pmC q.o q.e (Value.slice x16a0 x16l0 x16c0) (Value.slice x16a1 x16l1 x16c1) (Value.slice x16a2 x16l2 x16c2)) ∧ PmS z233 q (Value.slice x16a0 x16l0 x16c0) (Value.slice x16a1 x16l1 x16c1) (Value.slice x16a2 x16l2 x16c2) from ⟨HZ232.out.1.below hb HZ232.out.1.lt, HZ232.out.2.1.below hb, below_thn HZ232.out.2.2.1 hb (Nat.le_refl _), HZ232.out.2.2.2.1.below hb HZ232.out.2.2.2.1.lt, HZ232.out.2.2.2.2.1.below hb HZ232.out.2.2.2.2.1.lt, HZ232.out.2.2.2.2.2.below hb⟩)
                    clear hb
                    go_wp2_with fail
                    go_round
                    case rel => exact ⟨n + 1, by omega, by omega, by go_num, HZ234⟩
                    case measure => simp [intOf]; omega
      · as_aux_lemma =>
        subst h2
        have HKZ := Lib.hid (show (kindF act.k == 2) = false ∧ (kindF act.k == 4) = false from by rw [HKE.out]; exact ⟨rfl, rfl⟩)
        have q1 : (q.e != p.e) = true := by rw [hee]; simp; omega
        have q2 : (q.e != p.e + 1) = false := by rw [hee]; simp
        have q3 : p.e < q.e := by omega
        clear hee
        go_wp2_with (first
    | ((with_reducible refine wpList_alloc_blk y17 rfl 24 rfl (pmC 0 0 (.slice none 0 0) (.slice none 0 0) (.slice none 0 0)) Try.zeroPm ?_); intro a235 hb hbel hsz; have HA237 := Lib.hid (And.intro hb hbel); clear hb hbel hsz)
    | ((with_reducible refine wpList_store_blk a235 rfl 24 (.tmp 11) (.tmp 43) rfl y17.heap.size 24 (pmC 0 0 (.slice none 0 0) (.slice none 0 0) (.slice none 0 0)) (pmC q.o q.e (Value.slice x16a0 x16l0 x16c0) (Value.slice x16a1 x16l1 x16c1) (Value.slice x16a2 x16l2 x16c2)) HA237.out.1 rfl rfl rfl (pmC_info _ _ _ _ _) (pmC_one _ _ _ _ _ _ _ _ _ _ _) ?_); intro a236 hb hc hs; have hbw : Below y17.heap.size y17 a236 := below_ch HA237.out.2 hc (Nat.le_refl _) (fun k hk => by have e : k = y17.heap.size := hk; omega); have HA238 := Lib.hid (show Blk a236 y2.heap.size 24 (pmC p.o p.e (Value.slice ra rl rc) (Value.slice qa ql qc) (Value.slice ga gl gc)) ∧ PmS a236 p (Value.slice ra rl rc) (Value.slice qa ql qc) (Value.slice ga gl gc) ∧ Below w.heap.size w a236 ∧ Blk a236 wo.heap.size 35 (act3C act) ∧ y2.heap.size < wo.heap.size ∧ PmS a236 q (Value.slice x16a0 x16l0 x16c0) (Value.slice x16a1 x16l1 x16c1) (Value.slice x16a2 x16l2 x16c2) ∧ AbvS a13.heap.size (Value.slice x16a0 x16l0 x16c0) (Value.slice x16a1 x16l1 x16c1) (Value.slice x16a2 x16l2 x16c2) ∧ Blk a236 y17.heap.size 24 (pmC q.o q.e (Value.slice x16a0 x16l0 x16c0) (Value.slice x16a1 x16l1 x16c1) (Value.slice x16a2 x16l2 x16c2)) from ⟨HY18.out.1.below hbw HY18.out.1.lt, HY18.out.2.1.below hbw, below_thn HY18.out.2.2.1 hbw (Nat.le_refl _), HY18.out.2.2.2.1.below hbw HY18.out.2.2.2.1.lt, HY18.out.2.2.2.2.1, HY18.out.2.2.2.2.2.1.below hbw, HY18.out.2.2.2.2.2.2, hb⟩); clear hb hc hs hbw)
    | (with_reducible refine wpList_load_any rfl 35 (.tmp 10) rfl wo.heap.size 0 rfl (act3C act) _ (rangeW_blk HA238.out.2.2.2.1) Try.underlying35 rfl (act3C_info _) ?_))
        refine (HKC.out a236).mono ?_
        rintro e' y239 ⟨rfl, hb⟩
        have HY240 := Lib.hid (show Blk y239 y2.heap.size 24 (pmC p.o p.e (Value.slice ra rl rc) (Value.slice qa ql qc) (Value.slice ga gl gc)) ∧ PmS y239 p (Value.slice ra rl rc) (Value.slice qa ql qc) (Value.slice ga gl gc) ∧ Below w.heap.size w y239 ∧ Blk y239 wo.heap.size 35 (act3C act) ∧ y2.heap.size < wo.heap.size ∧ PmS y239 q (Value.slice x16a0 x16l0 x16c0) (Value.slice x16a1 x16l1 x16c1) (Value.slice x16a2 x16l2 x16c2) ∧ AbvS a13.heap.size (Value.slice x16a0 x16l0 x16c0) (Value.slice x16a1 x16l1 x16c1) (Value.slice x16a2 x16l2 x16c2) ∧ Blk y239 y17.heap.size 24 (pmC q.o q.e (Value.slice x16a0 x16l0 x16c0) (Value.slice x16a1 x16l1 x16c1) (Value.slice x16a2 x16l2 x16c2)) from ⟨HA238.out.1.below hb HA238.out.1.lt, HA238.out.2.1.below hb, below_thn HA238.out.2.2.1 hb (Nat.le_refl _), HA238.out.2.2.2.1.below hb HA238.out.2.2.2.1.lt, HA238.out.2.2.2.2.1, HA238.out.2.2.2.2.2.1.below hb, HA238.out.2.2.2.2.2.2.1, HA238.out.2.2.2.2.2.2.2.below hb HA238.out.2.2.2.2.2.2.2.lt⟩)
        clear hb
        go_wp2_with (first
    | (with_reducible refine wpList_load_any rfl 35 (.tmp 10) rfl wo.heap.size 0 rfl (act3C act) _ (rangeW_blk HY240.out.2.2.2.1) Try.underlying35 rfl (act3C_info _) ?_)
    | ((with_reducible refine wpList_load_want ?_ 35 (.tmp 10) rfl wo.heap.size 0 rfl (act3C act) _ (rangeW_blk HY240.out.2.2.2.1) Try.underlying35 rfl (act3C_info _) ?_); focus rfl))
        refine (HKC.out y239).mono ?_
        rintro e' y241 ⟨rfl, hb⟩
        have HY242 := Lib.hid (show Blk y241 y2.heap.size 24 (pmC p.o p.e (Value.slice ra rl rc) (Value.slice qa ql qc) (Value.slice ga gl gc)) ∧ PmS y241 p (Value.slice ra rl rc) (Value.slice qa ql qc) (Value.slice ga gl gc) ∧ Below w.heap.size w y241 ∧ Blk y241 wo.heap.size 35 (act3C act) ∧ y2.heap.size < wo.heap.size ∧ PmS y241 q (Value.slice x16a0 x16l0 x16c0) (Value.slice x16a1 x16l1 x16c1) (Value.slice x16a2 x16l2 x16c2) ∧ AbvS a13.heap.size (Value.slice x16a0 x16l0 x16c0) (Value.slice x16a1 x16l1 x16c1) (Value.slice x16a2 x16l2 x16c2) ∧ Blk y241 y17.heap.size 24 (pmC q.o q.e (Value.slice x16a0 x16l0 x16c0) (Value.slice x16a1 x16l1 x16c1) (Value.slice x16a2 x16l2 x16c2)) from ⟨HY240.out.1.below hb HY240.out.1.lt, HY240.out.2.1.below hb, below_thn HY240.out.2.2.1 hb (Nat.le_refl _), HY240.out.2.2.2.1.below hb HY240.out.2.2.2.1.lt, HY240.out.2.2.2.2.1, HY240.out.2.2.2.2.2.1.below hb, HY240.out.2.2.2.2.2.2.1, HY240.out.2.2.2.2.2.2.2.below hb HY240.out.2.2.2.2.2.2.2.lt⟩)
        clear hb
        go_wp2_with fail
        have C1 := Lib.hid (fun x => show Calls Try.prog 10 #[.agg (pmC q.o q.e (Value.slice x16a0 x16l0 x16c0) (Value.slice x16a1 x16l1 x16c1) (Value.slice x16a2 x16l2 x16c2)).toArray] (grew y241 x) (fun e w' => e = .returned (.int .i64 0) ∧ Below (grew y241 x).heap.size (grew y241 x) w') from check_of q true HOKQ.out _ _ _ (grew y241 x) (HY242.out.2.2.2.2.2.1.below (below_grew y241 x)))
        have C2 := Lib.hid (fun x => HKC.out (grew y241 x))
        have cp0 := HY242.out.1.cell 0
        have cp1 := HY242.out.1.cell 1
        have cq0 := HY242.out.2.2.2.2.2.2.2.cell 0
        have cq1 := HY242.out.2.2.2.2.2.2.2.cell 1
        simp only [pmC, List.getElem?_cons_zero, List.getElem?_cons_succ] at cp0 cp1 cq0 cq1
        replace cp0 := fun q => cell_grew cp0 q
        replace cp1 := fun q => cell_grew cp1 q
        replace cq0 := fun q => cell_grew cq0 q
        replace cq1 := fun q => cell_grew cq1 q
        refine wp_region_grew (by kernel_rfl) (by kernel_rfl) ?_
        repeat (first | go_big_quiet_skip | (go_big_quiet_want; (first | (refine quiet_load_mid 24 (.tmp 11) rfl y17.heap.size 0 rfl (pmC q.o q.e (Value.slice x16a0 x16l0 x16c0) (Value.slice x16a1 x16l1 x16c1) (Value.slice x16a2 x16l2 x16c2)) _ (fun w' hw' => rangeAt_grew (rangeAt_blk HY242.out.2.2.2.2.2.2.2) w' hw') Try.underlying24 rfl (pmC_info _ _ _ _ _) ?_; go_simp; go_big_quiet_on) | (refine quiet_load_mid 35 (.tmp 10) rfl wo.heap.size 0 rfl (act3C act) _ (fun w' hw' => rangeAt_grew (rangeAt_blk HY242.out.2.2.2.1) w' hw') Try.underlying35 rfl (act3C_info _) ?_; go_simp; go_big_quiet_on) | (go_big_quiet_op; (first | go_big_quiet_on | (apply Exists.intro; refine ⟨fun _ => ?_, ?_⟩; (focus (first | (go_at_call 10; with_reducible exact calls_grew (C1.out _)) | (go_at_call 16; with_reducible exact calls_grew (C2.out _)))); go_big_quiet_on))))))
        refine wpQuiet_nil ?_
        intro y50 hw50
        obtain ⟨x50, rfl⟩ := hw50
        have H50 := Lib.hid (show Blk (grew y241 x50) y2.heap.size 24 (pmC p.o p.e (Value.slice ra rl rc) (Value.slice qa ql qc) (Value.slice ga gl gc)) ∧ PmS (grew y241 x50) p (Value.slice ra rl rc) (Value.slice qa ql qc) (Value.slice ga gl gc) ∧ Below w.heap.size w (grew y241 x50) ∧ Blk (grew y241 x50) wo.heap.size 35 (act3C act) ∧ Blk (grew y241 x50) y17.heap.size 24 (pmC q.o q.e (Value.slice x16a0 x16l0 x16c0) (Value.slice x16a1 x16l1 x16c1) (Value.slice x16a2 x16l2 x16c2)) ∧ PmS (grew y241 x50) q (Value.slice x16a0 x16l0 x16c0) (Value.slice x16a1 x16l1 x16c1) (Value.slice x16a2 x16l2 x16c2) from ⟨HY242.out.1.below (below_grew y241 x50) HY242.out.1.lt, HY242.out.2.1.below (below_grew y241 x50), below_thn HY242.out.2.2.1 (below_grew y241 x50) (Nat.le_refl _), HY242.out.2.2.2.1.below (below_grew y241 x50) HY242.out.2.2.2.1.lt, HY242.out.2.2.2.2.2.2.2.below (below_grew y241 x50) HY242.out.2.2.2.2.2.2.2.lt, HY242.out.2.2.2.2.2.1.below (below_grew y241 x50)⟩)
        clear cp0 cp1 cq0 cq1 C1 C2
        go_wp2_with fail
        clear q1 q3 hw eo q2
        go_loopw [14] (fun c wr => ∃ n : Nat, 1 ≤ n ∧ n ≤ 7 ∧ c = .int .i64 n ∧ Hid (Blk wr y2.heap.size 24 (pmC p.o p.e (Value.slice ra rl rc) (Value.slice qa ql qc) (Value.slice ga gl gc)) ∧ PmS wr p (Value.slice ra rl rc) (Value.slice qa ql qc) (Value.slice ga gl gc) ∧ Below w.heap.size w wr ∧ Blk wr wo.heap.size 35 (act3C act) ∧ Blk wr y17.heap.size 24 (pmC q.o q.e (Value.slice x16a0 x16l0 x16c0) (Value.slice x16a1 x16l1 x16c1) (Value.slice x16a2 x16l2 x16c2)) ∧ PmS wr q (Value.slice x16a0 x16l0 x16c0) (Value.slice x16a1 x16l1 x16c1) (Value.slice x16a2 x16l2 x16c2))) (fun c _ => 7 - (intOf c).toNat)
        case atStart => exact ⟨1, by omega, by omega, rfl, H50⟩
        case round =>
          clear H50
          obtain ⟨n, hn1, hn7, rfl, HZ⟩ := hrel
          by_cases hn6 : n ≤ 6
          rotate_left
          · have hnz : ¬ (n : Int) ≤ 6 := by omega
            go_wp2_with (first
    | (with_reducible refine wpList_load_any rfl 24 (.tmp 11) rfl y17.heap.size 0 rfl (pmC q.o q.e (Value.slice x16a0 x16l0 x16c0) (Value.slice x16a1 x16l1 x16c1) (Value.slice x16a2 x16l2 x16c2)) _ (rangeW_blk HZ.out.2.2.2.2.1) Try.underlying24 rfl (pmC_info _ _ _ _ _) ?_)
    | ((with_reducible refine wpList_store_blk wr rfl 24 (.tmp 7) (.tmp 184) rfl y2.heap.size 24 (pmC p.o p.e (Value.slice ra rl rc) (Value.slice qa ql qc) (Value.slice ga gl gc)) (pmC q.o q.e (Value.slice x16a0 x16l0 x16c0) (Value.slice x16a1 x16l1 x16c1) (Value.slice x16a2 x16l2 x16c2)) HZ.out.1 rfl rfl rfl (pmC_info _ _ _ _ _) (pmC_one _ _ _ _ _ _ _ _ _ _ _) ?_); intro z99 hb hc hs; have H99 := Lib.hid (show Blk z99 y2.heap.size 24 (pmC q.o q.e (Value.slice x16a0 x16l0 x16c0) (Value.slice x16a1 x16l1 x16c1) (Value.slice x16a2 x16l2 x16c2)) ∧ PmS z99 q (Value.slice x16a0 x16l0 x16c0) (Value.slice x16a1 x16l1 x16c1) (Value.slice x16a2 x16l2 x16c2) ∧ Below w.heap.size w z99 from ⟨hb, HZ.out.2.2.2.2.2.ch hc HOFQ.out, below_ch HZ.out.2.2.1 hc (Nat.le_refl _) (fun k hk => by have e : k = y2.heap.size := hk; have := HOF.out; omega)⟩); clear hb hc hs))
            go_round
            case rel => exact ⟨k + 1, by omega, by omega, by go_num, Lib.hid ⟨q, _, _, _, _, _, _, _, _, _, HG.out.ok, HQN.out, H99.out.1, H99.out.2.1, H99.out.2.2⟩⟩
            case measure => simp [intOf]; omega
          have hnz : (n : Int) ≤ 6 := by omega
          obtain ⟨a, ha⟩ : ∃ b, mayRB p (n : Int) m = b := ⟨_, rfl⟩
          obtain ⟨b, hb⟩ : ∃ b, mayRB q (n : Int) m = b := ⟨_, rfl⟩
          obtain ⟨c, hc⟩ : ∃ b, mayWB p (n : Int) = b := ⟨_, rfl⟩
          obtain ⟨d, hd⟩ : ∃ b, mayWB q (n : Int) = b := ⟨_, rfl⟩
          obtain ⟨f, hf⟩ : ∃ b, mayRB q (n : Int) [] = b := ⟨_, rfl⟩
          obtain ⟨nw, hnw⟩ : ∃ b, ((n : Int) != act.n) = b := ⟨_, rfl⟩
          have HLW := Lib.hid (goes_b HG.out (n : Int) ha hb hc hd hf HKZ.out.1 HKZ.out.2 hnw)
          have HA := Lib.hid ha
          have HB := Lib.hid hb
          have HC := Lib.hid hc
          have HD := Lib.hid hd
          have HF := Lib.hid hf
          clear ha hb hc hd hf
          have ca := HZ.out.2.2.2.1.cell 2
          simp only [act3C, List.getElem?_cons_zero, List.getElem?_cons_succ] at ca
          go_wp2_with (with_reducible refine wpList_load_any rfl 24 (.tmp 11) rfl y17.heap.size 0 rfl (pmC q.o q.e (Value.slice x16a0 x16l0 x16c0) (Value.slice x16a1 x16l1 x16c1) (Value.slice x16a2 x16l2 x16c2)) _ (rangeW_blk HZ.out.2.2.2.2.1) Try.underlying24 rfl (pmC_info _ _ _ _ _) ?_)
          clear ca
          have h1 := mayWrite_any q (n : Int) _ _ _ wr HZ.out.2.2.2.2.2
          rw [HD.out] at h1
          refine Calls.mono h1 ?_
          clear h1
          rintro e' z243 ⟨rfl, hb⟩
          have HZ244 := Lib.hid (show Blk z243 y2.heap.size 24 (pmC p.o p.e (Value.slice ra rl rc) (Value.slice qa ql qc) (Value.slice ga gl gc)) ∧ PmS z243 p (Value.slice ra rl rc) (Value.slice qa ql qc) (Value.slice ga gl gc) ∧ Below w.heap.size w z243 ∧ Blk z243 wo.heap.size 35 (act3C act) ∧ Blk z243 y17.heap.size 24 (pmC q.o q.e (Value.slice x16a0 x16l0 x16c0) (Value.slice x16a1 x16l1 x16c1) (Value.slice x16a2 x16l2 x16c2)) ∧ PmS z243 q (Value.slice x16a0 x16l0 x16c0) (Value.slice x16a1 x16l1 x16c1) (Value.slice x16a2 x16l2 x16c2) from ⟨HZ.out.1.below hb HZ.out.1.lt, HZ.out.2.1.below hb, below_thn HZ.out.2.2.1 hb (Nat.le_refl _), HZ.out.2.2.2.1.below hb HZ.out.2.2.2.1.lt, HZ.out.2.2.2.2.1.below hb HZ.out.2.2.2.2.1.lt, HZ.out.2.2.2.2.2.below hb⟩)
          clear hb
          cases d
          · skip
            have ca := HZ244.out.2.2.2.1.cell 2
            simp only [act3C, List.getElem?_cons_zero, List.getElem?_cons_succ] at ca
            go_wp2_with (with_reducible refine wpList_load_any rfl 24 (.tmp 7) rfl y2.heap.size 0 rfl (pmC p.o p.e (Value.slice ra rl rc) (Value.slice qa ql qc) (Value.slice ga gl gc)) _ (rangeW_blk HZ244.out.1) Try.underlying24 rfl (pmC_info _ _ _ _ _) ?_)
            clear ca
            have h1 := mayRead_any p (n : Int) m _ _ _ _ z243 HZ244.out.2.1 (HSM.out.below HZ244.out.2.2.1)
            rw [HA.out] at h1
            refine Calls.mono h1 ?_
            clear h1
            rintro e' z245 ⟨rfl, hb⟩
            have HZ246 := Lib.hid (show Blk z245 y2.heap.size 24 (pmC p.o p.e (Value.slice ra rl rc) (Value.slice qa ql qc) (Value.slice ga gl gc)) ∧ PmS z245 p (Value.slice ra rl rc) (Value.slice qa ql qc) (Value.slice ga gl gc) ∧ Below w.heap.size w z245 ∧ Blk z245 wo.heap.size 35 (act3C act) ∧ Blk z245 y17.heap.size 24 (pmC q.o q.e (Value.slice x16a0 x16l0 x16c0) (Value.slice x16a1 x16l1 x16c1) (Value.slice x16a2 x16l2 x16c2)) ∧ PmS z245 q (Value.slice x16a0 x16l0 x16c0) (Value.slice x16a1 x16l1 x16c1) (Value.slice x16a2 x16l2 x16c2) from ⟨HZ244.out.1.below hb HZ244.out.1.lt, HZ244.out.2.1.below hb, below_thn HZ244.out.2.2.1 hb (Nat.le_refl _), HZ244.out.2.2.2.1.below hb HZ244.out.2.2.2.1.lt, HZ244.out.2.2.2.2.1.below hb HZ244.out.2.2.2.2.1.lt, HZ244.out.2.2.2.2.2.below hb⟩)
            clear hb
            cases a
            · skip
              have ca := HZ246.out.2.2.2.1.cell 2
              simp only [act3C, List.getElem?_cons_zero, List.getElem?_cons_succ] at ca
              go_wp2_with ((with_reducible refine wpList_load_want ?_ 24 (.tmp 7) rfl y2.heap.size 0 rfl (pmC p.o p.e (Value.slice ra rl rc) (Value.slice qa ql qc) (Value.slice ga gl gc)) _ (rangeW_blk HZ246.out.1) Try.underlying24 rfl (pmC_info _ _ _ _ _) ?_); focus rfl)
              clear ca
              have h1 := mayWrite_any p (n : Int) _ _ _ z245 HZ246.out.2.1
              rw [HC.out] at h1
              refine Calls.mono h1 ?_
              clear h1
              rintro e' z247 ⟨rfl, hb⟩
              have HZ248 := Lib.hid (show Blk z247 y2.heap.size 24 (pmC p.o p.e (Value.slice ra rl rc) (Value.slice qa ql qc) (Value.slice ga gl gc)) ∧ PmS z247 p (Value.slice ra rl rc) (Value.slice qa ql qc) (Value.slice ga gl gc) ∧ Below w.heap.size w z247 ∧ Blk z247 wo.heap.size 35 (act3C act) ∧ Blk z247 y17.heap.size 24 (pmC q.o q.e (Value.slice x16a0 x16l0 x16c0) (Value.slice x16a1 x16l1 x16c1) (Value.slice x16a2 x16l2 x16c2)) ∧ PmS z247 q (Value.slice x16a0 x16l0 x16c0) (Value.slice x16a1 x16l1 x16c1) (Value.slice x16a2 x16l2 x16c2) from ⟨HZ246.out.1.below hb HZ246.out.1.lt, HZ246.out.2.1.below hb, below_thn HZ246.out.2.2.1 hb (Nat.le_refl _), HZ246.out.2.2.2.1.below hb HZ246.out.2.2.2.1.lt, HZ246.out.2.2.2.2.1.below hb HZ246.out.2.2.2.2.1.lt, HZ246.out.2.2.2.2.2.below hb⟩)
              clear hb
              cases c
              · skip
                go_wp2_with fail
                go_round
                case rel => exact ⟨n + 1, by omega, by omega, by go_num, HZ248⟩
                case measure => simp [intOf]; omega
              · skip
                exfalso
                have h := HLW.out
                simp at h
            · skip
              have ca := HZ246.out.2.2.2.1.cell 2
              simp only [act3C, List.getElem?_cons_zero, List.getElem?_cons_succ] at ca
              go_wp2_with ((with_reducible refine wpList_load_want ?_ 24 (.tmp 11) rfl y17.heap.size 0 rfl (pmC q.o q.e (Value.slice x16a0 x16l0 x16c0) (Value.slice x16a1 x16l1 x16c1) (Value.slice x16a2 x16l2 x16c2)) _ (rangeW_blk HZ246.out.2.2.2.2.1) Try.underlying24 rfl (pmC_info _ _ _ _ _) ?_); focus rfl)
              clear ca
              have h1 := mayRead_any q (n : Int) m _ _ _ _ z245 HZ246.out.2.2.2.2.2 (HSM.out.below HZ246.out.2.2.1)
              rw [HB.out] at h1
              refine Calls.mono h1 ?_
              clear h1
              rintro e' z249 ⟨rfl, hb⟩
              have HZ250 := Lib.hid (show Blk z249 y2.heap.size 24 (pmC p.o p.e (Value.slice ra rl rc) (Value.slice qa ql qc) (Value.slice ga gl gc)) ∧ PmS z249 p (Value.slice ra rl rc) (Value.slice qa ql qc) (Value.slice ga gl gc) ∧ Below w.heap.size w z249 ∧ Blk z249 wo.heap.size 35 (act3C act) ∧ Blk z249 y17.heap.size 24 (pmC q.o q.e (Value.slice x16a0 x16l0 x16c0) (Value.slice x16a1 x16l1 x16c1) (Value.slice x16a2 x16l2 x16c2)) ∧ PmS z249 q (Value.slice x16a0 x16l0 x16c0) (Value.slice x16a1 x16l1 x16c1) (Value.slice x16a2 x16l2 x16c2) from ⟨HZ246.out.1.below hb HZ246.out.1.lt, HZ246.out.2.1.below hb, below_thn HZ246.out.2.2.1 hb (Nat.le_refl _), HZ246.out.2.2.2.1.below hb HZ246.out.2.2.2.1.lt, HZ246.out.2.2.2.2.1.below hb HZ246.out.2.2.2.2.1.lt, HZ246.out.2.2.2.2.2.below hb⟩)
              clear hb
              cases b
              · skip
                exfalso
                have h := HLW.out
                simp at h
              · skip
                have ca := HZ250.out.2.2.2.1.cell 2
                simp only [act3C, List.getElem?_cons_zero, List.getElem?_cons_succ] at ca
                go_wp2_with ((with_reducible refine wpList_load_want ?_ 24 (.tmp 7) rfl y2.heap.size 0 rfl (pmC p.o p.e (Value.slice ra rl rc) (Value.slice qa ql qc) (Value.slice ga gl gc)) _ (rangeW_blk HZ250.out.1) Try.underlying24 rfl (pmC_info _ _ _ _ _) ?_); focus rfl)
                clear ca
                have h1 := mayWrite_any p (n : Int) _ _ _ z249 HZ250.out.2.1
                rw [HC.out] at h1
                refine Calls.mono h1 ?_
                clear h1
                rintro e' z251 ⟨rfl, hb⟩
                have HZ252 := Lib.hid (show Blk z251 y2.heap.size 24 (pmC p.o p.e (Value.slice ra rl rc) (Value.slice qa ql qc) (Value.slice ga gl gc)) ∧ PmS z251 p (Value.slice ra rl rc) (Value.slice qa ql qc) (Value.slice ga gl gc) ∧ Below w.heap.size w z251 ∧ Blk z251 wo.heap.size 35 (act3C act) ∧ Blk z251 y17.heap.size 24 (pmC q.o q.e (Value.slice x16a0 x16l0 x16c0) (Value.slice x16a1 x16l1 x16c1) (Value.slice x16a2 x16l2 x16c2)) ∧ PmS z251 q (Value.slice x16a0 x16l0 x16c0) (Value.slice x16a1 x16l1 x16c1) (Value.slice x16a2 x16l2 x16c2) from ⟨HZ250.out.1.below hb HZ250.out.1.lt, HZ250.out.2.1.below hb, below_thn HZ250.out.2.2.1 hb (Nat.le_refl _), HZ250.out.2.2.2.1.below hb HZ250.out.2.2.2.1.lt, HZ250.out.2.2.2.2.1.below hb HZ250.out.2.2.2.2.1.lt, HZ250.out.2.2.2.2.2.below hb⟩)
                clear hb
                cases c
                · skip
                  go_wp2_with fail
                  go_round
                  case rel => exact ⟨n + 1, by omega, by omega, by go_num, HZ252⟩
                  case measure => simp [intOf]; omega
                · skip
                  exfalso
                  have h := HLW.out
                  simp at h
          · skip
            have ca := HZ244.out.2.2.2.1.cell 2
            simp only [act3C, List.getElem?_cons_zero, List.getElem?_cons_succ] at ca
            go_wp2_with ((with_reducible refine wpList_load_want ?_ 24 (.tmp 11) rfl y17.heap.size 0 rfl (pmC q.o q.e (Value.slice x16a0 x16l0 x16c0) (Value.slice x16a1 x16l1 x16c1) (Value.slice x16a2 x16l2 x16c2)) _ (rangeW_blk HZ244.out.2.2.2.2.1) Try.underlying24 rfl (pmC_info _ _ _ _ _) ?_); focus rfl)
            clear ca
            have h1 := mayRead_any q (n : Int) [] _ _ _ _ z243 HZ244.out.2.2.2.2.2 (SlP.nil_ _ _ _)
            rw [HF.out] at h1
            refine Calls.mono h1 ?_
            clear h1
            rintro e' z253 ⟨rfl, hb⟩
            have HZ254 := Lib.hid (show Blk z253 y2.heap.size 24 (pmC p.o p.e (Value.slice ra rl rc) (Value.slice qa ql qc) (Value.slice ga gl gc)) ∧ PmS z253 p (Value.slice ra rl rc) (Value.slice qa ql qc) (Value.slice ga gl gc) ∧ Below w.heap.size w z253 ∧ Blk z253 wo.heap.size 35 (act3C act) ∧ Blk z253 y17.heap.size 24 (pmC q.o q.e (Value.slice x16a0 x16l0 x16c0) (Value.slice x16a1 x16l1 x16c1) (Value.slice x16a2 x16l2 x16c2)) ∧ PmS z253 q (Value.slice x16a0 x16l0 x16c0) (Value.slice x16a1 x16l1 x16c1) (Value.slice x16a2 x16l2 x16c2) from ⟨HZ244.out.1.below hb HZ244.out.1.lt, HZ244.out.2.1.below hb, below_thn HZ244.out.2.2.1 hb (Nat.le_refl _), HZ244.out.2.2.2.1.below hb HZ244.out.2.2.2.1.lt, HZ244.out.2.2.2.2.1.below hb HZ244.out.2.2.2.2.1.lt, HZ244.out.2.2.2.2.2.below hb⟩)
            clear hb
            cases f
            · skip
              exfalso
              have h := HLW.out
              simp at h
            · skip
              have ca := HZ254.out.2.2.2.1.cell 2
              simp only [act3C, List.getElem?_cons_zero, List.getElem?_cons_succ] at ca
              go_wp2_with (with_reducible refine wpList_load_any rfl 24 (.tmp 7) rfl y2.heap.size 0 rfl (pmC p.o p.e (Value.slice ra rl rc) (Value.slice qa ql qc) (Value.slice ga gl gc)) _ (rangeW_blk HZ254.out.1) Try.underlying24 rfl (pmC_info _ _ _ _ _) ?_)
              clear ca
              have h1 := mayRead_any p (n : Int) m _ _ _ _ z253 HZ254.out.2.1 (HSM.out.below HZ254.out.2.2.1)
              rw [HA.out] at h1
              refine Calls.mono h1 ?_
              clear h1
              rintro e' z255 ⟨rfl, hb⟩
              have HZ256 := Lib.hid (show Blk z255 y2.heap.size 24 (pmC p.o p.e (Value.slice ra rl rc) (Value.slice qa ql qc) (Value.slice ga gl gc)) ∧ PmS z255 p (Value.slice ra rl rc) (Value.slice qa ql qc) (Value.slice ga gl gc) ∧ Below w.heap.size w z255 ∧ Blk z255 wo.heap.size 35 (act3C act) ∧ Blk z255 y17.heap.size 24 (pmC q.o q.e (Value.slice x16a0 x16l0 x16c0) (Value.slice x16a1 x16l1 x16c1) (Value.slice x16a2 x16l2 x16c2)) ∧ PmS z255 q (Value.slice x16a0 x16l0 x16c0) (Value.slice x16a1 x16l1 x16c1) (Value.slice x16a2 x16l2 x16c2) from ⟨HZ254.out.1.below hb HZ254.out.1.lt, HZ254.out.2.1.below hb, below_thn HZ254.out.2.2.1 hb (Nat.le_refl _), HZ254.out.2.2.2.1.below hb HZ254.out.2.2.2.1.lt, HZ254.out.2.2.2.2.1.below hb HZ254.out.2.2.2.2.1.lt, HZ254.out.2.2.2.2.2.below hb⟩)
              clear hb
              cases a
              · skip
                have ca := HZ256.out.2.2.2.1.cell 2
                simp only [act3C, List.getElem?_cons_zero, List.getElem?_cons_succ] at ca
                go_wp2_with ((with_reducible refine wpList_load_want ?_ 24 (.tmp 7) rfl y2.heap.size 0 rfl (pmC p.o p.e (Value.slice ra rl rc) (Value.slice qa ql qc) (Value.slice ga gl gc)) _ (rangeW_blk HZ256.out.1) Try.underlying24 rfl (pmC_info _ _ _ _ _) ?_); focus rfl)
                clear ca
                have h1 := mayWrite_any p (n : Int) _ _ _ z255 HZ256.out.2.1
                rw [HC.out] at h1
                refine Calls.mono h1 ?_
                clear h1
                rintro e' z257 ⟨rfl, hb⟩
                have HZ258 := Lib.hid (show Blk z257 y2.heap.size 24 (pmC p.o p.e (Value.slice ra rl rc) (Value.slice qa ql qc) (Value.slice ga gl gc)) ∧ PmS z257 p (Value.slice ra rl rc) (Value.slice qa ql qc) (Value.slice ga gl gc) ∧ Below w.heap.size w z257 ∧ Blk z257 wo.heap.size 35 (act3C act) ∧ Blk z257 y17.heap.size 24 (pmC q.o q.e (Value.slice x16a0 x16l0 x16c0) (Value.slice x16a1 x16l1 x16c1) (Value.slice x16a2 x16l2 x16c2)) ∧ PmS z257 q (Value.slice x16a0 x16l0 x16c0) (Value.slice x16a1 x16l1 x16c1) (Value.slice x16a2 x16l2 x16c2) from ⟨HZ256.out.1.below hb HZ256.out.1.lt, HZ256.out.2.1.below hb, below_thn HZ256.out.2.2.1 hb (Nat.le_refl _), HZ256.out.2.2.2.1.below hb HZ256.out.2.2.2.1.lt, HZ256.out.2.2.2.2.1.below hb HZ256.out.2.2.2.2.1.lt, HZ256.out.2.2.2.2.2.below hb⟩)
                clear hb
                cases c
                · skip
                  go_wp2_with fail
                  go_round
                  case rel => exact ⟨n + 1, by omega, by omega, by go_num, HZ258⟩
                  case measure => simp [intOf]; omega
                · skip
                  have ca := HZ258.out.2.2.2.1.cell 2
                  simp only [act3C, List.getElem?_cons_zero, List.getElem?_cons_succ] at ca
                  go_wp2_with ((with_reducible refine wpList_load_want ?_ 24 (.tmp 11) rfl y17.heap.size 0 rfl (pmC q.o q.e (Value.slice x16a0 x16l0 x16c0) (Value.slice x16a1 x16l1 x16c1) (Value.slice x16a2 x16l2 x16c2)) _ (rangeW_blk HZ258.out.2.2.2.2.1) Try.underlying24 rfl (pmC_info _ _ _ _ _) ?_); focus rfl)
                  clear ca
                  have h1 := mayWrite_any q (n : Int) _ _ _ z257 HZ258.out.2.2.2.2.2
                  rw [HD.out] at h1
                  refine Calls.mono h1 ?_
                  clear h1
                  rintro e' z259 ⟨rfl, hb⟩
                  have HZ260 := Lib.hid (show Blk z259 y2.heap.size 24 (pmC p.o p.e (Value.slice ra rl rc) (Value.slice qa ql qc) (Value.slice ga gl gc)) ∧ PmS z259 p (Value.slice ra rl rc) (Value.slice qa ql qc) (Value.slice ga gl gc) ∧ Below w.heap.size w z259 ∧ Blk z259 wo.heap.size 35 (act3C act) ∧ Blk z259 y17.heap.size 24 (pmC q.o q.e (Value.slice x16a0 x16l0 x16c0) (Value.slice x16a1 x16l1 x16c1) (Value.slice x16a2 x16l2 x16c2)) ∧ PmS z259 q (Value.slice x16a0 x16l0 x16c0) (Value.slice x16a1 x16l1 x16c1) (Value.slice x16a2 x16l2 x16c2) from ⟨HZ258.out.1.below hb HZ258.out.1.lt, HZ258.out.2.1.below hb, below_thn HZ258.out.2.2.1 hb (Nat.le_refl _), HZ258.out.2.2.2.1.below hb HZ258.out.2.2.2.1.lt, HZ258.out.2.2.2.2.1.below hb HZ258.out.2.2.2.2.1.lt, HZ258.out.2.2.2.2.2.below hb⟩)
                  clear hb
                  go_wp2_with fail
                  go_round
                  case rel => exact ⟨n + 1, by omega, by omega, by go_num, HZ260⟩
                  case measure => simp [intOf]; omega
              · skip
                have ca := HZ256.out.2.2.2.1.cell 2
                simp only [act3C, List.getElem?_cons_zero, List.getElem?_cons_succ] at ca
                go_wp2_with ((with_reducible refine wpList_load_want ?_ 24 (.tmp 11) rfl y17.heap.size 0 rfl (pmC q.o q.e (Value.slice x16a0 x16l0 x16c0) (Value.slice x16a1 x16l1 x16c1) (Value.slice x16a2 x16l2 x16c2)) _ (rangeW_blk HZ256.out.2.2.2.2.1) Try.underlying24 rfl (pmC_info _ _ _ _ _) ?_); focus rfl)
                clear ca
                have h1 := mayRead_any q (n : Int) m _ _ _ _ z255 HZ256.out.2.2.2.2.2 (HSM.out.below HZ256.out.2.2.1)
                rw [HB.out] at h1
                refine Calls.mono h1 ?_
                clear h1
                rintro e' z261 ⟨rfl, hb⟩
                have HZ262 := Lib.hid (show Blk z261 y2.heap.size 24 (pmC p.o p.e (Value.slice ra rl rc) (Value.slice qa ql qc) (Value.slice ga gl gc)) ∧ PmS z261 p (Value.slice ra rl rc) (Value.slice qa ql qc) (Value.slice ga gl gc) ∧ Below w.heap.size w z261 ∧ Blk z261 wo.heap.size 35 (act3C act) ∧ Blk z261 y17.heap.size 24 (pmC q.o q.e (Value.slice x16a0 x16l0 x16c0) (Value.slice x16a1 x16l1 x16c1) (Value.slice x16a2 x16l2 x16c2)) ∧ PmS z261 q (Value.slice x16a0 x16l0 x16c0) (Value.slice x16a1 x16l1 x16c1) (Value.slice x16a2 x16l2 x16c2) from ⟨HZ256.out.1.below hb HZ256.out.1.lt, HZ256.out.2.1.below hb, below_thn HZ256.out.2.2.1 hb (Nat.le_refl _), HZ256.out.2.2.2.1.below hb HZ256.out.2.2.2.1.lt, HZ256.out.2.2.2.2.1.below hb HZ256.out.2.2.2.2.1.lt, HZ256.out.2.2.2.2.2.below hb⟩)
                clear hb
                cases b
                · skip
                  exfalso
                  have h := HLW.out
                  simp at h
                · skip
                  have ca := HZ262.out.2.2.2.1.cell 2
                  simp only [act3C, List.getElem?_cons_zero, List.getElem?_cons_succ] at ca
                  go_wp2_with ((with_reducible refine wpList_load_want ?_ 24 (.tmp 7) rfl y2.heap.size 0 rfl (pmC p.o p.e (Value.slice ra rl rc) (Value.slice qa ql qc) (Value.slice ga gl gc)) _ (rangeW_blk HZ262.out.1) Try.underlying24 rfl (pmC_info _ _ _ _ _) ?_); focus rfl)
                  clear ca
                  have h1 := mayWrite_any p (n : Int) _ _ _ z261 HZ262.out.2.1
                  rw [HC.out] at h1
                  refine Calls.mono h1 ?_
                  clear h1
                  rintro e' z263 ⟨rfl, hb⟩
                  have HZ264 := Lib.hid (show Blk z263 y2.heap.size 24 (pmC p.o p.e (Value.slice ra rl rc) (Value.slice qa ql qc) (Value.slice ga gl gc)) ∧ PmS z263 p (Value.slice ra rl rc) (Value.slice qa ql qc) (Value.slice ga gl gc) ∧ Below w.heap.size w z263 ∧ Blk z263 wo.heap.size 35 (act3C act) ∧ Blk z263 y17.heap.size 24 (pmC q.o q.e (Value.slice x16a0 x16l0 x16c0) (Value.slice x16a1 x16l1 x16c1) (Value.slice x16a2 x16l2 x16c2)) ∧ PmS z263 q (Value.slice x16a0 x16l0 x16c0) (Value.slice x16a1 x16l1 x16c1) (Value.slice x16a2 x16l2 x16c2) from ⟨HZ262.out.1.below hb HZ262.out.1.lt, HZ262.out.2.1.below hb, below_thn HZ262.out.2.2.1 hb (Nat.le_refl _), HZ262.out.2.2.2.1.below hb HZ262.out.2.2.2.1.lt, HZ262.out.2.2.2.2.1.below hb HZ262.out.2.2.2.2.1.lt, HZ262.out.2.2.2.2.2.below hb⟩)
                  clear hb
                  cases c
                  · skip
                    go_wp2_with fail
                    go_round
                    case rel => exact ⟨n + 1, by omega, by omega, by go_num, HZ264⟩
                    case measure => simp [intOf]; omega
                  · skip
                    have ca := HZ264.out.2.2.2.1.cell 2
                    simp only [act3C, List.getElem?_cons_zero, List.getElem?_cons_succ] at ca
                    go_wp2_with ((with_reducible refine wpList_load_want ?_ 24 (.tmp 11) rfl y17.heap.size 0 rfl (pmC q.o q.e (Value.slice x16a0 x16l0 x16c0) (Value.slice x16a1 x16l1 x16c1) (Value.slice x16a2 x16l2 x16c2)) _ (rangeW_blk HZ264.out.2.2.2.2.1) Try.underlying24 rfl (pmC_info _ _ _ _ _) ?_); focus rfl)
                    clear ca
                    have h1 := mayWrite_any q (n : Int) _ _ _ z263 HZ264.out.2.2.2.2.2
                    rw [HD.out] at h1
                    refine Calls.mono h1 ?_
                    clear h1
                    rintro e' z265 ⟨rfl, hb⟩
                    have HZ266 := Lib.hid (show Blk z265 y2.heap.size 24 (pmC p.o p.e (Value.slice ra rl rc) (Value.slice qa ql qc) (Value.slice ga gl gc)) ∧ PmS z265 p (Value.slice ra rl rc) (Value.slice qa ql qc) (Value.slice ga gl gc) ∧ Below w.heap.size w z265 ∧ Blk z265 wo.heap.size 35 (act3C act) ∧ Blk z265 y17.heap.size 24 (pmC q.o q.e (Value.slice x16a0 x16l0 x16c0) (Value.slice x16a1 x16l1 x16c1) (Value.slice x16a2 x16l2 x16c2)) ∧ PmS z265 q (Value.slice x16a0 x16l0 x16c0) (Value.slice x16a1 x16l1 x16c1) (Value.slice x16a2 x16l2 x16c2) from ⟨HZ264.out.1.below hb HZ264.out.1.lt, HZ264.out.2.1.below hb, below_thn HZ264.out.2.2.1 hb (Nat.le_refl _), HZ264.out.2.2.2.1.below hb HZ264.out.2.2.2.1.lt, HZ264.out.2.2.2.2.1.below hb HZ264.out.2.2.2.2.1.lt, HZ264.out.2.2.2.2.2.below hb⟩)
                    clear hb
                    go_wp2_with fail
                    go_round
                    case rel => exact ⟨n + 1, by omega, by omega, by go_num, HZ266⟩
                    case measure => simp [intOf]; omega


end Go.Proofs.Ytampheimonmggaa
