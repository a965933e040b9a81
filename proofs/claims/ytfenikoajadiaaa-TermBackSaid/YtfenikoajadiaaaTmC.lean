/-
  Layer 5: term.walk, size, Check, Size; the law's large, over, walked. Conditions: none.
-/
import Derived.Test.YtfenikoajadiaaaTmB
namespace Go.Proofs.Ytfenikoajadiaaa
open Go Go.RowKit
set_option linter.unusedSimpArgs false
set_option linter.unusedVariables false


theorem wpList_store1 {P : Program} (w : World) {ops : Array Oper} {rest : List Oper} {o : Oper} {a : Act} {Q : Exit → Act → World → Prop} (hgd : o.guard = none) (ty : TypeId) (x y : Operand) (ho : o.op = .store ty x y)
    (g i : Nat) (e : TypeId) (xs : List Value) (hb : Blk w g e xs) (hx : a.eval x = .pointer (some ⟨g, i, none⟩)) (v : Value) (hy : a.eval y = v) (hl : i < xs.length) (hi : (P.info? ty).map (·.size) = some 1) (h1 : v.oneCell' = true) (hc : v.cells = #[v])
    (h : ∀ w', Blk w' g e (xs.set i v) → Ch (· = g) w w' → w'.heap.size = w.heap.size → wpList P ops Q rest (a.put o.dst undef) w') : wpList P ops Q (o :: rest) a w := by
  refine wpList_plain hgd fun K' hK' => ?_
  have hrun : (execOp a.eval o).run P w = .ok .skip (w.setCell ⟨g, i, none⟩ v) := by
    have hce := hb.cell i
    rw [List.getElem?_eq_getElem hl] at hce
    have hst := run_store P w ⟨g, i, none⟩ v .plain h1
    rw [hce] at hst
    simp only [hb.free] at hst
    unfold execOp
    have hsv : (storeVar ty ⟨g, i, none⟩ v).run P w = .ok () (w.setCell ⟨g, i, none⟩ v) := by
      cases hq : P.info? ty with
      | none => simp [hq] at hi
      | some ii =>
        have hs : 1 = ii.size := by simp [hq] at hi; omega
        have e1 := run_storeCells_cells (P := P) g i [v] 0 w (fun j hj => by obtain rfl : j = 0 := by simpa using hj
                                                                             simp [hce]) (fun j hj => hb.free _) (fun u hu => by obtain rfl : u = v := by simpa using hu
                                                                                                                                 exact h1)
        simp only [Nat.add_zero] at e1
        simp [storeVar, sizeOf, typeInfo, hq, hc, hs.symm, e1, World.setCells]
    simp only [ho, hx, hy, Instr.storeAt, Instr.sureAddr, Sem.run_bind, Sem.run_pure, Result.andThen_ok, hsv]
  unfold Oper.wp
  rw [hrun]
  exact hK' _ _ (h _ (hb.set i v) (Ch.set w ⟨g, i, none⟩ v) (by simp))

theorem wpList_load_want {P : Program} {ops : Array Oper} {rest : List Oper} {op : Oper} {a : Act} {w : World} {Q : Exit → Act → World → Prop} (hgd : Region.wanted op (yielded ops a.tmps) = true) (ty : TypeId) (x : Operand) (ho : op.op = .load ty x)
    (b o : Nat) (hx : a.eval x = .pointer (some ⟨b, o, none⟩)) (cs : List Value) (d : TypeDesc) (hc : w.rangeAt b o cs)
    (hu : P.underlying ty = some d) (hd : d.isRow = true) (hi : (P.info? ty).map (·.size) = some cs.length)
    (h : wpList P ops Q rest (a.put op.dst (.agg cs.toArray)) w) : wpList P ops Q (op :: rest) a w :=
  wpList_step fun _ hK => by rw [if_pos hgd]; exact wp_load_mid ty x ho b o hx cs d hc hu hd hi (hK _ _ h)


theorem Try.sizeInt1 : (Try.prog.info? 3).map (·.size) = some 1 := by kernel_rfl
mutual
/-- walk: goes well?, how many are left -/
def walkM : Tm → Int → Int → Bool × Int
  | .mk k u n s ks, d, l => if l - 1 < 0 ∨ 60 < d ∨ plainB k u n s ks.length = false then (false, l - 1) else walkL ks (d + 1) (l - 1)
def walkL : List Tm → Int → Int → Bool × Int
  | [], _, l => (true, l)
  | t :: ts, d, l => if (walkM t d l).1 = true then walkL ts d (walkM t d l).2 else (false, (walkM t d l).2)
end
mutual
/-- large: too much?, how many are left -/
def largeM : Tm → Int → Int → Bool × Int
  | .mk _ _ _ s ks, d, l => if l - 1 < 0 ∨ 80 < d ∨ 1000 < s.size ∨ 10 < ks.length then (true, l - 1) else largeL ks (d + 1) (l - 1)
def largeL : List Tm → Int → Int → Bool × Int
  | [], _, l => (false, l)
  | t :: ts, d, l => if (largeM t d l).1 = true then (true, (largeM t d l).2) else largeL ts d (largeM t d l).2
end
theorem walkL_cons (t : Tm) (ts : List Tm) (d l : Int) : walkL (t :: ts) d l = if (walkM t d l).1 = true then walkL ts d (walkM t d l).2 else (false, (walkM t d l).2) := by rw [walkL]
theorem largeL_cons (t : Tm) (ts : List Tm) (d l : Int) : largeL (t :: ts) d l = if (largeM t d l).1 = true then (true, (largeM t d l).2) else largeL ts d (largeM t d l).2 := by rw [largeL]
theorem walkL_bd : ∀ (ts : List Tm), (∀ t ∈ ts, ∀ d l, (walkM t d l).1 = true → 0 ≤ (walkM t d l).2 ∧ (walkM t d l).2 < l) → ∀ d l, 0 ≤ l → (walkL ts d l).1 = true → 0 ≤ (walkL ts d l).2 ∧ (walkL ts d l).2 ≤ l
  | [], _, d, l, hl, _ => by rw [walkL]; exact ⟨hl, Int.le_refl _⟩
  | t :: ts, ih, d, l, hl, h => by
    rw [walkL_cons] at h ⊢
    by_cases hk : (walkM t d l).1 = true
    · rw [if_pos hk] at h ⊢
      have h1 := ih t List.mem_cons_self d l hk
      have h2 := walkL_bd ts (fun t ht => ih t (List.mem_cons_of_mem _ ht)) d _ h1.1 h
      omega
    · rw [if_neg hk] at h; cases h
theorem walkM_bd : ∀ (t : Tm) (d l : Int), (walkM t d l).1 = true → 0 ≤ (walkM t d l).2 ∧ (walkM t d l).2 < l := by
  refine Tm.ind fun k u n s ks ih d l h => ?_
  rw [walkM] at h ⊢
  by_cases hk : l - 1 < 0 ∨ 60 < d ∨ plainB k u n s ks.length = false
  · rw [if_pos hk] at h; cases h
  · rw [if_neg hk] at h ⊢
    have := walkL_bd ks ih (d + 1) (l - 1) (by omega) h
    omega
theorem largeL_bd : ∀ (ts : List Tm), (∀ t ∈ ts, ∀ d l, (largeM t d l).1 = false → 0 ≤ (largeM t d l).2 ∧ (largeM t d l).2 < l) → ∀ d l, 0 ≤ l → (largeL ts d l).1 = false → 0 ≤ (largeL ts d l).2 ∧ (largeL ts d l).2 ≤ l
  | [], _, d, l, hl, _ => by rw [largeL]; exact ⟨hl, Int.le_refl _⟩
  | t :: ts, ih, d, l, hl, h => by
    rw [largeL_cons] at h ⊢
    by_cases hk : (largeM t d l).1 = true
    · rw [if_pos hk] at h; cases h
    · rw [if_neg hk] at h ⊢
      have h1 := ih t List.mem_cons_self d l (by simpa using hk)
      have h2 := largeL_bd ts (fun t ht => ih t (List.mem_cons_of_mem _ ht)) d _ h1.1 h
      omega
theorem largeM_bd : ∀ (t : Tm) (d l : Int), (largeM t d l).1 = false → 0 ≤ (largeM t d l).2 ∧ (largeM t d l).2 < l := by
  refine Tm.ind fun k u n s ks ih d l h => ?_
  rw [largeM] at h ⊢
  by_cases hk : l - 1 < 0 ∨ 80 < d ∨ 1000 < s.size ∨ 10 < ks.length
  · rw [if_pos hk] at h; cases h
  · rw [if_neg hk] at h ⊢
    have := largeL_bd ks ih (d + 1) (l - 1) (by omega) h
    omega


set_option maxRecDepth 100000 in
set_option maxHeartbeats 8000000 in
theorem walk_any : ∀ (t : Tm) (cs : List Value) (F : Nat → Prop) (d l : Int) (g : Nat) (w : World), TmC F w cs t → (∀ j, F j → j ≠ g) → Blk w g 3 [.int .i64 l] → 0 ≤ l → l ≤ 100000 → 1 ≤ d → d ≤ 61 →
    Calls Try.prog 64 #[.agg cs.toArray, .int .i64 d, .pointer (some ⟨g, 0, none⟩)] w (fun e w' => e = .returned (.bool (walkM t d l).1) ∧ Blk w' g 3 [.int .i64 (walkM t d l).2] ∧ Ch (· = g) w w') := by
  refine Tm.ind fun k u n s ks ih cs F d l g w ht hF hg hl0 hl1 hd1 hd2 => ?_
  obtain ⟨ao, c, rfl, hmc, hcm, hsl⟩ := ht.shape
  simp only [Tm.k, Tm.u, Tm.n, Tm.s, Tm.ks] at hmc hsl ⊢
  have HIH := Lib.hid ih
  have HF := Lib.hid hF
  obtain ⟨R, hR⟩ : ∃ R, walkM (.mk k u n s ks) d l = R := ⟨_, rfl⟩
  rw [hR]
  have HR := Lib.hid (show (if l - 1 < 0 ∨ 60 < d ∨ plainB k u n s ks.length = false then (false, l - 1) else walkL ks (d + 1) (l - 1)) = R from by rw [← hR, walkM])
  obtain ⟨m, hm⟩ : ∃ m, ks.length = m := ⟨_, rfl⟩
  have HM := Lib.hid hm
  rw [hm] at hsl hmc ⊢
  have hm63 : m ≤ 9223372036854775807 := by unfold maxLen at hcm; omega
  have HGL := Lib.hid hg.lt
  have H0 := Lib.hid (show Blk w g 3 [.int .i64 l] ∧ SlT F w (.slice ao m c) ks ∧ Ch (· = g) w w from ⟨hg, hsl, Ch.refl _ _⟩)
  have lo : -9223372036854775808 ≤ l - 1 := by omega
  have hi : l - 1 ≤ 9223372036854775807 := by omega
  clear ht hF hg hR hm ih hsl hmc hcm
  by_cases h1 : l - 1 < 0
  · have e1 : decide (l - 1 < 0) = true := by simpa using h1
    have HE := Lib.hid (show R = (false, l - 1) from by rw [← HR.out]; exact if_pos (.inl h1))
    clear h1
    go_enter Try.func64, Try.ntmps64
    go_wp2_with (first
    | ((with_reducible refine wpList_box_blk w rfl 24 (.tmp 0) rfl (tmC k u n s (.slice ao m c)) rfl ?_); intro a1 hb hbel hsz; have HA1 := Lib.hid (show Blk a1 g 3 ([.int .i64 l]) ∧ SlT F a1 (.slice ao m c) ks ∧ Ch (· = g) w a1 ∧ Blk a1 w.heap.size 24 (tmC k u n s (.slice ao m c)) from ⟨H0.out.1.below hbel H0.out.1.lt, H0.out.2.1.below hbel, H0.out.2.2.trans (Ch.of_below hbel (Nat.le_refl _)), hb⟩); have cg := HA1.out.1.cell 0; simp only [List.getElem?_cons_zero] at cg; clear hb hbel hsz)
    | ((with_reducible refine wpList_store1 a1 rfl 3 (.tmp 13) (.tmp 12) rfl g 0 3 [.int .i64 l] HA1.out.1 rfl (.int .i64 (l - 1)) rfl (by simp) Try.sizeInt1 rfl rfl ?_); intro a2 hb hc hs; have HA2 := Lib.hid (show Blk a2 g 3 ([.int .i64 (l - 1)]) ∧ SlT F a2 (.slice ao m c) ks ∧ Ch (· = g) w a2 ∧ Blk a2 w.heap.size 24 (tmC k u n s (.slice ao m c)) from ⟨hb, HA1.out.2.1.keep hc HF.out, HA1.out.2.2.1.trans hc, HA1.out.2.2.2.keep hc (fun e => by have e : w.heap.size = g := e; have := HGL.out; omega)⟩); have cg2 := HA2.out.1.cell 0; simp only [List.getElem?_cons_zero] at cg2; clear hb hc hs cg))
    go_ret
    exact ⟨by rw [HE.out]; rfl, by rw [HE.out]; exact HA2.out.1, HA2.out.2.2.1⟩
  have e1 : decide (l - 1 < 0) = false := by simpa using h1
  by_cases h2 : 60 < d
  · have e2 : decide (60 < d) = true := by simpa using h2
    have HE := Lib.hid (show R = (false, l - 1) from by rw [← HR.out]; exact if_pos (.inr (.inl h2)))
    clear h1 h2
    go_enter Try.func64, Try.ntmps64
    go_wp2_with (first
    | ((with_reducible refine wpList_box_blk w rfl 24 (.tmp 0) rfl (tmC k u n s (.slice ao m c)) rfl ?_); intro a1 hb hbel hsz; have HA1 := Lib.hid (show Blk a1 g 3 ([.int .i64 l]) ∧ SlT F a1 (.slice ao m c) ks ∧ Ch (· = g) w a1 ∧ Blk a1 w.heap.size 24 (tmC k u n s (.slice ao m c)) from ⟨H0.out.1.below hbel H0.out.1.lt, H0.out.2.1.below hbel, H0.out.2.2.trans (Ch.of_below hbel (Nat.le_refl _)), hb⟩); have cg := HA1.out.1.cell 0; simp only [List.getElem?_cons_zero] at cg; clear hb hbel hsz)
    | ((with_reducible refine wpList_store1 a1 rfl 3 (.tmp 13) (.tmp 12) rfl g 0 3 [.int .i64 l] HA1.out.1 rfl (.int .i64 (l - 1)) rfl (by simp) Try.sizeInt1 rfl rfl ?_); intro a2 hb hc hs; have HA2 := Lib.hid (show Blk a2 g 3 ([.int .i64 (l - 1)]) ∧ SlT F a2 (.slice ao m c) ks ∧ Ch (· = g) w a2 ∧ Blk a2 w.heap.size 24 (tmC k u n s (.slice ao m c)) from ⟨hb, HA1.out.2.1.keep hc HF.out, HA1.out.2.2.1.trans hc, HA1.out.2.2.2.keep hc (fun e => by have e : w.heap.size = g := e; have := HGL.out; omega)⟩); have cg2 := HA2.out.1.cell 0; simp only [List.getElem?_cons_zero] at cg2; clear hb hc hs cg))
    go_ret
    exact ⟨by rw [HE.out]; rfl, by rw [HE.out]; exact HA2.out.1, HA2.out.2.2.1⟩
  have e2 : decide (60 < d) = false := by simpa using h2
  have hd3 : d + 1 ≤ 9223372036854775807 := by omega
  have HN1 := Lib.hid h1
  have HN2 := Lib.hid h2
  clear h1 h2
  obtain ⟨pb, hpb⟩ : ∃ b, plainB k u n s m = b := ⟨_, rfl⟩
  have HPB := Lib.hid (show plainB k u n s ks.length = pb from by rw [HM.out]; exact hpb)
  have C1 := Lib.hid (fun w => plain_any k u n s ao m c w)
  rw [hpb] at C1
  clear hpb
  go_enter Try.func64, Try.ntmps64
  go_wp2_with (first
    | ((with_reducible refine wpList_box_blk w rfl 24 (.tmp 0) rfl (tmC k u n s (.slice ao m c)) rfl ?_); intro a1 hb hbel hsz; have HA1 := Lib.hid (show Blk a1 g 3 ([.int .i64 l]) ∧ SlT F a1 (.slice ao m c) ks ∧ Ch (· = g) w a1 ∧ Blk a1 w.heap.size 24 (tmC k u n s (.slice ao m c)) from ⟨H0.out.1.below hbel H0.out.1.lt, H0.out.2.1.below hbel, H0.out.2.2.trans (Ch.of_below hbel (Nat.le_refl _)), hb⟩); have cg := HA1.out.1.cell 0; simp only [List.getElem?_cons_zero] at cg; clear hb hbel hsz)
    | ((with_reducible refine wpList_store1 a1 rfl 3 (.tmp 13) (.tmp 12) rfl g 0 3 [.int .i64 l] HA1.out.1 rfl (.int .i64 (l - 1)) rfl (by simp) Try.sizeInt1 rfl rfl ?_); intro a2 hb hc hs; have HA2 := Lib.hid (show Blk a2 g 3 ([.int .i64 (l - 1)]) ∧ SlT F a2 (.slice ao m c) ks ∧ Ch (· = g) w a2 ∧ Blk a2 w.heap.size 24 (tmC k u n s (.slice ao m c)) from ⟨hb, HA1.out.2.1.keep hc HF.out, HA1.out.2.2.1.trans hc, HA1.out.2.2.2.keep hc (fun e => by have e : w.heap.size = g := e; have := HGL.out; omega)⟩); have cg2 := HA2.out.1.cell 0; simp only [List.getElem?_cons_zero] at cg2; clear hb hc hs cg)
    | ((with_reducible refine wpList_load_want ?_ 24 (.tmp 3) rfl w.heap.size 0 rfl (tmC k u n s (.slice ao m c)) _ (rangeW_blk HA2.out.2.2.2) Try.underlying24 rfl (tmC_info _ _ _ _ _) ?_); focus rfl))
  refine Calls.mono (C1.out a2) ?_
  rintro e' a3 ⟨rfl, hb⟩
  have HA3 := Lib.hid (show Blk a3 g 3 ([.int .i64 (l - 1)]) ∧ SlT F a3 (.slice ao m c) ks ∧ Ch (· = g) w a3 ∧ Blk a3 w.heap.size 24 (tmC k u n s (.slice ao m c)) from ⟨HA2.out.1.below hb HA2.out.1.lt, HA2.out.2.1.below hb, HA2.out.2.2.1.trans (Ch.of_below hb (Nat.le_refl _)), HA2.out.2.2.2.below hb HA2.out.2.2.2.lt⟩)
  have c4 := HA3.out.2.2.2.cell 4
  simp only [tmC, List.getElem?_cons_zero, List.getElem?_cons_succ] at c4
  clear hb cg2 C1
  cases pb
  · skip
    have HE := Lib.hid (show R = (false, l - 1) from by rw [← HR.out]; exact if_pos (.inr (.inr HPB.out)))
    go_wp2_with fail
    go_ret
    exact ⟨by rw [HE.out]; rfl, by rw [HE.out]; exact HA3.out.1, HA3.out.2.2.1⟩
  have HN3 := Lib.hid (show ¬ plainB k u n s ks.length = false from by rw [HPB.out]; simp)
  go_wp2_with fail
  clear c4
  have HRL := Lib.hid (show walkL ks (d + 1) (l - 1) = R from by rw [← HR.out]; exact (if_neg (by intro hx; have a1 := HN1.out; have a2 := HN2.out; rcases hx with hx | hx | hx; omega; omega; exact HN3.out hx)).symm)
  have hl2 : 0 ≤ l - 1 := by have a1 := HN1.out; omega
  have hd4 : d ≤ 60 := by have a1 := HN2.out; omega
  go_loopw [30] (fun i wr => ∃ (j : Nat) (lj : Int), i = .int .i64 j ∧ j ≤ m ∧ 0 ≤ lj ∧ lj < l ∧ Hid (walkL (ks.drop j) (d + 1) lj = R) ∧ Hid (Blk wr g 3 [.int .i64 lj] ∧ SlT F wr (.slice ao m c) ks ∧ Ch (· = g) w wr)) (fun i _ => m - (intOf i).toNat)
  case atStart => exact ⟨0, l - 1, rfl, Nat.zero_le _, by omega, by omega, Lib.hid (by rw [List.drop_zero]; exact HRL.out), Lib.hid ⟨HA3.out.1, HA3.out.2.1, HA3.out.2.2.1⟩⟩
  case round =>
    clear HA3 HRL
    obtain ⟨j, lj, rfl, hj, hlj0, hlj1, HQ, HZ⟩ := hrel
    by_cases hlt : j < m
    · have hjk : j < ks.length := by rw [HM.out]; exact hlt
      have hjz : (j : Int) < (m : Int) := by omega
      have hj0 : (0 : Int) ≤ (j : Int) := by omega
      have HJ := Lib.hid hjk
      obtain ⟨b, o, csj, rfl, hFb, hbl, hra, htm⟩ := HZ.out.2.1.get hjk
      have HMEM := Lib.hid (List.getElem_mem hjk)
      have HDR := Lib.hid (List.drop_eq_getElem_cons hjk)
      generalize ks[j] = kj at htm HMEM HDR
      obtain ⟨aj, cj, rfl, -, -, -⟩ := htm.shape
      have HRA := Lib.hid hra
      have HTM := Lib.hid htm
      have HQ2 := Lib.hid (show walkL (kj :: ks.drop (j + 1)) (d + 1) lj = R from by rw [← HDR.out]; exact HQ.out)
      clear hra htm hjk hFb hbl
      go_wp2_with (first
    | (with_reducible refine wpList_load_any rfl 24 (.tmp 32) rfl b (o + j * 5) rfl (tmC kj.k kj.u kj.n kj.s (.slice aj kj.ks.length cj)) _ HRA.out Try.underlying24 rfl (tmC_info _ _ _ _ _) ?_)
    | ((with_reducible refine wpList_alloc_blk wr rfl 24 rfl (tmC 0 0 0 ⟨#[]⟩ (.slice none 0 0)) Try.zeroTm ?_); intro b1 hb hbel hsz; have HB1 := Lib.hid (show Blk b1 g 3 ([.int .i64 lj]) ∧ SlT F b1 (.slice (some ⟨b, o, none⟩) m c) ks ∧ Ch (· = g) w b1 ∧ Blk b1 wr.heap.size 24 (tmC 0 0 0 ⟨#[]⟩ (.slice none 0 0)) ∧ TmC F b1 (tmC kj.k kj.u kj.n kj.s (.slice aj kj.ks.length cj)) kj from ⟨HZ.out.1.below hbel HZ.out.1.lt, HZ.out.2.1.below hbel, HZ.out.2.2.trans (Ch.of_below hbel (Nat.le_refl _)), hb, HTM.out.below hbel⟩); have HBL := Lib.hid hbel; clear hb hbel hsz)
    | ((with_reducible refine wpList_store_blk b1 rfl 24 (.tmp 8) (.tmp 33) rfl wr.heap.size 24 (tmC 0 0 0 ⟨#[]⟩ (.slice none 0 0)) (tmC kj.k kj.u kj.n kj.s (.slice aj kj.ks.length cj)) HB1.out.2.2.2.1 rfl rfl rfl (tmC_info _ _ _ _ _) (tmC_one _ _ _ _ _ _ _) ?_); intro b2 hb hc hs; have hbw : Below wr.heap.size wr b2 := below_ch HBL.out hc (Nat.le_refl _) (fun k hk => by have e : k = wr.heap.size := hk; omega); have HB2 := Lib.hid (show Blk b2 g 3 ([.int .i64 lj]) ∧ SlT F b2 (.slice (some ⟨b, o, none⟩) m c) ks ∧ Ch (· = g) w b2 ∧ Blk b2 wr.heap.size 24 (tmC kj.k kj.u kj.n kj.s (.slice aj kj.ks.length cj)) ∧ TmC F b2 (tmC kj.k kj.u kj.n kj.s (.slice aj kj.ks.length cj)) kj from ⟨HZ.out.1.below hbw HZ.out.1.lt, HZ.out.2.1.below hbw, HZ.out.2.2.trans (Ch.of_below hbw (Nat.le_refl _)), hb, HTM.out.below hbw⟩); clear hb hc hs hbw)
    | (with_reducible refine wpList_load_any rfl 24 (.tmp 8) rfl wr.heap.size 0 rfl (tmC kj.k kj.u kj.n kj.s (.slice aj kj.ks.length cj)) _ (rangeW_blk HB2.out.2.2.2.1) Try.underlying24 rfl (tmC_info _ _ _ _ _) ?_))
      have hx := HIH.out kj HMEM.out _ F (d + 1) lj g b2 HB2.out.2.2.2.2 HF.out HB2.out.1 (by omega) (by omega) (by omega) (by omega)
      obtain ⟨⟨rb, l2⟩, hr⟩ : ∃ r, walkM kj (d + 1) lj = r := ⟨_, rfl⟩
      have HRK := Lib.hid hr
      rw [hr] at hx
      clear hr
      refine Calls.mono hx ?_
      clear hx
      rintro e' b3 ⟨rfl, hb, hc⟩
      have HB3 := Lib.hid (show Blk b3 g 3 ([.int .i64 l2]) ∧ SlT F b3 (.slice (some ⟨b, o, none⟩) m c) ks ∧ Ch (· = g) w b3 from ⟨hb, HB2.out.2.1.keep hc HF.out, HB2.out.2.2.1.trans hc⟩)
      clear hb hc
      cases rb
      · skip
        have HE := Lib.hid (show R = (false, l2) from by rw [← HQ2.out, walkL_cons, HRK.out]; rfl)
        go_wp2_with fail
        go_ret
        exact ⟨by rw [HE.out]; rfl, by rw [HE.out]; exact HB3.out.1, HB3.out.2.2⟩
      · skip
        have hbd := walkM_bd kj (d + 1) lj (by rw [HRK.out])
        rw [HRK.out] at hbd
        have hb1 : 0 ≤ l2 := hbd.1
        have hb2 : l2 < lj := hbd.2
        clear hbd
        have HQ3 := Lib.hid (show walkL (ks.drop (j + 1)) (d + 1) l2 = R from by have h := HQ2.out; rw [walkL_cons, HRK.out] at h; exact h)
        go_wp2_with fail
        go_roundw
        case rel => exact ⟨j + 1, l2, by go_num, by omega, by omega, by omega, HQ3, HB3⟩
        case measure => simp [intOf]; omega
    · have hge : ¬ (j : Int) < (m : Int) := by omega
      have HE := Lib.hid (show R = (true, lj) from by rw [← HQ.out, List.drop_of_length_le (by rw [HM.out]; omega), walkL])
      go_wp2_with fail
      go_ret
      exact ⟨by rw [HE.out]; rfl, by rw [HE.out]; exact HZ.out.1, HZ.out.2.2⟩


set_option maxRecDepth 100000 in
set_option maxHeartbeats 8000000 in
theorem large_any : ∀ (t : Tm) (cs : List Value) (F : Nat → Prop) (d l : Int) (g : Nat) (w : World), TmC F w cs t → (∀ j, F j → j ≠ g) → Blk w g 3 [.int .i64 l] → 0 ≤ l → l ≤ 100000 → 1 ≤ d → d ≤ 81 →
    Calls Try.prog 40 #[.agg cs.toArray, .int .i64 d, .pointer (some ⟨g, 0, none⟩)] w (fun e w' => e = .returned (.bool (largeM t d l).1) ∧ Blk w' g 3 [.int .i64 (largeM t d l).2] ∧ Ch (· = g) w w') := by
  refine Tm.ind fun k u n s ks ih cs F d l g w ht hF hg hl0 hl1 hd1 hd2 => ?_
  obtain ⟨ao, c, rfl, hmc, hcm, hsl⟩ := ht.shape
  simp only [Tm.k, Tm.u, Tm.n, Tm.s, Tm.ks] at hmc hsl ⊢
  have HIH := Lib.hid ih
  have HF := Lib.hid hF
  obtain ⟨R, hR⟩ : ∃ R, largeM (.mk k u n s ks) d l = R := ⟨_, rfl⟩
  rw [hR]
  have HR := Lib.hid (show (if l - 1 < 0 ∨ 80 < d ∨ 1000 < s.size ∨ 10 < ks.length then (true, l - 1) else largeL ks (d + 1) (l - 1)) = R from by rw [← hR, largeM])
  obtain ⟨m, hm⟩ : ∃ m, ks.length = m := ⟨_, rfl⟩
  have HM := Lib.hid hm
  rw [hm] at hsl hmc ⊢
  have hm63 : m ≤ 9223372036854775807 := by unfold maxLen at hcm; omega
  have HGL := Lib.hid hg.lt
  have H0 := Lib.hid (show Blk w g 3 [.int .i64 l] ∧ SlT F w (.slice ao m c) ks ∧ Ch (· = g) w w from ⟨hg, hsl, Ch.refl _ _⟩)
  have lo : -9223372036854775808 ≤ l - 1 := by omega
  have hi : l - 1 ≤ 9223372036854775807 := by omega
  clear ht hF hg hR hm ih hsl hmc hcm
  by_cases h1 : l - 1 < 0
  · have e1 : decide (l - 1 < 0) = true := by simpa using h1
    have HE := Lib.hid (show R = (true, l - 1) from by rw [← HR.out]; exact if_pos (.inl h1))
    clear h1
    go_enter Try.func40, Try.ntmps40
    go_wp2_with (first
    | ((with_reducible refine wpList_box_blk w rfl 24 (.tmp 0) rfl (tmC k u n s (.slice ao m c)) rfl ?_); intro a1 hb hbel hsz; have HA1 := Lib.hid (show Blk a1 g 3 ([.int .i64 l]) ∧ SlT F a1 (.slice ao m c) ks ∧ Ch (· = g) w a1 ∧ Blk a1 w.heap.size 24 (tmC k u n s (.slice ao m c)) from ⟨H0.out.1.below hbel H0.out.1.lt, H0.out.2.1.below hbel, H0.out.2.2.trans (Ch.of_below hbel (Nat.le_refl _)), hb⟩); have cg := HA1.out.1.cell 0; simp only [List.getElem?_cons_zero] at cg; clear hb hbel hsz)
    | ((with_reducible refine wpList_store1 a1 rfl 3 (.tmp 13) (.tmp 12) rfl g 0 3 [.int .i64 l] HA1.out.1 rfl (.int .i64 (l - 1)) rfl (by simp) Try.sizeInt1 rfl rfl ?_); intro a2 hb hc hs; have HA2 := Lib.hid (show Blk a2 g 3 ([.int .i64 (l - 1)]) ∧ SlT F a2 (.slice ao m c) ks ∧ Ch (· = g) w a2 ∧ Blk a2 w.heap.size 24 (tmC k u n s (.slice ao m c)) from ⟨hb, HA1.out.2.1.keep hc HF.out, HA1.out.2.2.1.trans hc, HA1.out.2.2.2.keep hc (fun e => by have e : w.heap.size = g := e; have := HGL.out; omega)⟩); have cg2 := HA2.out.1.cell 0; simp only [List.getElem?_cons_zero] at cg2; have c3' := HA2.out.2.2.2.cell 3; have c4 := HA2.out.2.2.2.cell 4; simp only [tmC, List.getElem?_cons_zero, List.getElem?_cons_succ] at c3' c4; clear hb hc hs cg))
    go_ret
    exact ⟨by rw [HE.out]; rfl, by rw [HE.out]; exact HA2.out.1, HA2.out.2.2.1⟩
  have e1 : decide (l - 1 < 0) = false := by simpa using h1
  by_cases h2 : 80 < d
  · have e2 : decide (80 < d) = true := by simpa using h2
    have HE := Lib.hid (show R = (true, l - 1) from by rw [← HR.out]; exact if_pos (.inr (.inl h2)))
    clear h1 h2
    go_enter Try.func40, Try.ntmps40
    go_wp2_with (first
    | ((with_reducible refine wpList_box_blk w rfl 24 (.tmp 0) rfl (tmC k u n s (.slice ao m c)) rfl ?_); intro a1 hb hbel hsz; have HA1 := Lib.hid (show Blk a1 g 3 ([.int .i64 l]) ∧ SlT F a1 (.slice ao m c) ks ∧ Ch (· = g) w a1 ∧ Blk a1 w.heap.size 24 (tmC k u n s (.slice ao m c)) from ⟨H0.out.1.below hbel H0.out.1.lt, H0.out.2.1.below hbel, H0.out.2.2.trans (Ch.of_below hbel (Nat.le_refl _)), hb⟩); have cg := HA1.out.1.cell 0; simp only [List.getElem?_cons_zero] at cg; clear hb hbel hsz)
    | ((with_reducible refine wpList_store1 a1 rfl 3 (.tmp 13) (.tmp 12) rfl g 0 3 [.int .i64 l] HA1.out.1 rfl (.int .i64 (l - 1)) rfl (by simp) Try.sizeInt1 rfl rfl ?_); intro a2 hb hc hs; have HA2 := Lib.hid (show Blk a2 g 3 ([.int .i64 (l - 1)]) ∧ SlT F a2 (.slice ao m c) ks ∧ Ch (· = g) w a2 ∧ Blk a2 w.heap.size 24 (tmC k u n s (.slice ao m c)) from ⟨hb, HA1.out.2.1.keep hc HF.out, HA1.out.2.2.1.trans hc, HA1.out.2.2.2.keep hc (fun e => by have e : w.heap.size = g := e; have := HGL.out; omega)⟩); have cg2 := HA2.out.1.cell 0; simp only [List.getElem?_cons_zero] at cg2; have c3' := HA2.out.2.2.2.cell 3; have c4 := HA2.out.2.2.2.cell 4; simp only [tmC, List.getElem?_cons_zero, List.getElem?_cons_succ] at c3' c4; clear hb hc hs cg))
    go_ret
    exact ⟨by rw [HE.out]; rfl, by rw [HE.out]; exact HA2.out.1, HA2.out.2.2.1⟩
  have e2 : decide (80 < d) = false := by simpa using h2
  have hd3 : d + 1 ≤ 9223372036854775807 := by omega
  have HN1 := Lib.hid h1
  have HN2 := Lib.hid h2
  clear h1 h2
  by_cases h3 : 1000 < s.size
  · have e3 : decide ((1000 : Int) < (s.size : Int)) = true := by simp; omega
    have HE := Lib.hid (show R = (true, l - 1) from by rw [← HR.out]; exact if_pos (.inr (.inr (.inl h3))))
    clear h3
    go_enter Try.func40, Try.ntmps40
    go_wp2_with (first
    | ((with_reducible refine wpList_box_blk w rfl 24 (.tmp 0) rfl (tmC k u n s (.slice ao m c)) rfl ?_); intro a1 hb hbel hsz; have HA1 := Lib.hid (show Blk a1 g 3 ([.int .i64 l]) ∧ SlT F a1 (.slice ao m c) ks ∧ Ch (· = g) w a1 ∧ Blk a1 w.heap.size 24 (tmC k u n s (.slice ao m c)) from ⟨H0.out.1.below hbel H0.out.1.lt, H0.out.2.1.below hbel, H0.out.2.2.trans (Ch.of_below hbel (Nat.le_refl _)), hb⟩); have cg := HA1.out.1.cell 0; simp only [List.getElem?_cons_zero] at cg; clear hb hbel hsz)
    | ((with_reducible refine wpList_store1 a1 rfl 3 (.tmp 13) (.tmp 12) rfl g 0 3 [.int .i64 l] HA1.out.1 rfl (.int .i64 (l - 1)) rfl (by simp) Try.sizeInt1 rfl rfl ?_); intro a2 hb hc hs; have HA2 := Lib.hid (show Blk a2 g 3 ([.int .i64 (l - 1)]) ∧ SlT F a2 (.slice ao m c) ks ∧ Ch (· = g) w a2 ∧ Blk a2 w.heap.size 24 (tmC k u n s (.slice ao m c)) from ⟨hb, HA1.out.2.1.keep hc HF.out, HA1.out.2.2.1.trans hc, HA1.out.2.2.2.keep hc (fun e => by have e : w.heap.size = g := e; have := HGL.out; omega)⟩); have cg2 := HA2.out.1.cell 0; simp only [List.getElem?_cons_zero] at cg2; have c3' := HA2.out.2.2.2.cell 3; have c4 := HA2.out.2.2.2.cell 4; simp only [tmC, List.getElem?_cons_zero, List.getElem?_cons_succ] at c3' c4; clear hb hc hs cg))
    go_ret
    exact ⟨by rw [HE.out]; rfl, by rw [HE.out]; exact HA2.out.1, HA2.out.2.2.1⟩
  have e3 : decide ((1000 : Int) < (s.size : Int)) = false := by simp; omega
  by_cases h4 : 10 < ks.length
  · have e4 : decide ((10 : Int) < (m : Int)) = true := by have := HM.out; simp; omega
    have HE := Lib.hid (show R = (true, l - 1) from by rw [← HR.out]; exact if_pos (.inr (.inr (.inr h4))))
    clear h3 h4
    go_enter Try.func40, Try.ntmps40
    go_wp2_with (first
    | ((with_reducible refine wpList_box_blk w rfl 24 (.tmp 0) rfl (tmC k u n s (.slice ao m c)) rfl ?_); intro a1 hb hbel hsz; have HA1 := Lib.hid (show Blk a1 g 3 ([.int .i64 l]) ∧ SlT F a1 (.slice ao m c) ks ∧ Ch (· = g) w a1 ∧ Blk a1 w.heap.size 24 (tmC k u n s (.slice ao m c)) from ⟨H0.out.1.below hbel H0.out.1.lt, H0.out.2.1.below hbel, H0.out.2.2.trans (Ch.of_below hbel (Nat.le_refl _)), hb⟩); have cg := HA1.out.1.cell 0; simp only [List.getElem?_cons_zero] at cg; clear hb hbel hsz)
    | ((with_reducible refine wpList_store1 a1 rfl 3 (.tmp 13) (.tmp 12) rfl g 0 3 [.int .i64 l] HA1.out.1 rfl (.int .i64 (l - 1)) rfl (by simp) Try.sizeInt1 rfl rfl ?_); intro a2 hb hc hs; have HA2 := Lib.hid (show Blk a2 g 3 ([.int .i64 (l - 1)]) ∧ SlT F a2 (.slice ao m c) ks ∧ Ch (· = g) w a2 ∧ Blk a2 w.heap.size 24 (tmC k u n s (.slice ao m c)) from ⟨hb, HA1.out.2.1.keep hc HF.out, HA1.out.2.2.1.trans hc, HA1.out.2.2.2.keep hc (fun e => by have e : w.heap.size = g := e; have := HGL.out; omega)⟩); have cg2 := HA2.out.1.cell 0; simp only [List.getElem?_cons_zero] at cg2; have c3' := HA2.out.2.2.2.cell 3; have c4 := HA2.out.2.2.2.cell 4; simp only [tmC, List.getElem?_cons_zero, List.getElem?_cons_succ] at c3' c4; clear hb hc hs cg))
    go_ret
    exact ⟨by rw [HE.out]; rfl, by rw [HE.out]; exact HA2.out.1, HA2.out.2.2.1⟩
  have e4 : decide ((10 : Int) < (m : Int)) = false := by have := HM.out; simp; omega
  have HN3 := Lib.hid (show ¬ (1000 < s.size ∨ 10 < ks.length) from fun hx => hx.elim h3 h4)
  clear h3 h4
  go_enter Try.func40, Try.ntmps40
  go_wp2_with (first
    | ((with_reducible refine wpList_box_blk w rfl 24 (.tmp 0) rfl (tmC k u n s (.slice ao m c)) rfl ?_); intro a1 hb hbel hsz; have HA1 := Lib.hid (show Blk a1 g 3 ([.int .i64 l]) ∧ SlT F a1 (.slice ao m c) ks ∧ Ch (· = g) w a1 ∧ Blk a1 w.heap.size 24 (tmC k u n s (.slice ao m c)) from ⟨H0.out.1.below hbel H0.out.1.lt, H0.out.2.1.below hbel, H0.out.2.2.trans (Ch.of_below hbel (Nat.le_refl _)), hb⟩); have cg := HA1.out.1.cell 0; simp only [List.getElem?_cons_zero] at cg; clear hb hbel hsz)
    | ((with_reducible refine wpList_store1 a1 rfl 3 (.tmp 13) (.tmp 12) rfl g 0 3 [.int .i64 l] HA1.out.1 rfl (.int .i64 (l - 1)) rfl (by simp) Try.sizeInt1 rfl rfl ?_); intro a2 hb hc hs; have HA2 := Lib.hid (show Blk a2 g 3 ([.int .i64 (l - 1)]) ∧ SlT F a2 (.slice ao m c) ks ∧ Ch (· = g) w a2 ∧ Blk a2 w.heap.size 24 (tmC k u n s (.slice ao m c)) from ⟨hb, HA1.out.2.1.keep hc HF.out, HA1.out.2.2.1.trans hc, HA1.out.2.2.2.keep hc (fun e => by have e : w.heap.size = g := e; have := HGL.out; omega)⟩); have cg2 := HA2.out.1.cell 0; simp only [List.getElem?_cons_zero] at cg2; have c3' := HA2.out.2.2.2.cell 3; have c4 := HA2.out.2.2.2.cell 4; simp only [tmC, List.getElem?_cons_zero, List.getElem?_cons_succ] at c3' c4; clear hb hc hs cg))
  clear cg2 c3' c4
  have HRL := Lib.hid (show largeL ks (d + 1) (l - 1) = R from by rw [← HR.out]; exact (if_neg (by intro hx; have a1 := HN1.out; have a2 := HN2.out; rcases hx with hx | hx | hx; omega; omega; exact HN3.out hx)).symm)
  have hl2 : 0 ≤ l - 1 := by have a1 := HN1.out; omega
  have hd4 : d ≤ 80 := by have a1 := HN2.out; omega
  go_loopw [37] (fun i wr => ∃ (j : Nat) (lj : Int), i = .int .i64 j ∧ j ≤ m ∧ 0 ≤ lj ∧ lj < l ∧ Hid (largeL (ks.drop j) (d + 1) lj = R) ∧ Hid (Blk wr g 3 [.int .i64 lj] ∧ SlT F wr (.slice ao m c) ks ∧ Ch (· = g) w wr)) (fun i _ => m - (intOf i).toNat)
  case atStart => exact ⟨0, l - 1, rfl, Nat.zero_le _, by omega, by omega, Lib.hid (by rw [List.drop_zero]; exact HRL.out), Lib.hid ⟨HA2.out.1, HA2.out.2.1, HA2.out.2.2.1⟩⟩
  case round =>
    clear HA2 HRL
    obtain ⟨j, lj, rfl, hj, hlj0, hlj1, HQ, HZ⟩ := hrel
    by_cases hlt : j < m
    · have hjk : j < ks.length := by rw [HM.out]; exact hlt
      have hjz : (j : Int) < (m : Int) := by omega
      have hj0 : (0 : Int) ≤ (j : Int) := by omega
      have HJ := Lib.hid hjk
      obtain ⟨b, o, csj, rfl, hFb, hbl, hra, htm⟩ := HZ.out.2.1.get hjk
      have HMEM := Lib.hid (List.getElem_mem hjk)
      have HDR := Lib.hid (List.drop_eq_getElem_cons hjk)
      generalize ks[j] = kj at htm HMEM HDR
      obtain ⟨aj, cj, rfl, -, -, -⟩ := htm.shape
      have HRA := Lib.hid hra
      have HTM := Lib.hid htm
      have HQ2 := Lib.hid (show largeL (kj :: ks.drop (j + 1)) (d + 1) lj = R from by rw [← HDR.out]; exact HQ.out)
      clear hra htm hjk hFb hbl
      go_wp2_with (first
    | (with_reducible refine wpList_load_any rfl 24 (.tmp 39) rfl b (o + j * 5) rfl (tmC kj.k kj.u kj.n kj.s (.slice aj kj.ks.length cj)) _ HRA.out Try.underlying24 rfl (tmC_info _ _ _ _ _) ?_)
    | ((with_reducible refine wpList_alloc_blk wr rfl 24 rfl (tmC 0 0 0 ⟨#[]⟩ (.slice none 0 0)) Try.zeroTm ?_); intro b1 hb hbel hsz; have HB1 := Lib.hid (show Blk b1 g 3 ([.int .i64 lj]) ∧ SlT F b1 (.slice (some ⟨b, o, none⟩) m c) ks ∧ Ch (· = g) w b1 ∧ Blk b1 wr.heap.size 24 (tmC 0 0 0 ⟨#[]⟩ (.slice none 0 0)) ∧ TmC F b1 (tmC kj.k kj.u kj.n kj.s (.slice aj kj.ks.length cj)) kj from ⟨HZ.out.1.below hbel HZ.out.1.lt, HZ.out.2.1.below hbel, HZ.out.2.2.trans (Ch.of_below hbel (Nat.le_refl _)), hb, HTM.out.below hbel⟩); have HBL := Lib.hid hbel; clear hb hbel hsz)
    | ((with_reducible refine wpList_store_blk b1 rfl 24 (.tmp 8) (.tmp 40) rfl wr.heap.size 24 (tmC 0 0 0 ⟨#[]⟩ (.slice none 0 0)) (tmC kj.k kj.u kj.n kj.s (.slice aj kj.ks.length cj)) HB1.out.2.2.2.1 rfl rfl rfl (tmC_info _ _ _ _ _) (tmC_one _ _ _ _ _ _ _) ?_); intro b2 hb hc hs; have hbw : Below wr.heap.size wr b2 := below_ch HBL.out hc (Nat.le_refl _) (fun k hk => by have e : k = wr.heap.size := hk; omega); have HB2 := Lib.hid (show Blk b2 g 3 ([.int .i64 lj]) ∧ SlT F b2 (.slice (some ⟨b, o, none⟩) m c) ks ∧ Ch (· = g) w b2 ∧ Blk b2 wr.heap.size 24 (tmC kj.k kj.u kj.n kj.s (.slice aj kj.ks.length cj)) ∧ TmC F b2 (tmC kj.k kj.u kj.n kj.s (.slice aj kj.ks.length cj)) kj from ⟨HZ.out.1.below hbw HZ.out.1.lt, HZ.out.2.1.below hbw, HZ.out.2.2.trans (Ch.of_below hbw (Nat.le_refl _)), hb, HTM.out.below hbw⟩); clear hb hc hs hbw)
    | (with_reducible refine wpList_load_any rfl 24 (.tmp 8) rfl wr.heap.size 0 rfl (tmC kj.k kj.u kj.n kj.s (.slice aj kj.ks.length cj)) _ (rangeW_blk HB2.out.2.2.2.1) Try.underlying24 rfl (tmC_info _ _ _ _ _) ?_))
      have hx := HIH.out kj HMEM.out _ F (d + 1) lj g b2 HB2.out.2.2.2.2 HF.out HB2.out.1 (by omega) (by omega) (by omega) (by omega)
      obtain ⟨⟨rb, l2⟩, hr⟩ : ∃ r, largeM kj (d + 1) lj = r := ⟨_, rfl⟩
      have HRK := Lib.hid hr
      rw [hr] at hx
      clear hr
      refine Calls.mono hx ?_
      clear hx
      rintro e' b3 ⟨rfl, hb, hc⟩
      have HB3 := Lib.hid (show Blk b3 g 3 ([.int .i64 l2]) ∧ SlT F b3 (.slice (some ⟨b, o, none⟩) m c) ks ∧ Ch (· = g) w b3 from ⟨hb, HB2.out.2.1.keep hc HF.out, HB2.out.2.2.1.trans hc⟩)
      clear hb hc
      cases rb
      · skip
        have hbd := largeM_bd kj (d + 1) lj (by rw [HRK.out])
        rw [HRK.out] at hbd
        have hb1 : 0 ≤ l2 := hbd.1
        have hb2 : l2 < lj := hbd.2
        clear hbd
        have HQ3 := Lib.hid (show largeL (ks.drop (j + 1)) (d + 1) l2 = R from by have h := HQ2.out; rw [largeL_cons, HRK.out] at h; exact h)
        go_wp2_with fail
        go_roundw
        case rel => exact ⟨j + 1, l2, by go_num, by omega, by omega, by omega, HQ3, HB3⟩
        case measure => simp [intOf]; omega
      · skip
        have HE := Lib.hid (show R = (true, l2) from by rw [← HQ2.out, largeL_cons, HRK.out]; rfl)
        go_wp2_with fail
        go_ret
        exact ⟨by rw [HE.out]; rfl, by rw [HE.out]; exact HB3.out.1, HB3.out.2.2⟩
    · have hge : ¬ (j : Int) < (m : Int) := by omega
      have HE := Lib.hid (show R = (false, lj) from by rw [← HQ.out, List.drop_of_length_le (by rw [HM.out]; omega), largeL])
      go_wp2_with fail
      go_ret
      exact ⟨by rw [HE.out]; rfl, by rw [HE.out]; exact HZ.out.1, HZ.out.2.2⟩


end Go.Proofs.Ytfenikoajadiaaa
