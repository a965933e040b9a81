/-
  Layer 5: term.List, walked: a range over slices.Backward. Conditions: at most 1000 terms.
-/
import Derived.Test.YtfenikoajadiaaaTmO
import Derived.Test.YtfenikoajadiaaaRgIn
namespace Go.Proofs.Ytfenikoajadiaaa
open Go Go.RowKit Go.Shelf
set_option linter.unusedSimpArgs false
set_option linter.unusedVariables false
attribute [local go_sem] Oper.semAt_some

theorem AtC.up {F G : Nat → Prop} {w : World} {b : Nat} : ∀ {ts : List Tm} {o : Nat}, (∀ t ∈ ts, ∀ cs, TmC F w cs t → TmC G w cs t) → AtC F w b o ts → AtC G w b o ts
  | [], _, _, _ => by unfold AtC; trivial
  | t :: ts, o, ih, h => by
    unfold AtC at h ⊢
    obtain ⟨⟨cs, h1, h2, h3⟩, h4⟩ := h
    exact ⟨⟨cs, h1, h2, ih t List.mem_cons_self cs h3⟩, AtC.up (fun t ht => ih t (List.mem_cons_of_mem _ ht)) h4⟩
theorem cells_of_cell {W : World} {b o : Nat} {v : Value} (h : W.cell? ⟨b, o, none⟩ = some v) : ∀ x, W.heap[b]? = some x → x.isCells = true := fun x hx => by
  unfold World.cell? at h
  simp only [hx] at h
  cases x <;> first | rfl | cases h
theorem TmC.isc {F : Nat → Prop} {w : World} : ∀ (t : Tm) (cs : List Value), TmC F w cs t → TmC (fun k => F k ∧ ∀ x, w.heap[k]? = some x → x.isCells = true) w cs t := by
  refine Tm.ind fun k u n s ks ih cs h => ?_
  unfold TmC at h ⊢
  obtain ⟨ao, c, h1, h2, h3, h4⟩ := h
  refine ⟨ao, c, h1, h2, h3, fun h0 => ?_⟩
  obtain ⟨b, o, e, hF, hb, ha⟩ := h4 h0
  obtain ⟨ds, hr, hd⟩ := ha.get 0 h0
  have hl := hd.len
  exact ⟨b, o, e, ⟨hF, cells_of_cell (hr 0 _ (List.getElem?_eq_getElem (by omega)))⟩, hb, AtC.up ih ha⟩
theorem ch_grown {w w' : World} {row : Option Nat} (hg : w.grownBy w' row) : Ch (fun k => row = some k) w w' := ⟨hg.os, hg.tape, hg.output, hg.size, fun k hk hs => hg.block k hk (fun e => hs e.symm)⟩
theorem TmC.own {F : Nat → Prop} {X Y : World} {row : Option Nat} {cs : List Value} {t : Tm} (h : TmC F X cs t) (hg : X.grownBy Y row) (hr : ∀ r, row = some r → ∃ o : Obj, X.heap[r]? = some o ∧ o.isCells = false) : TmC F Y cs t :=
  ((TmC.isc t cs h).keep (ch_grown hg) (fun k hk e => by
    obtain ⟨o, ho, hc⟩ := hr k e
    rw [hk.2 o ho] at hc; cases hc)).mono fun k hk => hk.1

/-- below n only block b has turned -/
def Kq (n b : Nat) (W W' : World) : Prop := ∀ k, k < n → k ≠ b → W'.heap[k]? = W.heap[k]?
theorem Kq.trans {n b : Nat} {A B C : World} (h : Kq n b A B) (k : Kq n b B C) : Kq n b A C := fun i hi hb => (k i hi hb).trans (h i hi hb)
theorem Kq.putObj {n b : Nat} {w : World} (hn : n ≤ w.heap.size) (W : World) (l : Nat) (o o' : Obj) (hl : w.heap.size ≤ l) (_ : W.heap[l]? = some o) (_ : o.isCells = false) (_ : o.isWalk = false) : Kq n b W (W.putObj l o') := fun k hk _ => World.putObj_heap_other (fun e => by omega)
theorem Kq.blk {n b : Nat} {W W' : World} {g : Nat} {e : TypeId} {xs : List Value} (h : Kq n b W W') (hb : Blk W g e xs) (hg : g < n) (hne : g ≠ b) : Blk W' g e xs := by
  unfold Blk at *
  rw [h g hg hne]; exact hb
theorem Kq.rng {n b : Nat} {W W' : World} {g o : Nat} {xs : List Value} (h : Kq n b W W') (hr : W.rangeAt g o xs) (hg : g < n) (hne : g ≠ b) : W'.rangeAt g o xs := fun i v hv => (World.cell?_of_block (w := W) (a := ⟨g, _, none⟩) (h g hg hne)).trans (hr i v hv)
theorem Kq.of_below {n b : Nat} {W W' : World} (h : Below W.heap.size W W') (hn : n ≤ W.heap.size) : Kq n b W W' := fun k hk _ => h.block k (by omega)
theorem zip2 (p q : Tmp) (u v : Value) : (#[p, q] : Array Tmp).zip #[u, v] = #[(p, u), (q, v)] := by simp
theorem foldl2 {α β : Type} (f : β → α → β) (b : β) (x y : α) : (#[x, y] : Array α).foldl f b = f (f b x) y := by simp
theorem kf_of {B b : Nat} {W W' : World} (hs : W.heap.size ≤ W'.heap.size) (h : ∀ k, k < W.heap.size → k ≠ b → W'.heap[k]? = W.heap[k]?) (hb : ∀ o, W.heap[b]? = some o → o.isCells = true) : KeepsFrom B W W' :=
  ⟨hs, fun k o _ hk ho => by
    refine (h k (Array.getElem?_eq_some_iff.1 hk).1 (fun e => ?_)).trans hk
    subst e; rw [hb o hk] at ho; cases ho⟩
theorem blk_cells {W : World} {g : Nat} {e : TypeId} {xs : List Value} (h : Blk W g e xs) : ∀ o, W.heap[g]? = some o → o.isCells = true := fun o ho => by
  unfold Blk at h; rw [h] at ho; cases ho; rfl
theorem blk_own {X Y : World} {row : Option Nat} {g : Nat} {e : TypeId} {xs : List Value} (h : Blk X g e xs) (hg : X.grownBy Y row) (hr : ∀ r, row = some r → ∃ o : Obj, X.heap[r]? = some o ∧ o.isCells = false) : Blk Y g e xs := by
  have h' := h
  unfold Blk at *
  rw [hg.block g (lt_of_block h') (fun e' => by
    obtain ⟨o, ho, hc⟩ := hr g e'.symm
    rw [blk_cells h' o ho] at hc; cases hc)]
  exact h

theorem backw_any (ao : Option Addr) (m c : Nat) (w : World) : Calls Try.prog 54 #[.slice ao m c] w (fun e w' => e = .returned (.func (.func 69) #[] #[.pointer (some ⟨w.heap.size, 0, none⟩)]) ∧ Blk w' w.heap.size 22 [.slice ao m c] ∧ Below w.heap.size w w') := by
  go_enter Try.func54, Try.ntmps54
  go_wp2
  go_ret
  exact ⟨rfl, Blk.new _ _ _, (Below.refl _ _).alloc (Nat.le_refl _) _⟩

set_option maxRecDepth 100000 in
set_option maxHeartbeats 4000000 in
theorem back_stops (L : Nat) (cs : Fin L → List Value) (hcs : ∀ i, (cs i).length = 5) (hL : L ≤ 1000) (n₁ bb Bs : Nat) (ao : Option Addr) (c : Nat) (w : World) (hn1 : n₁ ≤ w.heap.size) (hb : Blk w Bs 22 [.slice ao L c]) (hB1 : Bs < n₁) (hB2 : Bs ≠ bb)
    (hrow : ∀ i : Fin L, ∃ g o, ao = some ⟨g, o, none⟩ ∧ g < n₁ ∧ g ≠ bb ∧ w.rangeAt g (o + i.1 * 5) (cs i)) :
    SeqStopsK Fence.wide 8 Try.prog 69 #[.pointer (some ⟨Bs, 0, none⟩)] (fun i : Fin L => #[.int .i64 i.1, .agg (cs i).toArray]) (Kq n₁ bb) (fun ys => ys = (List.finRange L).reverse) (fun _ => True) L w := fun l J Jx W hW hJ _ hY h0 => by
  have HK := Lib.hid (show Kq n₁ bb w W from Kq.of_below hW hn1)
  have HB := Lib.hid hb
  have HROW := Lib.hid hrow
  have HCS := Lib.hid hcs
  have HY := Lib.hid hY
  clear hb hrow hcs hY hJ
  refine callsIn_of_wp Try.func69 rfl trivial ?_ rfl
  simp only [Try.ntmps69, List.size_toArray, List.length_cons, List.length_nil, Nat.reduceAdd, Nat.reduceSub, Array.replicate_succ, Array.replicate_zero, List.push_toArray, List.append_toArray, List.nil_append, List.cons_append]
  have k0 := (HK.out.blk HB.out hB1 hB2).cell 0
  simp only [List.getElem?_cons_zero] at k0
  gi_wp2
  gi_loopw [3] (fun i wr => ∃ (r : Nat) (x : Int), r ≤ L ∧ i = .int .i64 x ∧ x + 1 = (r : Int) ∧ J ((List.finRange L).reverse.take (L - r)) wr ∧ Hid (Kq n₁ bb w wr)) (fun i _ => (intOf i + 1).toNat)
  case atStart => exact ⟨L, (L : Int) - 1, Nat.le_refl _, by go_num, by omega, by simpa using h0, HK⟩
  case round =>
    obtain ⟨r, x, hr, rfl, hx, hJs, HW⟩ := hrel
    cases r with
    | zero =>
      have hx0 : ¬ (0 : Int) ≤ x := by omega
      gi_wp2
      go_end0
      rw [List.take_of_length_le (by simp)] at hJs
      first
        | exact ⟨⟨_, rfl⟩, .inl ⟨_, rfl, hJs⟩⟩
        | exact ⟨⟨_, rfl⟩, .inl hJs⟩
    | succ q =>
      obtain rfl : x = (q : Int) := by omega
      have hql : q < L := by omega
      obtain ⟨E, hE⟩ : ∃ E, cs ⟨q, hql⟩ = E := ⟨_, rfl⟩
      obtain ⟨g, o, rfl, hg1, hg2, hrow⟩ := HROW.out ⟨q, hql⟩
      have hr1 := HW.out.rng hrow hg1 hg2
      rw [hE] at hr1
      have hr1 : wr.rangeAt g (o + q * 5) E := hr1
      have hpre : (List.finRange L).reverse.take (L - q) = (List.finRange L).reverse.take (L - (q + 1)) ++ [⟨q, hql⟩] := by
        have hlt : L - (q + 1) < (List.finRange L).reverse.length := by simp; omega
        rw [show L - q = (L - (q + 1)) + 1 by omega, List.take_succ_eq_append_getElem hlt, List.getElem_reverse]
        congr 1
        simp; omega
      obtain ⟨fn, tmps, assign, body, hy, hR⟩ := HY.out _ ⟨q, hql⟩ wr hJs (by simp; omega)
      have k0 := (HW.out.blk HB.out hB1 hB2).cell 0
      simp only [List.getElem?_cons_zero] at k0
      have HI := Lib.hid (show (Try.prog.info? 24).map (·.size) = some E.length from by rw [← hE, HCS.out]; exact Try.infoTm)
      have HH := Lib.hid hr1
      have HP := Lib.hid hpre
      have hq0 : (0 : Int) ≤ (q : Int) := by omega
      have hq1 : (q : Int) < (L : Int) := by omega
      simp only [hE] at hy
      clear hr1 hE hrow hpre hJs
      gi_wp2_with (with_reducible refine inL_load WideF.wide _ rfl 24 (.tmp 15) rfl g (o + q * 5) rfl E _ HH.out Try.underlying24 rfl HI.out ?_)
      refine hR.mono ?_
      rintro e W3 (⟨rfl, hJ3, hk3⟩ | ⟨rfl, hJx3⟩)
      · have HK3 := Lib.hid (And.intro hJ3 (HW.out.trans hk3))
        clear hJ3 hk3 k0
        gi_wp2
        go_roundw
        case rel => exact ⟨q, (q : Int) - 1, by omega, by go_num, by omega, by rw [HP.out]; exact HK3.out.1, Lib.hid HK3.out.2⟩
        case measure => simp [intOf] <;> omega
      · gi_wp2
        refine bodyPost_ret (results_none rfl _ _ _) rfl ?_
        exact ⟨⟨_, rfl⟩, .inr ⟨_, trivial, hJx3⟩⟩


/-- the pair, the list -/
def pairT (a b : Tm) : Tm := .mk 4 0 0 ⟨#[]⟩ [a, b]
def textE : Tm := .mk 1 0 0 ⟨#[]⟩ []
def listT (ts : List Tm) : Tm := ts.foldr pairT textE
theorem listT_fin (ts : List Tm) : ((List.finRange ts.length).reverse).foldl (fun t i => pairT ts[i] t) textE = listT ts := by
  rw [List.foldl_reverse]
  have e : (List.finRange ts.length).map (fun i => ts[i]) = ts := by apply List.ext_getElem <;> simp
  have h := List.foldr_map (f := fun i : Fin ts.length => ts[i]) (g := pairT) (l := List.finRange ts.length) (init := textE)
  rw [e] at h
  exact h.symm


/-- between two rounds: the list of what was gone through, in its box -/
structure ListI {L : Nat} (W0 : World) (lb rb : Nat) (f : Fin L → Tm) (pre : List (Fin L)) (W : World) : Prop where
  box : ∃ cs, Blk W lb 24 cs ∧ TmC (fun k => k ≠ lb ∧ k ≠ rb) W cs (pre.foldl (fun t i => pairT (f i) t) textE)
  keep : Ch (· = lb) W0 W
theorem ListI.own {L : Nat} (W0 : World) (lb rb : Nat) (f : Fin L → Tm) : OwnFrom W0.heap.size (ListI W0 lb rb f) := fun s W W' row hs hg hr => by
  obtain ⟨⟨cs, h1, h2⟩, h3⟩ := hs
  exact ⟨⟨cs, blk_own h1 hg (fun r e => (hr r e).2), h2.own hg (fun r e => (hr r e).2)⟩, ⟨hg.os.trans h3.os, hg.tape.trans h3.tape, hg.output.trans h3.output, Nat.le_trans h3.size hg.size, fun k hk hs => (hg.block k (Nat.lt_of_lt_of_le hk h3.size) (fun e => by have := (hr k e.symm).1; omega)).trans (h3.block k hk hs)⟩⟩

set_option maxRecDepth 100000 in
set_option maxHeartbeats 8000000 in
theorem list_any (ts : List Tm) (v : Value) (F : Nat → Prop) (w : World) (h : SlT F w v ts) (hn : ts.length ≤ 1000) :
    Calls Try.prog 25 #[v] w (fun e w' => ∃ cs F', e = .returned (.agg cs.toArray) ∧ TmC F' w' cs (listT ts) ∧ Below w.heap.size w w') := by
  obtain ⟨ao, c, rfl, -, -, -⟩ := id h
  have HS := Lib.hid h.old
  obtain ⟨L, hL⟩ : ∃ L, ts.length = L := ⟨_, rfl⟩
  obtain ⟨f, hf⟩ : ∃ f : Fin L → Tm, ∀ (i : Fin L) (hi : i.1 < ts.length), f i = ts[i.1] := ⟨fun i => ts[i.1]'(by rw [hL]; exact i.2), fun i hi => rfl⟩
  have hex : ∀ i : Fin L, ∃ cs : List Value, ∃ g o, ao = some ⟨g, o, none⟩ ∧ g < w.heap.size ∧ w.rangeAt g (o + i.1 * 5) cs ∧ TmC (· < w.heap.size) w cs (f i) := fun i => by
    obtain ⟨b, o, cs, e, h1, -, h2, h3⟩ := HS.out.get (j := i.1) (by rw [hL]; exact i.2)
    rw [← hf i (by rw [hL]; exact i.2)] at h3
    exact ⟨cs, b, o, e, h1, h2, h3⟩
  obtain ⟨cs, hcs⟩ := Classical.axiomOfChoice hex
  have HT := Lib.hid (show (List.finRange L).reverse.foldl (fun t i => pairT (f i) t) textE = listT ts from by
    subst hL
    rw [← listT_fin]
    congr 1
    funext t i
    rw [hf i i.2]; rfl)
  have HC := Lib.hid hcs
  have HL := Lib.hid (show L ≤ 1000 by omega)
  rw [hL]
  clear h hn hf hex hcs HS hL
  have hg := (by kernel_rfl : Try.prog.funcs[25]? = some Try.f25)
  refine callsIn_wide.1 (callsIn_of_wp_marks (F := Fence.wide) (n := 9) (fn := Try.f25) hg rfl trivial (wpIn_wide.2 ?_) rfl)
  simp only [Try.ntmps25, List.size_toArray, List.length_cons, List.length_nil, Nat.reduceAdd, Nat.reduceSub, Array.replicate_succ, Array.replicate_zero, List.push_toArray, List.append_toArray, List.nil_append, List.cons_append]
  clear hg
  go_wp2_with (with_reducible refine wpList_alloc_blk w rfl 24 rfl (tmC 0 0 0 ⟨#[]⟩ (.slice none 0 0)) Try.zeroTm ?_; intro w1 hb hbel hsz; have HB1 := Lib.hid (And.intro hb (And.intro hbel hsz)); clear hb hbel hsz)
  refine (text_any ⟨#[]⟩ w1).mono ?_
  rintro e w2 ⟨rfl, hb2⟩
  have HB2 := Lib.hid (show Blk w2 w.heap.size 24 (tmC 0 0 0 ⟨#[]⟩ (.slice none 0 0)) ∧ Below w.heap.size w w2 ∧ w.heap.size < w2.heap.size from ⟨HB1.out.1.below hb2 HB1.out.1.lt, below_thn HB1.out.2.1 hb2 (Nat.le_refl _), by have := HB1.out.2.2; have := hb2.size; omega⟩)
  clear hb2 HB1
  go_wp2_with (first
    | (with_reducible refine wpList_alloc_blk w2 rfl 24 rfl (tmC 0 0 0 ⟨#[]⟩ (.slice none 0 0)) Try.zeroTm ?_; intro w3 hb hbel hsz; have HB3 := Lib.hid (show Blk w3 w2.heap.size 24 (tmC 0 0 0 ⟨#[]⟩ (.slice none 0 0)) ∧ Blk w3 w.heap.size 24 (tmC 0 0 0 ⟨#[]⟩ (.slice none 0 0)) ∧ Below w.heap.size w w3 ∧ w2.heap.size < w3.heap.size from ⟨hb, HB2.out.1.below hbel HB2.out.1.lt, below_thn HB2.out.2.1 hbel (Nat.le_refl _), hb.lt⟩); clear hb hbel hsz)
    | ((with_reducible refine wpList_store_blk w3 rfl 24 (.tmp 3) (.tmp 6) rfl w2.heap.size 24 (tmC 0 0 0 ⟨#[]⟩ (.slice none 0 0)) (tmC 1 0 0 ⟨#[]⟩ (.slice none 0 0)) HB3.out.1 rfl rfl rfl (tmC_info _ _ _ _ _) (tmC_one _ _ _ _ _ _ _) ?_); intro w4 hb hc hs; have HB4 := Lib.hid (show Blk w4 w2.heap.size 24 (tmC 1 0 0 ⟨#[]⟩ (.slice none 0 0)) ∧ Blk w4 w.heap.size 24 (tmC 0 0 0 ⟨#[]⟩ (.slice none 0 0)) ∧ Below w.heap.size w w4 ∧ w4.heap.size = w3.heap.size from ⟨hb, HB3.out.2.1.keep hc (fun e => by have e : w.heap.size = w2.heap.size := e; have := HB2.out; omega), below_ch HB3.out.2.2.1 hc (Nat.le_refl _) (fun k hk => by have e : k = w2.heap.size := hk; have := HB2.out; omega), hs⟩); clear hb hc hs))
  refine (backw_any _ _ _ w4).mono ?_
  rintro e W0 ⟨rfl, hbs, hb0⟩
  obtain ⟨lb, hlb⟩ : ∃ lb, w2.heap.size = lb := ⟨_, rfl⟩
  obtain ⟨Bs, hBs⟩ : ∃ Bs, w4.heap.size = Bs := ⟨_, rfl⟩
  have HP := Lib.hid (show Blk W0 lb 24 (tmC 1 0 0 ⟨#[]⟩ (.slice none 0 0)) ∧ Blk W0 w.heap.size 24 (tmC 0 0 0 ⟨#[]⟩ (.slice none 0 0)) ∧ Below w.heap.size w W0 ∧ Blk W0 Bs 22 [.slice ao L c] ∧ w.heap.size < lb ∧ lb < Bs ∧ Bs < W0.heap.size from
    ⟨by rw [← hlb]; exact HB4.out.1.below hb0 HB4.out.1.lt, HB4.out.2.1.below hb0 HB4.out.2.1.lt, below_thn HB4.out.2.2.1 hb0 (Nat.le_refl _), by rw [← hBs]; exact hbs, by have := HB2.out; omega, by have := HB3.out; have := HB4.out; omega, by rw [← hBs]; exact hbs.lt⟩)
  have HE := Lib.hid (show ∀ i : Fin L, TmC (fun k => k ≠ lb ∧ k ≠ w.heap.size) W0 (cs i) (f i) from fun i => by
    obtain ⟨g, o, -, -, -, h⟩ := HC.out i
    exact (h.below HP.out.2.2.1).mono fun k hk => by have := HP.out.2.2.2.2.1; have hk : k < w.heap.size := hk; exact ⟨by omega, by omega⟩)
  have HST := back_stops L cs (fun i => by obtain ⟨g, o, -, -, -, h⟩ := HC.out i; exact h.len) HL.out W0.heap.size lb Bs ao c W0 (Nat.le_refl _) HP.out.2.2.2.1 HP.out.2.2.2.2.2.2 (by have := HP.out; omega) (fun i => by
    obtain ⟨g, o, e, hg, hr, -⟩ := HC.out i
    exact ⟨g, o, e, by have := HP.out; omega, by have := HP.out; omega, rangeW_below hr HP.out.2.2.1⟩)
  have HST := Lib.hid HST
  rw [hlb, hBs]
  clear hbs hb0 hlb hBs HB2 HB3 HB4
  go_wp2_with fail

  refine (wpIn_wide (n := 9)).1 ?_
  refine wpIn_rangeFunc_ownH (F := Fence.wide) rfl (by omega) (gf := 69) (lb := #[.pointer (some ⟨Bs, 0, none⟩)]) rfl trivial (enters_of Try.func69 (by kernel_rfl) rfl)
    HST.out Kq.trans (fun W l o o' h1 h2 h3 h4 => Kq.putObj (w := W0) (Nat.le_refl _) W l o o' h1 h2 h3 h4) (Below.refl _ _) (fun _ => rfl)
    (ListI W0 lb w.heap.size f) (fun _ _ _ => False) (ListI.own W0 lb w.heap.size _) (fun _ _ _ _ _ h _ _ => h) ⟨⟨_, HP.out.1, TmC_iff.2 ⟨_, rfl, SlT.nil _ _⟩⟩, Ch.refl _ _⟩
    (fun y a' W => ∃ Bx, W0.heap.size ≤ Bx ∧ Blk W Bx 24 (cs y) ∧ a' = { tmps := #[.slice ao L c, undef, .pointer (some ⟨w.heap.size, 0, none⟩), .pointer (some ⟨lb, 0, none⟩), undef, .pointer (some ⟨Bx, 0, none⟩), .agg (tmC 1 0 0 ⟨#[]⟩ (.slice none 0 0)).toArray, .slice ao L c, .func (.func 69) #[] #[.pointer (some ⟨Bs, 0, none⟩)], .int .i64 y.1, .agg (cs y).toArray, undef, undef, undef, undef], defers := [] })
    (fun x a' _ X Y row hs hg hr => by obtain ⟨Bx, h1, h2, h3⟩ := hs; exact ⟨Bx, h1, blk_own h2 hg (fun r e => (hr r e).2), h3⟩)
    ?assign ?body ?done ?stop
  case assign =>
    rintro l pre y W K hI hK
    have hty : ∃ ty : Tm, TmC (fun k => k ≠ lb ∧ k ≠ w.heap.size) W (cs y) ty := ⟨_, (HE.out y).keep hI.keep (fun k hk e => hk.1 e)⟩
    obtain ⟨ty, hty⟩ := hty
    obtain ⟨oy, cy, hcy, -, -, -⟩ := hty.shape
    have HCY := Lib.hid (show (cs y).length = (tmC 0 0 0 ⟨#[]⟩ (.slice none 0 0)).length ∧ (Try.prog.info? 24).map (·.size) = some (cs y).length ∧ ∀ v ∈ cs y, v.oneCell' = true from by rw [hcy]; exact ⟨rfl, tmC_info _ _ _ _ _, tmC_one _ _ _ _ _ _ _⟩)
    have HW := Lib.hid hI
    clear hI hty hcy
    rw [zip2, foldl2]
    simp only [List.setIfInBounds_toArray, List.set_cons_zero, List.set_cons_succ]
    gi_wp2_with (first
      | ((with_reducible refine inL_alloc (WideF.round l) W rfl 24 rfl (tmC 0 0 0 ⟨#[]⟩ (.slice none 0 0)) Try.zeroTm ?_); intro W1 hb hbel hsz; have HB1 := Lib.hid (And.intro hb hbel); clear hb hbel hsz)
      | ((with_reducible refine inL_store (WideF.round l) W1 rfl 24 (.tmp 5) (.tmp 10) rfl W.heap.size 24 (tmC 0 0 0 ⟨#[]⟩ (.slice none 0 0)) (cs y) HB1.out.1 rfl rfl HCY.out.1 HCY.out.2.1 HCY.out.2.2 ?_); intro W2 hb hc hs; have HB2 := Lib.hid (And.intro hb (below_ch HB1.out.2 hc (Nat.le_refl _) (fun k hk => by have : k = W.heap.size := hk; omega))); clear hb hc hs))
    have h4 : Ch (fun _ => False) W W2 := Ch.of_below HB2.out.2 (Nat.le_refl _)
    obtain ⟨ds, hbx, htm⟩ := HW.out.box
    exact hK _ _ ⟨h4.size, fun k o _ hk ho => (h4.block k (Array.getElem?_eq_some_iff.1 hk).1 id).trans hk⟩ (fun k hk _ => h4.block k (by have := HW.out.keep.size; omega) id) ⟨⟨ds, hbx.keep h4 id, htm.keep h4 (fun _ _ h => h)⟩, HW.out.keep.trans (h4.mono (fun _ h => h.elim))⟩ ⟨W.heap.size, HW.out.keep.size, HB2.out.1, rfl⟩
  case body =>
    rintro l pre y a' W hl - hI ⟨Bx, hBx, bX, rfl⟩ hlt
    obtain ⟨ds, hbx, htm⟩ := hI.box
    have hty := (HE.out y).keep hI.keep (fun k hk e => hk.1 e)
    obtain ⟨oy, cy, hcy, -, -, -⟩ := hty.shape
    obtain ⟨od, cd, hcd, -, -, -⟩ := htm.shape
    have HN := Lib.hid (show TmC (fun k => k ≠ lb ∧ k ≠ w.heap.size) W (cs y) (f y) ∧ TmC (fun k => k ≠ lb ∧ k ≠ w.heap.size) W ds (pre.foldl (fun t i => pairT (f i) t) textE) from ⟨hty, htm⟩)
    have HW := Lib.hid (And.intro hI.keep (And.intro hbx bX))
    have HFO := Lib.hid (show (pre ++ [y]).foldl (fun t i => pairT (f i) t) textE = pairT (f y) (pre.foldl (fun t i => pairT (f i) t) textE) from by rw [List.foldl_append]; rfl)
    clear hI hty htm hbx bX
    generalize pre.foldl (fun t i => pairT (f i) t) textE = td at hcd HN HFO ⊢
    rw [hcy] at HN HW ⊢
    rw [hcd] at HN HW
    clear hcy hcd
    generalize (f y).ks.length = my at HN HW ⊢
    generalize (f y).k = ky at HN HW ⊢
    generalize (f y).u = uy at HN HW ⊢
    generalize (f y).n = ny at HN HW ⊢
    generalize (f y).s = sy at HN HW ⊢
    generalize td.ks.length = md at HN HW ⊢
    generalize td.k = kd at HN HW ⊢
    generalize td.u = ud at HN HW ⊢
    generalize td.n = nd at HN HW ⊢
    generalize td.s = sd at HN HW ⊢
    have HRX := Lib.hid (rangeW_blk HW.out.2.2)
    have HRB := Lib.hid (rangeW_blk HW.out.2.1)
    gi_wp2_with (first
      | (with_reducible refine inL_load (WideF.round l) W rfl 24 (.tmp 5) rfl Bx 0 rfl (tmC ky uy ny sy (.slice oy my cy)) _ HRX.out Try.underlying24 rfl (tmC_info _ _ _ _ _) ?_)
      | (with_reducible refine inL_load (WideF.round l) W rfl 24 (.tmp 3) rfl lb 0 rfl (tmC kd ud nd sd (.slice od md cd)) _ HRB.out Try.underlying24 rfl (tmC_info _ _ _ _ _) ?_))
    refine ⟨trivial, ?_⟩
    refine (CallsIn.inRound l (callsIn_wide.2 (pair_any ky uy ny sy oy my cy kd ud nd sd od md cd W))).mono ?_
    rintro e w5 ⟨b, rfl, hbb, hbw, hb5⟩
    have H5 := Lib.hid (show Below W.heap.size W w5 ∧ Blk w5 lb 24 (tmC kd ud nd sd (.slice od md cd)) ∧ TmC (fun k => k ≠ lb ∧ k ≠ w.heap.size) w5 (tmC 4 0 0 ⟨#[]⟩ (.slice (some ⟨b, 0, none⟩) 2 2)) (pairT (f y) td) from ⟨hb5, HW.out.2.1.below hb5 HW.out.2.1.lt, TwoP.tm (w := W) hbb (by have := HW.out.2.1.lt; have := HW.out.1.size; have := HP.out; exact ⟨by omega, by omega⟩) (HN.out.1.below hb5) (HN.out.2.below hb5)⟩)
    clear hbb hb5
    gi_wp2_with (((with_reducible refine inL_store (WideF.round l) w5 rfl 24 (.tmp 3) (.tmp 13) rfl lb 24 (tmC kd ud nd sd (.slice od md cd)) (tmC 4 0 0 ⟨#[]⟩ (.slice (some ⟨b, 0, none⟩) 2 2)) H5.out.2.1 rfl rfl rfl (tmC_info _ _ _ _ _) (tmC_one _ _ _ _ _ _ _) ?_); intro w6 hb hc hs; have H6 := Lib.hid (And.intro hb hc); clear hb hc hs))
    have hch : Ch (· = lb) W w6 := (Ch.of_below H5.out.1 (Nat.le_refl _)).trans H6.out.2
    refine ⟨kf_of hch.size (fun k hk h => hch.block k hk h) (blk_cells HW.out.2.1), fun k hk h => hch.block k (by have := HW.out.1.size; omega) h, ⟨⟨_, H6.out.1, ?_⟩, HW.out.1.trans hch⟩⟩
    rw [HFO.out]
    exact H5.out.2.2.keep H6.out.2 (fun k hk e => hk.1 e)
  case done =>
    rintro D xs W hD rfl hI hK
    obtain ⟨ds, hbx, htm⟩ := hI.box
    rw [HT.out] at htm
    obtain ⟨od, cd, hcd, -, -, -⟩ := htm.shape
    have hrb := HP.out.2.1.keep hI.keep (fun e => by have := HP.out; have e : w.heap.size = lb := e; omega)
    have HW := Lib.hid (show Ch (· = lb) W0 W ∧ Blk W lb 24 ds ∧ Blk W w.heap.size 24 (tmC 0 0 0 ⟨#[]⟩ (.slice none 0 0)) ∧ TmC (fun k => k ≠ lb ∧ k ≠ w.heap.size) W ds (listT ts) ∧ W.heap[D]? = some (.deferred (some [])) from ⟨hI.keep, hbx, hrb, htm, hK⟩)
    rw [hcd] at HW
    clear hI hbx hrb htm hK hcd
    generalize (listT ts).ks.length = md at HW ⊢
    generalize (listT ts).k = kd at HW ⊢
    generalize (listT ts).u = ud at HW ⊢
    generalize (listT ts).n = nd at HW ⊢
    generalize (listT ts).s = sd at HW ⊢
    have HRB := Lib.hid (rangeW_blk HW.out.2.1)
    go_wp2_with (first
      | (with_reducible refine wpList_load_any rfl 24 (.tmp 3) rfl lb 0 rfl (tmC kd ud nd sd (.slice od md cd)) _ HRB.out Try.underlying24 rfl (tmC_info _ _ _ _ _) ?_)
      | ((with_reducible refine wpList_store_blk W rfl 24 (.tmp 2) (.tmp 14) rfl w.heap.size 24 (tmC 0 0 0 ⟨#[]⟩ (.slice none 0 0)) (tmC kd ud nd sd (.slice od md cd)) HW.out.2.2.1 rfl rfl rfl (tmC_info _ _ _ _ _) (tmC_one _ _ _ _ _ _ _) ?_); intro w9 hb hc hs; have H9 := Lib.hid (And.intro hb hc); clear hb hc hs))
    have hK2 : w9.heap[D]? = some (.deferred (some [])) := (H9.out.2.block D (lt_of_block HW.out.2.2.2.2) (fun e => by have e : D = w.heap.size := e; have := HP.out; omega)).trans HW.out.2.2.2.2
    try rw [Exit.noGoto_ret]
    refine ⟨by simp, .inl ⟨_, _, rfl, run_takeDeferred hK2, ?_⟩⟩
    have hgr := grownBy_putObj' w9 D (.deferred none)
    have hrr : ∀ r, some D = some r → ∃ o : Obj, w9.heap[r]? = some o ∧ o.isCells = false := fun r e => by cases e; exact ⟨_, hK2, rfl⟩
    have hb5 := blk_own H9.out.1 hgr hrr
    have htm := ((HW.out.2.2.2.1.keep H9.out.2 (fun k hk e => hk.2 e)).own hgr hrr)
    refine ⟨_, results_blk Try.results25 _ _ w.heap.size _ _ rfl hb5 _ Try.underlying24 rfl (tmC_info _ _ _ _ _), _, _, rfl, htm, ?_⟩
    have hb6 : Below w.heap.size w w9 := below_ch (below_ch HP.out.2.2.1 HW.out.1 (Nat.le_refl _) (fun k hk => by have e : k = lb := hk; have := HP.out; omega)) H9.out.2 (Nat.le_refl _) (fun k hk => by have e : k = w.heap.size := hk; omega)
    exact hb6.grown hgr hb6.size (fun k e => by cases e; have := HP.out; omega)
  case stop =>
    rintro D c pre W _ _ h _
    exact h.elim

end Go.Proofs.Ytfenikoajadiaaa
