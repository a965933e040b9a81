/-
  Layer 5: rows of old terms that grow; term.Unlist, walked. Conditions: none.
-/
import Derived.Test.YtfenikoajadiaaaTmLa
namespace Go.Proofs.Ytfenikoajadiaaa
open Go Go.RowKit
set_option linter.unusedSimpArgs false
set_option linter.unusedVariables false


/-- an own row of terms that stand below lo -/
def KidJ (B lo : Nat) (v : Value) (ts : List Tm) (W : World) : Prop := ∃ css : List (List Value), W.ownsRow B 24 5 v ts.length css.flatten ∧ css.length = ts.length ∧ ∀ j (h1 : j < css.length) (h2 : j < ts.length), TmC (· < lo) W css[j] ts[j]
theorem KidJ.nil (B lo : Nat) (W : World) : KidJ B lo (.slice none 0 0) [] W := ⟨[], World.ownsRow_nil _ _ _ _, rfl, fun j h => absurd h (by simp)⟩
theorem KidJ.len5 {lo : Nat} {W : World} {css : List (List Value)} {ts : List Tm} (h : css.length = ts.length) (ht : ∀ j (h1 : j < css.length) (h2 : j < ts.length), TmC (· < lo) W css[j] ts[j]) : ∀ c ∈ css, c.length = 5 := fun c hc => by
  obtain ⟨j, hj, rfl⟩ := List.mem_iff_getElem.1 hc
  exact (ht j hj (by omega)).len
theorem KidJ.lt {B lo : Nat} {v : Value} {ts : List Tm} {W : World} (h : KidJ B lo v ts W) : ∀ k, v.ownBlock = some k → B ≤ k ∧ k < W.heap.size := by
  obtain ⟨css, h1, _⟩ := h; exact fun k hk => h1.lt k hk
theorem KidJ.keep {B lo : Nat} {S : Nat → Prop} {v : Value} {ts : List Tm} {W W' : World} (h : KidJ B lo v ts W) (hc : Ch S W W') (hS : ∀ k, (k < lo ∨ v.ownBlock = some k) → ¬ S k) : KidJ B lo v ts W' := by
  obtain ⟨css, h1, h2, h3⟩ := h
  exact ⟨css, own_ch h1 hc (fun k hk => hS k (.inr hk)), h2, fun j a b => (h3 j a b).keep hc (fun k hk => hS k (.inl hk))⟩
theorem KidJ.below {B lo : Nat} {v : Value} {ts : List Tm} {W W' : World} (h : KidJ B lo v ts W) (hb : Below W.heap.size W W') : KidJ B lo v ts W' := h.keep (Ch.of_below (S := fun _ => False) hb (Nat.le_refl _)) (fun _ _ h => h)
theorem KidJ.low {B B' lo lo' : Nat} {v : Value} {ts : List Tm} {W : World} (h : KidJ B lo v ts W) (hB : B' ≤ B) (hl : lo ≤ lo') : KidJ B' lo' v ts W := by
  obtain ⟨css, h1, h2, h3⟩ := h
  exact ⟨css, own_low h1 hB, h2, fun j a b => (h3 j a b).mono fun k hk => Nat.lt_of_lt_of_le hk hl⟩
theorem KidJ.slt {B lo : Nat} {v : Value} {ts : List Tm} {W : World} (h : KidJ B lo v ts W) : SlT (fun _ => True) W v ts := by
  obtain ⟨css, h1, h2, h3⟩ := h
  have h5 := KidJ.len5 h2 h3
  obtain ⟨hl, ⟨rfl, hn⟩ | ⟨g, cap, cur, rfl, hbg, hg, hnc, hcm, hcs, htake⟩⟩ := id h1
  · have : ts = [] := List.eq_nil_of_length_eq_zero hn
    subst this
    exact SlT.nil _ _
  · refine ⟨some ⟨g, 0, none⟩, cap, rfl, hnc, hcm, fun h0 => ⟨g, 0, rfl, trivial, lt_of_block hg, AtC.mk' fun j hj => ?_⟩⟩
    have hj' : j < css.length := by omega
    refine ⟨css[j], fun i u hu => ?_, (h3 j hj' hj).mono fun k hk => trivial⟩
    have hi : i < 5 := by have := (List.getElem?_eq_some_iff.1 hu).1; rw [h5 _ (List.getElem_mem hj')] at this; exact this
    have hc := h1.cells (g := g) rfl (j * 5 + i) u (by rw [flat_get h5 hj' hi]; exact hu)
    rw [Addr.add_lit, Nat.zero_add] at hc
    rw [Nat.zero_add]; exact hc
theorem KidJ.one {B lo b : Nat} {cs : List Value} {t : Tm} {W : World} (hb : Blk W b 24 cs) (hB : B ≤ b) (ht : TmC (· < lo) W cs t) : KidJ B lo (.slice (some ⟨b, 0, none⟩) 1 1) [t] W := by
  refine ⟨[cs], ⟨by simp [ht.len], .inr ⟨b, 1, cs.toArray, rfl, hB, hb, Nat.le_refl _, by unfold maxLen; omega, by simp [ht.len], by simp [ht.len, List.take_of_length_le]⟩⟩, rfl, fun j h1 h2 => ?_⟩
  match j, h1, h2 with
  | 0, _, _ => exact ht
/-- one old term behind the row -/
theorem wpList_append_J {w : World} {B lo : Nat} {ops : Array Oper} {rest : List Oper} {o : Oper} {a : Act} {Q : Exit → Act → World → Prop} (s x' : Operand) (hgd : o.guard = none)
    (ho : o.op = .call { callee := .builtin .append, args := #[s, x'], argTypes := #[22, 22] }) {v : Value} {ts : List Tm} (hI : KidJ B lo v ts w) (hs : a.eval s = v)
    {b : Nat} {cs : List Value} {t : Tm} (hx : a.eval x' = .slice (some ⟨b, 0, none⟩) 1 1) (hb : Blk w b 24 cs) (ht : TmC (· < lo) w cs t) (hn : ts.length ≤ 1000000) (hB : B ≤ w.heap.size) (hlo : lo ≤ B)
    (h : ∀ ao c w', KidJ B lo (.slice ao (ts ++ [t]).length c) (ts ++ [t]) w' → Ch (fun k => v.ownBlock = some k) w w' → wpList Try.prog ops Q rest (a.put o.dst (.slice ao (ts ++ [t]).length c)) w') :
    wpList Try.prog ops Q (o :: rest) a w := by
  have hlt := hI.lt
  obtain ⟨css, h1, h2, h3⟩ := hI
  obtain ⟨i0, hi, hz0, hz1, hz2⟩ := info_parts Try.infoTm5
  obtain ⟨ao1, c1, e1, -⟩ := ht.shape
  have hone : ∀ u ∈ cs, u.oneCell' = true := by rw [e1]; exact tmC_one _ _ _ _ _ _ _
  refine wpList_append_own_at w hgd s x' _ ho B 24 i0 (.agg (tmC 0 0 0 ⟨#[]⟩ (.slice none 0 0)).toArray) 5 64 Try.underlying22 hi hz0 hz1 hz2 rfl (by omega) v ts.length css.flatten hs h1 ⟨b, 0, none⟩ 1 1 cs hx (by rw [ht.len]) (fun j u hu => by have h := rangeW_blk hb j u hu; rw [Addr.add_lit]; exact h) hone (by unfold maxLen; omega) (by omega) hB ?_
  intro v' w' hown hgr _ hob
  obtain ⟨ao, c, rfl⟩ := own_shape hown
  have hl : ts.length + 1 = (ts ++ [t]).length := by simp
  rw [hl] at hown hob ⊢
  have hch := ch_row hgr
  have hold : ∀ (cs : List Value) (u : Tm), TmC (· < lo) w cs u → TmC (· < lo) w' cs u := fun cs u hu => hu.keep hch (fun k hk e => by have := (hlt k e).1; have hk : k < lo := hk; omega)
  refine h ao c w' ⟨css ++ [cs], ?_, by simp [h2], fun j a b => ?_⟩ hch
  · rw [List.flatten_append]; simpa using hown
  · by_cases hj : j < css.length
    · have e1 : (css ++ [cs])[j] = css[j] := List.getElem_append_left hj
      have e2 : (ts ++ [t])[j] = ts[j] := List.getElem_append_left (by omega)
      rw [e1, e2]
      exact hold _ _ (h3 j hj (by omega))
    · obtain rfl : j = css.length := by simp at a; omega
      have e1 : (css ++ [cs])[css.length] = cs := by simp
      have e2 : (ts ++ [t])[css.length] = t := by simp [h2]
      rw [e1, e2]
      exact hold _ _ ht


def pick2 (ks : List Tm) (rs : List (Option (List Tm))) : Option (List Tm) := match ks, rs with
  | [a, _], [_, r] => r.map (a :: ·)
  | _, _ => none
mutual
/-- the terms of a list that may be -/
def unl : Tm → Option (List Tm)
  | .mk k u n s ks => if k = 4 then pick2 ks (unlL ks) else if k = 1 ∧ s.size = 0 then some [] else none
def unlL : List Tm → List (Option (List Tm))
  | [] => []
  | t :: ts => unl t :: unlL ts
end
theorem unl_pair (u n : Int) (s : ByteArray) (a b : Tm) : unl (.mk 4 u n s [a, b]) = (unl b).map (a :: ·) := by
  rw [unl, if_pos rfl, unlL, unlL, unlL]; rfl
theorem unl_else {k u n : Int} {s : ByteArray} {ks : List Tm} (h : k ≠ 4) (hok : okT (.mk k u n s ks) = true) : unl (.mk k u n s ks) = if sameT (.mk k u n s ks) textE = true then some [] else none := by
  rw [unl, if_neg h]
  have e : (k = 1 ∧ s.size = 0) ↔ sameT (.mk k u n s ks) textE = true := by
    rw [sameT_iff]
    unfold textE
    rw [Tm.mk.injEq]
    constructor
    · rintro ⟨rfl, hs⟩
      rw [okT, Bool.and_eq_true] at hok
      have hp := plainB_iff.1 hok.1
      have h1 := hp.pl
      have h2 := hp.pu
      have h3 := hp.pn
      rw [if_neg (by decide)] at h2 h3
      refine ⟨rfl, h2, h3, ?_, List.eq_nil_of_length_eq_zero h1⟩
      exact ByteArray.ext (Array.eq_empty_of_size_eq_zero hs)
    · rintro ⟨rfl, -, -, rfl, -⟩
      exact ⟨rfl, rfl⟩
  by_cases hk : k = 1 ∧ s.size = 0
  · rw [if_pos hk, if_pos (e.1 hk)]
  · rw [if_neg hk, if_neg (fun h => hk (e.2 h))]
theorem okT_pair {u n : Int} {s : ByteArray} {ks : List Tm} (h : okT (.mk 4 u n s ks) = true) : ∃ a b, ks = [a, b] ∧ okT a = true ∧ okT b = true := by
  rw [okT, Bool.and_eq_true] at h
  have h1 : ks.length = 2 := (plainB_iff.1 h.1).pl
  match ks, h1 with
  | [a, b], _ =>
    have h2 := h.2
    rw [okTL, okTL, okTL, Bool.and_eq_true, Bool.and_eq_true] at h2
    exact ⟨a, b, rfl, h2.1, h2.2.1⟩
theorem nodes_pair (u n : Int) (s : ByteArray) (a b : Tm) : nodesT (.mk 4 u n s [a, b]) = 1 + (nodesT a + nodesT b) := by
  rw [nodesT, nodesTL, nodesTL, nodesTL]; omega
theorem nodes_pos (t : Tm) : 1 ≤ nodesT t := by
  obtain ⟨k, u, n, s, ks⟩ := t
  rw [nodesT]; omega
def unlS (t : Tm) : Option (List Tm) := if sizeT t = 0 then none else unl t
def UnlP (r : Option (List Tm)) (w : World) (e : Ending) (w' : World) : Prop :=
  (∃ ts ao c, r = some ts ∧ e = .returned (.tuple #[.slice ao ts.length c, .bool true]) ∧ KidJ w.heap.size w.heap.size (.slice ao ts.length c) ts w' ∧ Below w.heap.size w w') ∨
  (r = none ∧ e = .returned (.tuple #[.slice none 0 0, .bool false]) ∧ Below w.heap.size w w')
def lenV : Value → Nat
  | .slice _ n _ => n
  | _ => 0


set_option maxRecDepth 100000 in
set_option maxHeartbeats 8000000 in
theorem unlist_any (t : Tm) (cs : List Value) (F : Nat → Prop) (w : World) (ht : TmC F w cs t) : Calls Try.prog 26 #[.agg cs.toArray] w (UnlP (unlS t) w) := by
  obtain ⟨ao, c, rfl, -, -, -⟩ := ht.shape
  have HT := Lib.hid ht.old
  obtain ⟨z, hz⟩ : ∃ x, sizeT t = x := ⟨_, rfl⟩
  have EZ := Lib.hid hz
  obtain ⟨R, hR⟩ : ∃ R, unlS t = R := ⟨_, rfl⟩
  rw [hR]
  have HR := Lib.hid hR
  obtain ⟨N, hN⟩ : ∃ N, nodesT t = N := ⟨_, rfl⟩
  have HN := Lib.hid hN
  clear ht hz hR hN
  generalize t.ks.length = m at HT ⊢
  generalize t.k = k at HT ⊢
  generalize t.u = u at HT ⊢
  generalize t.n = n at HT ⊢
  generalize t.s = s at HT ⊢
  have H0 := Lib.hid (Below.refl w.heap.size w)
  by_cases h0 : z = 0
  · subst h0
    have ZZ := Lib.hid (show R = none from by rw [← HR.out]; unfold unlS; rw [if_pos EZ.out])
    go_enter Try.func26, Try.ntmps26
    go_wp2_with (first
    | ((with_reducible refine wpList_box_blk w rfl 24 (.tmp 0) rfl (tmC k u n s (.slice ao m c)) rfl ?_); intro a1 hb hbel hsz; have HA1 := Lib.hid (show Below w.heap.size w a1 ∧ Blk a1 w.heap.size 24 (tmC k u n s (.slice ao m c)) from ⟨below_thn H0.out hbel (Nat.le_refl _), hb⟩); clear hb hbel hsz)
    | (with_reducible refine wpList_load_any rfl 24 (.tmp 1) rfl w.heap.size 0 rfl (tmC k u n s (.slice ao m c)) _ (rangeW_blk HA1.out.2) Try.underlying24 rfl (tmC_info _ _ _ _ _) ?_))
    have hx := size_any t _ _ a1 (HT.out.below HA1.out.1)
    rw [EZ.out] at hx
    refine Calls.mono hx ?_
    clear hx
    rintro e' a2 ⟨rfl, hb⟩
    have HB := Lib.hid (below_thn HA1.out.1 hb (Nat.le_refl _))
    clear hb
    go_wp2_with fail
    refine bodyPost_ret (results_tmp2 Try.results26 _ _ _) rfl ?_
    exact .inr ⟨ZZ.out, rfl, HB.out⟩
  · have e1 : (z == 0) = false := by simpa using h0
    have HG := Lib.hid (sizeT_good (t := t) (by rw [EZ.out]; exact h0))
    have HU := Lib.hid (show unl t = R from by rw [← HR.out]; unfold unlS; rw [if_neg (by rw [EZ.out]; exact h0)])
    clear h0
    go_enter Try.func26, Try.ntmps26
    go_wp2_with (first
    | ((with_reducible refine wpList_box_blk w rfl 24 (.tmp 0) rfl (tmC k u n s (.slice ao m c)) rfl ?_); intro a1 hb hbel hsz; have HA1 := Lib.hid (show Below w.heap.size w a1 ∧ Blk a1 w.heap.size 24 (tmC k u n s (.slice ao m c)) from ⟨below_thn H0.out hbel (Nat.le_refl _), hb⟩); clear hb hbel hsz)
    | (with_reducible refine wpList_load_any rfl 24 (.tmp 1) rfl w.heap.size 0 rfl (tmC k u n s (.slice ao m c)) _ (rangeW_blk HA1.out.2) Try.underlying24 rfl (tmC_info _ _ _ _ _) ?_))
    have hx := size_any t _ _ a1 (HT.out.below HA1.out.1)
    rw [EZ.out] at hx
    refine Calls.mono hx ?_
    clear hx
    rintro e' a2 ⟨rfl, hb⟩
    have HB := Lib.hid (show Below w.heap.size w a2 ∧ Blk a2 w.heap.size 24 (tmC k u n s (.slice ao m c)) ∧ w.heap.size < a1.heap.size ∧ a1.heap.size ≤ a2.heap.size from ⟨below_thn HA1.out.1 hb (Nat.le_refl _), HA1.out.2.below hb HA1.out.2.lt, HA1.out.2.lt, hb.size⟩)
    clear hb
    have HGL := Lib.hid (show w.heap.size < a1.heap.size from HB.out.2.2.1)
    have HSTART := Lib.hid (show TmC (· < w.heap.size) a2 (tmC k u n s (.slice ao m c)) t from HT.out.below HB.out.1)
    go_wp2_with fail
    go_loopw [4] (fun q wr => ∃ (oz : Option Addr) (nz pz : Nat) (ts : List Tm) (tc : Tm) (k u n : Int) (s : ByteArray) (ao : Option Addr) (m c : Nat), q = .slice oz nz pz ∧ ts.length = nz ∧ KidJ a1.heap.size w.heap.size (.slice oz nz pz) ts wr ∧ Hid (okT tc = true ∧ (unl tc).map (ts ++ ·) = R ∧ ts.length + nodesT tc ≤ N) ∧ Hid (Blk wr w.heap.size 24 (tmC k u n s (.slice ao m c)) ∧ TmC (· < w.heap.size) wr (tmC k u n s (.slice ao m c)) tc ∧ Below w.heap.size w wr ∧ a1.heap.size ≤ wr.heap.size)) (fun q _ => N - lenV q)
    case atStart => exact ⟨none, 0, 0, [], t, _, _, _, _, _, _, _, rfl, rfl, KidJ.nil _ _ _, Lib.hid ⟨HG.out.1, by rw [HU.out]; cases R <;> simp, by rw [HN.out]; simp⟩, Lib.hid ⟨HB.out.2.1, HSTART.out, HB.out.1, HB.out.2.2.2⟩⟩
    case round =>
      obtain ⟨oz, nz, pz, ts, tc, k, u, n, s, ao, m, c, rfl, hnz, KR, HRL, HZ⟩ := hrel
      clear HB HSTART HA1 HT e1
      have c0 := HZ.out.1.cell 0
      have c4 := HZ.out.1.cell 4
      simp only [tmC, List.getElem?_cons_zero, List.getElem?_cons_succ] at c0 c4
      by_cases hk : k = 4
      · subst hk
        obtain ⟨k1, u1, n1, s1, ks1⟩ := tc
        obtain ⟨ao', c', e2, -, -, hsl⟩ := HZ.out.2.1.shape
        simp only [tmC, Tm.k, Tm.u, Tm.n, Tm.s, Tm.ks, List.cons.injEq, Value.int.injEq, Value.string.injEq, Value.slice.injEq, and_true, true_and] at e2 hsl
        obtain ⟨e3, e4, e5, e6, e7, e8, e9⟩ := e2
        subst e3 e4 e5 e6 e7 e8 e9
        obtain ⟨ta, tb, rfl, oka, okb⟩ := okT_pair HRL.out.1
        have hl0 : 0 < ([ta, tb] : List Tm).length := by simp
        have hl1 : 1 < ([ta, tb] : List Tm).length := by simp
        obtain ⟨b, o', csa, rfl, -, -, hra, hta⟩ := hsl.get hl0
        obtain ⟨b', o'', csb, hbo, -, -, hrb, htb⟩ := hsl.get hl1
        simp only [Option.some.injEq, Addr.mk.injEq, and_true] at hbo
        obtain ⟨rfl, rfl⟩ := hbo
        rw [Nat.zero_mul, Nat.add_zero] at hra
        rw [Nat.one_mul] at hrb
        replace hta : TmC (· < w.heap.size) wr csa ta := hta
        replace htb : TmC (· < w.heap.size) wr csb tb := htb
        obtain ⟨aa, ca, rfl, -, -, -⟩ := hta.shape
        obtain ⟨ab, cb, rfl, -, -, -⟩ := htb.shape
        have HAB := Lib.hid (show wr.rangeAt b o' (tmC ta.k ta.u ta.n ta.s (.slice aa ta.ks.length ca)) ∧ wr.rangeAt b (o' + 5) (tmC tb.k tb.u tb.n tb.s (.slice ab tb.ks.length cb)) ∧ TmC (· < w.heap.size) wr (tmC ta.k ta.u ta.n ta.s (.slice aa ta.ks.length ca)) ta ∧ TmC (· < w.heap.size) wr (tmC tb.k tb.u tb.n tb.s (.slice ab tb.ks.length cb)) tb from ⟨hra, hrb, hta, htb⟩)
        have HBL := Lib.hid (show b < w.heap.size ∧ okT tb = true ∧ (unl tb).map ((ts ++ [ta]) ++ ·) = R ∧ (ts ++ [ta]).length + nodesT tb ≤ N ∧ ts.length ≤ 1200 ∧ nz < N from by
          refine ⟨?_, okb, ?_, ?_, ?_, ?_⟩
          · obtain ⟨b2, o2, cs2, e, hF, -⟩ := hsl.get hl0
            simp only [Option.some.injEq, Addr.mk.injEq, and_true] at e
            rw [e.1]; exact hF
          · rw [← HRL.out.2.1, unl_pair, Option.map_map]
            congr 1
            funext r; simp
          · have h := HRL.out.2.2; rw [nodes_pair] at h; have := nodes_pos ta; simp; omega
          · have h := HRL.out.2.2; have := HG.out.2.2.1; rw [HN.out] at this; omega
          · have h := HRL.out.2.2; rw [nodes_pair] at h; omega)
        clear hra hrb hta htb
        clear hsl hl0 hl1 oka okb
        have HLT := Lib.hid (show ts.length ≤ 1000000 from by have := HBL.out; omega)
        have HLO := Lib.hid (show w.heap.size ≤ a1.heap.size from by have := HGL.out; omega)
        go_wp2_with (first
    | (with_reducible refine wpList_load_any rfl 24 (.tmp 14) rfl b o' rfl _ _ HAB.out.1 Try.underlying24 rfl (tmC_info _ _ _ _ _) ?_)
    | ((with_reducible refine wpList_slice_t1 wr rfl (.tmp 15) rfl (tmC ta.k ta.u ta.n ta.s (.slice aa ta.ks.length ca)) rfl rfl ?_); intro b2 hb hbel hsz; have K2 := KR.below hbel; have HN2 := Lib.hid (show Blk b2 wr.heap.size 24 (tmC ta.k ta.u ta.n ta.s (.slice aa ta.ks.length ca)) ∧ TmC (· < w.heap.size) b2 (tmC ta.k ta.u ta.n ta.s (.slice aa ta.ks.length ca)) ta ∧ Below wr.heap.size wr b2 ∧ a1.heap.size ≤ b2.heap.size from ⟨hb, HAB.out.2.2.1.below hbel, hbel, Nat.le_trans HZ.out.2.2.2 hbel.size⟩); clear hb hbel hsz)
    | (at_builtin; (refine wpList_append_J (.tmp 11) (.tmp 16) rfl rfl K2 rfl rfl HN2.out.1 HN2.out.2.1 HLT.out HN2.out.2.2.2 HLO.out ?_); intro oy py b3 K3 hc; have HC3 := Lib.hid (show ∀ q, Ch (fun k => (Value.slice oz nz pz).ownBlock = some k) b2 b3 ∧ (q < a1.heap.size → ¬ (Value.slice oz nz pz).ownBlock = some q) from fun q => ⟨hc, fun hq e => by have := (KR.lt q e).1; omega⟩); have HB3 := Lib.hid (show b3.rangeAt b (o' + 5) (tmC tb.k tb.u tb.n tb.s (.slice ab tb.ks.length cb)) ∧ TmC (· < w.heap.size) b3 (tmC tb.k tb.u tb.n tb.s (.slice ab tb.ks.length cb)) tb ∧ Blk b3 w.heap.size 24 (tmC 4 u n s (.slice (some ⟨b, o', none⟩) 2 c)) ∧ Below w.heap.size w b3 ∧ a1.heap.size ≤ b3.heap.size from ⟨rangeW_ch (rangeW_below HAB.out.2.1 HN2.out.2.2.1) hc ((HC3.out b).2 (by have := HBL.out.1; have := HGL.out; omega)), (HAB.out.2.2.2.below HN2.out.2.2.1).keep hc (fun k hk e => (HC3.out k).2 (by have := HGL.out; have hk : k < w.heap.size := hk; omega) e), (HZ.out.1.below HN2.out.2.2.1 HZ.out.1.lt).keep hc ((HC3.out _).2 HGL.out), below_ch (below_thn HZ.out.2.2.1 HN2.out.2.2.1 (Nat.le_refl _)) hc (Nat.le_refl _) (fun k hk => by have := (KR.lt k hk).1; have := HGL.out; omega), by have := HN2.out.2.2.2; have := hc.size; omega⟩); clear hc c0 c4; have c4 := HB3.out.2.2.1.cell 4; simp only [tmC, List.getElem?_cons_zero, List.getElem?_cons_succ] at c4)
    | (with_reducible refine wpList_load_any rfl 24 (.tmp 20) rfl b (o' + 5) rfl (tmC tb.k tb.u tb.n tb.s (.slice ab tb.ks.length cb)) _ HB3.out.1 Try.underlying24 rfl (tmC_info _ _ _ _ _) ?_)
    | ((with_reducible refine wpList_store_blk b3 rfl 24 (.tmp 1) (.tmp 21) rfl w.heap.size 24 (tmC 4 u n s (.slice (some ⟨b, o', none⟩) 2 c)) (tmC tb.k tb.u tb.n tb.s (.slice ab tb.ks.length cb)) HB3.out.2.2.1 rfl rfl rfl (tmC_info _ _ _ _ _) (tmC_one _ _ _ _ _ _ _) ?_); intro b4 hb hc hs; have HB4 := Lib.hid (And.intro hb hc); clear hb hc hs))
        go_roundw
        case rel => exact ⟨oy, _, py, ⟨rfl, rfl, rfl⟩, ts ++ [ta], by rw [List.length_append, hnz]; rfl, by
            have k := K3.keep HB4.out.2 (fun k hk e => by
              have e : k = w.heap.size := e
              rcases hk with hk | hk
              · omega
              · have := (K3.lt k hk).1; have := HGL.out; omega)
            rw [List.length_append, hnz] at k
            exact k, tb, Lib.hid ⟨HBL.out.2.1, HBL.out.2.2.1, HBL.out.2.2.2.1⟩, _, _, _, _, _, _, _, Lib.hid ⟨HB4.out.1, HB3.out.2.1.keep HB4.out.2 (fun k hk e => by have e : k = w.heap.size := e; have hk : k < w.heap.size := hk; omega), below_ch HB3.out.2.2.2.1 HB4.out.2 (Nat.le_refl _) (fun k hk => by have e : k = w.heap.size := hk; omega), by have := HB3.out.2.2.2.2; have := HB4.out.2.size; omega⟩⟩
        case measure => have := HBL.out; simp [lenV]; omega
      · have ek : (k == 4) = false := by simpa using hk
        have HE := Lib.hid (show (if sameT tc textE = true then some ts else none) = R from by
          rw [← HRL.out.2.1]
          obtain ⟨k1, u1, n1, s1, ks1⟩ := tc
          obtain ⟨ao', c', e2, -⟩ := HZ.out.2.1.shape
          simp only [tmC, Tm.k, List.cons.injEq, Value.int.injEq, true_and] at e2
          rw [unl_else (by rw [← e2.1]; exact hk) HRL.out.1]
          split <;> simp)
        clear hk
        obtain ⟨sm, hsm⟩ : ∃ x, sameT tc textE = x := ⟨_, rfl⟩
        have HSM := Lib.hid hsm
        rw [hsm] at HE
        clear hsm
        have HX := Lib.hid (show Below w.heap.size w wr ∧ Blk wr w.heap.size 24 (tmC k u n s (.slice ao m c)) ∧ Below wr.heap.size wr wr from ⟨HZ.out.2.2.1, HZ.out.1, Below.refl _ _⟩)
        go_wp2_with fail
        refine wp_region_takes (fun w' => w'.rangeAt w.heap.size 0 (tmC k u n s (.slice ao m c))) [0] 3 (by kernel_rfl) rfl (by kernel_rfl) (by kernel_rfl) (rangeW_blk HX.out.2.1) ?_
        iterate 1 (refine' HeldL.run ?_ ?_ ?_ ?_; rotate_left 2; (simp only [List.getElem?_toArray, List.getElem?_cons_zero, List.getElem?_cons_succ]; rfl); rfl; (rintro w' k0; exact exec_load_mid rfl rfl k0 Try.underlying24 rfl (tmC_info _ _ _ _ _)); simp only [Act.put, List.setIfInBounds_toArray, List.set_cons_zero, List.set_cons_succ])
        have sm := (Sm.refl wr).drew
        have HV2 := Lib.hid (show Below w.heap.size w wr.drew ∧ Blk wr.drew w.heap.size 24 (tmC k u n s (.slice ao m c)) ∧ Below wr.heap.size wr wr.drew from ⟨below_thn HX.out.1 (sm.below _) (Nat.le_refl _), HX.out.2.1.below (sm.below _) HX.out.2.1.lt, below_thn HX.out.2.2 (sm.below _) (Nat.le_refl _)⟩)
        clear sm
        generalize wr.drew = v1 at HV2 ⊢
        refine' wpAnyH_one 1 (by kernel_rfl) ?_ ?_; rotate_left; (simp only [List.getElem?_toArray, List.getElem?_cons_zero, List.getElem?_cons_succ]; rfl)
        try simp only [Act.put]
        go_wp2_with fail
        have hx := text_any ⟨#[]⟩ v1
        refine Calls.mono hx ?_
        clear hx
        rintro e' y3 ⟨rfl, hb⟩
        have HY4 := Lib.hid (show Below w.heap.size w y3 ∧ Blk y3 w.heap.size 24 (tmC k u n s (.slice ao m c)) ∧ Below wr.heap.size wr y3 from ⟨below_thn HV2.out.1 hb (Nat.le_refl _), HV2.out.2.1.below hb HV2.out.2.1.lt, below_thn HV2.out.2.2 hb (Nat.le_refl _)⟩)
        clear hb
        go_wp2_with fail
        refine QK.normal ⟨(rangeW_blk HY4.out.2.1), ?_⟩
        refine' wpAnyH_one 2 (by kernel_rfl) ?_ ?_; rotate_left; (simp only [List.getElem?_toArray, List.getElem?_cons_zero, List.getElem?_cons_succ]; rfl)
        try simp only [Act.put]
        go_wp2_with fail
        have hx := same_any5 tc textE _ _ _ (fun _ => True) y3 (HZ.out.2.1.keep (Ch.of_below (S := fun _ => False) (below_thn HY4.out.2.2 (Below.refl _ _) (Nat.le_refl _)) (Nat.le_refl _)) (fun _ _ h => h)) (TmC_iff.2 ⟨_, rfl, SlT.nil _ _⟩)
        rw [HSM.out] at hx
        refine Calls.mono hx ?_
        clear hx
        rintro e' y5 ⟨rfl, hb⟩
        have HY6 := Lib.hid (show Below w.heap.size w y5 ∧ Blk y5 w.heap.size 24 (tmC k u n s (.slice ao m c)) ∧ Below wr.heap.size wr y5 from ⟨below_thn HY4.out.1 hb (Nat.le_refl _), HY4.out.2.1.below hb HY4.out.2.1.lt, below_thn HY4.out.2.2 hb (Nat.le_refl _)⟩)
        clear hb
        go_wp2_with fail
        refine QK.normal ⟨(rangeW_blk HY6.out.2.1), ?_⟩
        refine' wpAnyH_one 3 (by kernel_rfl) ?_ ?_; rotate_left; (simp only [List.getElem?_toArray, List.getElem?_cons_zero, List.getElem?_cons_succ]; rfl)
        try simp only [Act.put]
        go_wp2_with fail
        refine QK.normal ⟨(rangeW_blk HY6.out.2.1), ?_⟩
        refine wpAnyH_done (by kernel_rfl) ?_ _
        refine NoPanic.normal ?_
        cases sm
        · go_wp2_with fail
          refine bodyPost_ret (results_tmp2 Try.results26 _ _ _) rfl ?_
          exact .inr ⟨HE.out.symm, rfl, HY6.out.1⟩
        · go_wp2_with fail
          refine bodyPost_ret (results_tmp2 Try.results26 _ _ _) rfl ?_
          subst hnz
          exact .inl ⟨ts, oz, pz, HE.out.symm, rfl, (KR.keep (Ch.of_below (S := fun _ => False) HY6.out.2.2 (Nat.le_refl _)) (fun _ _ h => h)).low (Nat.le_of_lt HGL.out) (Nat.le_refl _), HY6.out.1⟩


end Go.Proofs.Ytfenikoajadiaaa
