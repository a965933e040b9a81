/-
  The reference's disk: Ask that writes, walked. Conditions: numbers of their kinds; at most 2^30 lines.
-/
import Derived.Test.YticcjaccpcnjhaaRdH
namespace Go.Proofs.Yticcjaccpcnjhaa
open Go Go.RowKit
set_option linter.unusedSimpArgs false

theorem build_ln (i : Int) (b : List Int) (hb : IsB b) : ∀ w, (Instr.build 81 #[(0, .int .i64 i), (1, .agg (ofK .u8 b).toArray)]).run Try.prog w = .ok (.agg (wrC (i, b)).toArray) w := fun w =>
  run_build_head (P := Try.prog) (zs := (.int .i64 0 :: ofK .u8 zer).toArray) (n := 64) Try.underlying81 rfl rfl (fun w => by kernel_rfl) (fun w => by kernel_rfl) (fun w => by kernel_rfl) (by kernel_rfl) (.int .i64 i) rfl (ofK .u8 b) (by rw [length_ofK, hb.1]) w

/-- three are ready -/
theorem wpAnyH_three {P : Program} {ops : Array Oper} {md : Region.Mode} {Q : Exit → Act → World → Prop} {S : World → Prop} (i j m : Nat) {o p q : Oper} {fuel : Nat} {listed : Array Bool} {a : Act} {w : World} (hr : Region.ready md ops listed = [i, j, m]) (ho : ops[i]? = some o) (hp : ops[j]? = some p) (hq : ops[m]? = some q)
    (h : wpList P ops (QK Q (fun a' w' => S w' ∧ wpAnyH P md ops Q S fuel (listed.setIfInBounds i true) a' w')) [o] a w)
    (k : wpList P ops (QK Q (fun a' w' => S w' ∧ wpAnyH P md ops Q S fuel (listed.setIfInBounds j true) a' w')) [p] a w)
    (l : wpList P ops (QK Q (fun a' w' => S w' ∧ wpAnyH P md ops Q S fuel (listed.setIfInBounds m true) a' w')) [q] a w) : wpAnyH P md ops Q S (fuel + 1) listed a w :=
  wpAnyH_all hr (by simp) (fun n hn => by
    rcases (show n = i ∨ n = j ∨ n = m by simpa using hn) with rfl | rfl | rfl
    · exact wpOp_of_list ho h
    · exact wpOp_of_list hp k
    · exact wpOp_of_list hq l)

/-- an empty row of lines, made -/
theorem wpList_slice_none (w : World) {ops : Array Oper} {rest : List Oper} {o : Oper} {a : Act} {Q : Exit → Act → World → Prop} (hgd : o.guard = none) (ho : o.op = .buildSlice 28 0 #[])
    (h : ∀ w', w'.ownsRow 0 81 65 (.slice (some ⟨w.heap.size, 0, none⟩) 0 0) 0 (wrsC []) → Below w.heap.size w w' → w'.heap.size = w.heap.size + 1 → wpList Try.prog ops Q rest (a.put o.dst (.slice (some ⟨w.heap.size, 0, none⟩) 0 0)) w') : wpList Try.prog ops Q (o :: rest) a w := by
  refine wpList_plain hgd fun K' hK' => ?_
  have hrun : (execOp a.eval o).run Try.prog w = .ok (.value (.slice (some ⟨w.heap.size, 0, none⟩) 0 0)) (w.alloc (.cells #[] 81)) := by
    have hb : (Instr.buildSlice 28 0 #[]).run Try.prog w = .ok (.slice (some ⟨w.heap.size, 0, none⟩) 0 0) (w.alloc (.cells #[] 81)) := by
      simp [Instr.buildSlice, run_underlying Try.underlying28, Result.andThen, Instr.fill, run_newRow']
      have e : ∀ f : Nat → Value, Array.map f (Array.range 0) = #[] := fun f => Array.eq_empty_of_size_eq_zero (by simp)
      rw [e]
    simp [execOp, ho, hb, Result.andThen]
  unfold Oper.wp
  rw [hrun]
  exact hK' _ _ (h _ ⟨rfl, .inr ⟨w.heap.size, 0, #[], rfl, Nat.zero_le _, Blk.new w [] 81, Nat.le_refl _, Nat.zero_le _, rfl, rfl⟩⟩ ((Below.refl _ _).alloc (Nat.le_refl _) _) (by simp))

theorem AskI.keep {w wc w' : World} {B0 B1 B2 : Nat} {L : List Value} {b : List Int} {S : Nat → Prop} (h : AskI w B0 B1 B2 L b wc) (hc : Ch S wc w') (hS : ∀ k, S k → B2 < k) : AskI w B0 B1 B2 L b w' where
  box := h.box.keep hc (fun e => by have := hS _ e; have := h.b1; have := h.b2; omega)
  blk := h.blk.keep hc (fun e => by have := hS _ e; have := h.b1; have := h.b2; omega)
  res := h.res.keep hc (fun e => by have := hS _ e; have := h.b1; have := h.b2; omega)
  bel := below_ch h.bel hc (Nat.le_refl _) (fun k hk => by have := hS _ hk; have := h.b0; have := h.b1; have := h.b2; omega)
  b0 := h.b0
  b1 := h.b1
  b2 := h.b2
theorem AskI.below {w wc w' : World} {B0 B1 B2 : Nat} {L : List Value} {b : List Int} (h : AskI w B0 B1 B2 L b wc) (hc : Below wc.heap.size wc w') : AskI w B0 B1 B2 L b w' := h.keep (S := fun _ => False) (Ch.of_below hc (Nat.le_refl _)) (fun _ h => h.elim)
theorem AskI.rng {w wc : World} {B0 B1 B2 : Nat} {L : List Value} {b : List Int} (h : AskI w B0 B1 B2 L b wc) : wc.rangeAt B1 0 (ofK .u8 b) := rangeW_blk h.blk

/-- a row of the walk's own; a line made -/
structure RowI (B2 : Nat) (v : Value) (n : Nat) (l : List Wr) (wz : World) : Prop where
  own : wz.ownsRow 0 81 65 v n (wrsC l)
  far : ∀ k, v.ownBlock = some k → B2 < k ∧ k < wz.heap.size
structure LnI (B2 g : Nat) (e : Wr) (wz : World) : Prop where
  blk : Blk wz g 81 (wrC e)
  far : B2 < g
def Ap (v : Value) (g : Nat) : Prop := ∀ k, v.ownBlock = some k → k ≠ g

theorem RowI.below {B2 n : Nat} {v : Value} {l : List Wr} {wz w' : World} (h : RowI B2 v n l wz) (hc : Below wz.heap.size wz w') : RowI B2 v n l w' :=
  ⟨own_ch h.own (Ch.of_below (S := fun _ => False) hc (Nat.le_refl _)) (fun _ _ h => h), fun k hk => ⟨(h.far k hk).1, Nat.lt_of_lt_of_le (h.far k hk).2 hc.size⟩⟩
theorem LnI.below {B2 g : Nat} {e : Wr} {wz w' : World} (h : LnI B2 g e wz) (hc : Below wz.heap.size wz w') : LnI B2 g e w' := ⟨h.blk.below hc h.blk.lt, h.far⟩
theorem RowI.ap {B2 n : Nat} {v : Value} {l : List Wr} {wz : World} (h : RowI B2 v n l wz) : Ap v wz.heap.size := fun k hk e => by have := (h.far k hk).2; omega
theorem LnI.ap {B2 g : Nat} {e : Wr} {wz : World} (h : LnI B2 g e wz) (c d : Nat) : Ap (.slice (some ⟨wz.heap.size, 0, none⟩) c d) g := fun k hk e => by
  have h1 : wz.heap.size = k := Option.some.inj hk
  have := h.blk.lt
  omega
theorem RowI.mk0 {w wz w' : World} {B0 B1 B2 : Nat} {L : List Value} {b : List Int} (h : AskI w B0 B1 B2 L b wz) (hr : w'.ownsRow 0 81 65 (.slice (some ⟨wz.heap.size, 0, none⟩) 0 0) 0 (wrsC [])) (hs : w'.heap.size = wz.heap.size + 1) : RowI B2 (.slice (some ⟨wz.heap.size, 0, none⟩) 0 0) 0 [] w' :=
  ⟨hr, fun k hk => by have h1 : wz.heap.size = k := Option.some.inj hk
                      have := h.res.lt
                      omega⟩
theorem LnI.mk0 {w wz w' : World} {B0 B1 B2 : Nat} {L : List Value} {b : List Int} {e : Wr} (h : AskI w B0 B1 B2 L b wz) (hr : Blk w' wz.heap.size 81 (wrC e)) : LnI B2 wz.heap.size e w' := ⟨hr, h.res.lt⟩

/-- behind an append -/
theorem app_keep {w wz w' : World} {B0 B1 B2 n : Nat} {L : List Value} {b : List Int} {v : Value} {l : List Wr} (h : AskI w B0 B1 B2 L b wz) (hr : RowI B2 v n l wz) (hg : wz.grownBy w' v.ownBlock) : AskI w B0 B1 B2 L b w' :=
  h.keep (ch_grown hg) (fun k hk => (hr.far k hk).1)
theorem app_row {w wz w' : World} {B0 B1 B2 n m : Nat} {L : List Value} {b : List Int} {v v' : Value} {l l' : List Wr} (h : AskI w B0 B1 B2 L b wz) (hr : RowI B2 v n l wz) (ho : w'.ownsRow 0 81 65 v' m (wrsC l')) (hg : wz.grownBy w' v.ownBlock) (ha : v'.ownBlock = v.ownBlock ∨ v'.ownBlock = some wz.heap.size) (hz : v'.ownBlock = some wz.heap.size → wz.heap.size < w'.heap.size) : RowI B2 v' m l' w' :=
  ⟨ho, fun k hk => by
    rcases ha with e | e
    · rw [e] at hk
      exact ⟨(hr.far k hk).1, Nat.lt_of_lt_of_le (hr.far k hk).2 hg.size⟩
    · have hz' := hz e
      rw [e] at hk
      have h1 : wz.heap.size = k := Option.some.inj hk
      have := h.res.lt
      omega⟩
theorem app_ln {wz w' : World} {B2 g : Nat} {v : Value} {e : Wr} (hl : LnI B2 g e wz) (ha : Ap v g) (hg : wz.grownBy w' v.ownBlock) : LnI B2 g e w' :=
  ⟨hl.blk.keep (ch_grown hg) (fun e => ha g e rfl), hl.far⟩
theorem app_ap {wz : World} {B2 g : Nat} {v v' : Value} {e : Wr} (hl : LnI B2 g e wz) (ha : Ap v g) (hv : v'.ownBlock = v.ownBlock ∨ v'.ownBlock = some wz.heap.size) : Ap v' g := fun k hk e => by
  rcases hv with h | h
  · exact ha k (h ▸ hk) e
  · rw [h] at hk
    have h1 : wz.heap.size = k := Option.some.inj hk
    have := hl.blk.lt
    omega
theorem own_lt {w : World} {base n : Nat} {v : Value} {l : List Wr} {k : Nat} (h : w.ownsRow base 81 65 v n (wrsC l)) (hk : v.ownBlock = some k) : k < w.heap.size := by
  obtain ⟨_, ⟨rfl, _⟩ | ⟨g, cap, C, rfl, _, h5, _⟩⟩ := h
  · cases hk
  · cases hk; exact lt_of_block h5

theorem LnI.cells {B2 g : Nat} {e : Wr} {wz : World} (h : LnI B2 g e wz) : ∀ ad, (some (⟨g, 0, none⟩ : Addr)) = some ad → ∀ j u, (wrsC [e])[j]? = some u → wz.cell? (ad.add j) = some u := fun ad had j u hu => by
  cases had
  have e1 : wrsC [e] = wrC e := by simp [wrsC]
  rw [e1] at hu
  have : (Addr.add ⟨g, 0, none⟩ j) = ⟨g, j, none⟩ := by unfold Addr.add; split <;> simp_all
  rw [this, h.blk.cell]; exact hu

theorem RowI.set {w wz w' : World} {B0 B1 B2 n : Nat} {L : List Value} {b : List Int} {v : Value} {l : List Wr} (hr : RowI B2 v n l wz) (h : AskI w B0 B1 B2 L b wz) (hc : Ch (· = B0) wz w') : RowI B2 v n l w' :=
  ⟨own_ch hr.own hc (fun k hk e => by have := (hr.far k hk).1; have := h.b1; have := h.b2; have e : k = B0 := e; omega), fun k hk => ⟨(hr.far k hk).1, Nat.lt_of_lt_of_le (hr.far k hk).2 hc.size⟩⟩
theorem RowI.st {wz w' : World} {B2 n : Nat} {v : Value} {l : List Wr} (hr : RowI B2 v n l wz) (hc : Ch (· = B2) wz w') (hB : ∀ e ∈ l, IsB e.2) (hn : n = l.length) : StAt w' v l := by
  subst hn
  exact StAt.of_owns (own_ch hr.own hc (fun k hk e => by have := (hr.far k hk).1; have e : k = B2 := e; omega)) hB

theorem st_cells {w : World} {ao : Option Addr} {st : List Wr} (hcell : 0 < st.length → ∃ g o, ao = some ⟨g, o, none⟩ ∧ ∀ k (hk : k < st.length), w.rangeAt g (o + k * 65) (wrC st[k])) (hB : ∀ e ∈ st, IsB e.2) :
    ∀ ad, ao = some ad → ∀ j u, (wrsC st)[j]? = some u → w.cell? (ad.add j) = some u := fun ad had j u hu => st_flat hcell hB st.length (Nat.le_refl _) ad had j u (by rw [List.take_length]; exact hu)
theorem st_none {w : World} {ao : Option Addr} {st : List Wr} {c : Nat} (hcell : 0 < st.length → ∃ g o, ao = some ⟨g, o, none⟩ ∧ ∀ k (hk : k < st.length), w.rangeAt g (o + k * 65) (wrC st[k])) (hnil : ao = none → c = 0) (h : ao = none) : st.length = 0 ∧ c = 0 := by
  refine ⟨?_, hnil h⟩
  rcases Nat.eq_zero_or_pos st.length with h0 | h0
  · exact h0
  · obtain ⟨g, o, e, _⟩ := hcell h0
    rw [h] at e; cases e
theorem isB_snoc {st : List Wr} {e : Wr} (hB : ∀ e ∈ st, IsB e.2) (hb : IsB e.2) : ∀ x ∈ st ++ [e], IsB x.2 := fun x hx => by
  rcases List.mem_append.1 hx with h | h
  · exact hB x h
  · obtain rfl : x = e := by simpa using h
    exact hb

theorem Try.infoS1 : (Try.prog.info? 28).map (·.size) = some 1 := by kernel_rfl

set_option maxRecDepth 100000 in
set_option maxHeartbeats 8000000 in
theorem rask_write (size fm arms fails ops : Int) (sv : Value) (st : List Wr) (at_ : Int) (b : List Int) (w : World) (hs : StAt w sv st) (hB : ∀ e ∈ st, IsB e.2) (hl : st.length ≤ 1073741824) (hb : IsB b) (h0 : 0 ≤ at_) (h1 : at_ < size) (hf : fails ≠ 0) (hf1 : -1 ≤ fails) (hf2 : fails ≤ 9223372036854775807) (ha : arms ≠ 0) (ha1 : -1 ≤ arms) (ha2 : arms ≤ 9223372036854775807) (ho1 : 0 ≤ ops) (ho2 : ops ≤ 1073741824) :
    Calls Try.prog 49 #[.agg (rQ size fm sv false arms fails ops).toArray, .int .i64 1, .int .i64 at_, .agg (ofK .u8 b).toArray] w
      (fun e w' => ∃ sv', e = .returned (.tuple #[.agg (rQ size fm sv' false (decF arms) (decF fails) (ops + 1)).toArray, .int .i64 0]) ∧ StAt w' sv' (st ++ [(at_, b)]) ∧ (∀ k, sv'.ownBlock = some k → w.heap.size ≤ k ∧ k < w'.heap.size) ∧ Below w.heap.size w w') := by
    obtain ⟨ao, c, rfl, hlc, hc63, hcell, hnil⟩ := hs
    have HF := Lib.hid (And.intro hf hf1)
    have HA := Lib.hid (And.intro ha ha1)
    have HB := Lib.hid hb
    have HBL := Lib.hid (build_ln at_ b hb)
    have HIB := Lib.hid (infoB hb)
    have HST := Lib.hid (And.intro (st_cells hcell hB) (And.intro hB (And.intro (show 0 + st.length ≤ 1099511627776 by omega) (fun h => st_none hcell hnil h))))
    have HALL := Lib.hid (isB_snoc (e := (at_, b)) hB hb)
    have HST1 := Lib.hid (show (∀ e ∈ [((at_, b) : Wr)], IsB e.2) ∧ st.length + 1 ≤ 1099511627776 from And.intro (isB_snoc (st := []) (e := (at_, b)) (fun _ h => by cases h) hb) (show st.length + 1 ≤ 1099511627776 by omega))
    clear hcell hnil hB hb hlc hc63
    go_enter Try.func49, Try.ntmps49
    go_upto_if 33 with (first
      | (with_reducible refine wpList_box_blk w rfl 30 (.tmp 0) rfl (rQ size fm (.slice ao st.length c) false arms fails ops) rfl ?_; intro w1 hb1 hbel1 hsz1; have HB1 := Lib.hid (And.intro hb1 (And.intro hbel1 hsz1)); clear hb1 hbel1 hsz1)
      | (with_reducible refine wpList_box_blk w1 rfl 39 (.tmp 3) rfl (ofK .u8 b) rfl ?_; intro w2 hb2 hbel2 hsz2; have HB2 := Lib.hid (And.intro (HB1.out.1.below hbel2 HB1.out.1.lt) (And.intro (below_thn HB1.out.2.1 hbel2 (Nat.le_refl _)) (And.intro (show w.heap.size < w1.heap.size ∧ w1.heap.size < w2.heap.size by have := HB1.out.2.2; omega) hb2))); clear hb2 hbel2 hsz2)
      | ((with_reducible refine wpList_alloc_blk w2 rfl 30 rfl rZ Try.zeroRd ?_); intro w3 hb hbel hsz; have HI3 := Lib.hid (show AskI w w.heap.size w1.heap.size w2.heap.size (rQ size fm (.slice ao st.length c) false arms fails ops) b w3 from ⟨HB2.out.1.below hbel HB2.out.1.lt, HB2.out.2.2.2.below hbel HB2.out.2.2.2.lt, hb, below_thn HB2.out.2.1 hbel (Nat.le_refl _), rfl, HB2.out.2.2.1.1, HB2.out.2.2.1.2⟩); have c0 := HI3.out.box.cell 0; simp only [rQ, List.getElem?_cons_zero] at c0; have c3 := HI3.out.box.cell 3; simp only [rQ, List.getElem?_cons_succ, List.getElem?_cons_zero] at c3; have c5 := HI3.out.box.cell 5; simp only [rQ, List.getElem?_cons_succ, List.getElem?_cons_zero] at c5; clear hb hbel hsz))
    go_cut [9] from 10 (fun s wc => s = .int .i64 0 ∧ Hid (AskI w w.heap.size w1.heap.size w2.heap.size (rQ size fm (.slice ao st.length c) false arms (decF fails) ops) b wc))
    case first =>
      by_cases hp : 0 < fails
      · have HD := Lib.hid (decF_pos hp)
        go_wp2_with (first
          | ((with_reducible refine wpList_store1 w3 rfl 3 (.tmp 37) (.tmp 36) rfl w.heap.size 5 30 (rQ size fm (.slice ao st.length c) false arms fails ops) HI3.out.box rfl (.int .i64 (fails - 1)) rfl (rQ_lt (by omega)) Try.infoI1 (int_one _ _) (int_cells _ _) ?_); intro w4 hb hc hs; have HI4 := Lib.hid (show AskI w w.heap.size w1.heap.size w2.heap.size (rQ size fm (.slice ao st.length c) false arms (decF fails) ops) b w4 from HI3.out.set (by rw [HD.out]; exact hb) hc); clear hb hc hs))
        go_meet
        exact ⟨rfl, HI4⟩
      · have HD := Lib.hid (show decF fails = fails from decF_neg HF.out.1 hp)
        go_wp2_with fail
        go_meet
        exact ⟨rfl, by rw [HD.out]; exact HI3⟩
    case rest =>
    obtain ⟨rfl, HC⟩ := hcut
    clear c0 c3 c5 HI3 HB1 HB2
    have c4 := HC.out.box.cell 4; simp only [rQ, List.getElem?_cons_succ, List.getElem?_cons_zero] at c4; 
    go_upto_if 54 with fail
    go_cut [9] from 10 (fun s wd => s = .int .i64 0 ∧ Hid (AskI w w.heap.size w1.heap.size w2.heap.size (rQ size fm (.slice ao st.length c) false (decF arms) (decF fails) ops) b wd))
    case first =>
      by_cases hp : 0 < arms
      · have HD := Lib.hid (decF_pos hp)
        go_wp2_with (first
          | ((with_reducible refine wpList_store1 wc rfl 3 (.tmp 58) (.tmp 57) rfl w.heap.size 4 30 (rQ size fm (.slice ao st.length c) false arms (decF fails) ops) HC.out.box rfl (.int .i64 (arms - 1)) rfl (rQ_lt (by omega)) Try.infoI1 (int_one _ _) (int_cells _ _) ?_); intro w4 hb hc hs; have HI4 := Lib.hid (show AskI w w.heap.size w1.heap.size w2.heap.size (rQ size fm (.slice ao st.length c) false (decF arms) (decF fails) ops) b w4 from HC.out.set (by rw [HD.out]; exact hb) hc); clear hb hc hs))
        go_meet
        exact ⟨rfl, HI4⟩
      · have HD := Lib.hid (show decF arms = arms from decF_neg HA.out.1 hp)
        go_wp2_with fail
        go_meet
        exact ⟨rfl, by rw [HD.out]; exact HC⟩
    case rest =>
    obtain ⟨rfl, HE⟩ := hcut
    clear c4 HC
    have c6 := HE.out.box.cell 6; simp only [rQ, List.getElem?_cons_succ, List.getElem?_cons_zero] at c6; 
    go_upto_if 64 with (first
      | ((with_reducible refine wpList_store1 wc rfl 3 (.tmp 62) (.tmp 61) rfl w.heap.size 6 30 (rQ size fm (.slice ao st.length c) false (decF arms) (decF fails) ops) HE.out.box rfl (.int .i64 (ops + 1)) rfl (rQ_lt (by omega)) Try.infoI1 (int_one _ _) (int_cells _ _) ?_); intro w5 hb hc hs; have HI5 := Lib.hid (show AskI w w.heap.size w1.heap.size w2.heap.size (rQ size fm (.slice ao st.length c) false (decF arms) (decF fails) (ops + 1)) b w5 from HE.out.set hb hc); clear hb hc hs))
    go_cut [9] from 10 (fun s wd => s = .int .i64 0 ∧ ∃ ao8 cp8, Hid (AskI w w.heap.size w1.heap.size w2.heap.size (rQ size fm (.slice ao8 (st.length + 1) cp8) false (decF arms) (decF fails) (ops + 1)) b wd) ∧ Hid (RowI w2.heap.size (.slice ao8 (st.length + 1) cp8) (st.length + 1) (st ++ [(at_, b)]) wd))
    case first =>
      clear c6 HE
      have HI6 := Lib.hid (HI5.out.below (Below.refl _ w5).drew)
      go_wp2_with fail
      refine wp_region_takes (fun w' => w'.rangeAt w1.heap.size 0 (ofK .u8 b)) [1, 4, 5, 6] 7 (by kernel_rfl) rfl (by kernel_rfl) (by kernel_rfl) HI6.out.rng ?_
      generalize w5.drew = v6 at HI6 ⊢
      clear HI5
      iterate 2 (refine' HeldL.run ?_ ?_ ?_ ?_; rotate_left 2; (simp only [List.getElem?_toArray, List.getElem?_cons_zero, List.getElem?_cons_succ]; rfl); rfl; (rintro w' k0; go_simp; with_reducible rfl); simp only [Act.put, List.setIfInBounds_toArray, List.set_cons_zero, List.set_cons_succ])
      refine' HeldL.run ?_ ?_ ?_ ?_; rotate_left 2; (simp only [List.getElem?_toArray, List.getElem?_cons_zero, List.getElem?_cons_succ]; rfl); rfl; (rintro w' k0; exact exec_load_mid rfl rfl k0 Try.underlying39 rfl HIB.out); simp only [Act.put, List.setIfInBounds_toArray, List.set_cons_zero, List.set_cons_succ]
      refine' HeldL.run ?_ ?_ ?_ ?_; rotate_left 2; (simp only [List.getElem?_toArray, List.getElem?_cons_zero, List.getElem?_cons_succ]; rfl); rfl; (rintro w' k0; exact exec_build rfl (vs := #[(0, .int .i64 at_), (1, .agg (ofK .u8 b).toArray)]) (by simp [Act.eval]) (HBL.out w')); simp only [Act.put, List.setIfInBounds_toArray, List.set_cons_zero, List.set_cons_succ]
      refine' wpAnyH_three 0 2 7 (by kernel_rfl) ?_ ?_ ?_ ?_ ?_ ?_; rotate_left 3; (simp only [List.getElem?_toArray, List.getElem?_cons_zero, List.getElem?_cons_succ]; rfl); (simp only [List.getElem?_toArray, List.getElem?_cons_zero, List.getElem?_cons_succ]; rfl); (simp only [List.getElem?_toArray, List.getElem?_cons_zero, List.getElem?_cons_succ]; rfl)
      · skip
        refine wpList_slice_none v6 rfl rfl ?_
        intro v7 hrow hbel hsz
        have HI7 := Lib.hid (HI6.out.below hbel)
        have HRW7 := Lib.hid (RowI.mk0 HI6.out hrow hsz)
        clear hrow hbel hsz
        simp only [Act.put, List.setIfInBounds_toArray, List.set_cons_zero, List.set_cons_succ]
        refine QK.normal ⟨HI7.out.rng, ?_⟩
        refine' wpAnyH_two 2 7 (by kernel_rfl) ?_ ?_ ?_ ?_; rotate_left 2; (simp only [List.getElem?_toArray, List.getElem?_cons_zero, List.getElem?_cons_succ]; rfl); (simp only [List.getElem?_toArray, List.getElem?_cons_zero, List.getElem?_cons_succ]; rfl)
        · skip
          have k2 := HI7.out.box.cell 2
          simp only [rQ, List.getElem?_cons_succ, List.getElem?_cons_zero] at k2
          go_wp2_with fail
          clear k2
          refine QK.normal ⟨HI7.out.rng, ?_⟩
          refine' wpAnyH_two 3 7 (by kernel_rfl) ?_ ?_ ?_ ?_; rotate_left 2; (simp only [List.getElem?_toArray, List.getElem?_cons_zero, List.getElem?_cons_succ]; rfl); (simp only [List.getElem?_toArray, List.getElem?_cons_zero, List.getElem?_cons_succ]; rfl)
          · skip
            refine wpList_append_st v7 rfl (.tmp 65) (.tmp 67) rfl 0 (.slice (some ⟨v6.heap.size, 0, none⟩) 0 0) 0 [] rfl HRW7.out.own ao st.length c st rfl rfl HST.out.2.1 HST.out.2.2.2 (fun ad had j u hu => (HI7.out.bel.cell (block_of_cell (HST.out.1 ad had j u hu))).trans (HST.out.1 ad had j u hu)) HST.out.2.2.1 (Nat.zero_le _) st.length (Nat.zero_add _) ?_
            intro ao3 cp3 v8 hown hgr hat
            rw [List.nil_append] at hown
            have HI8 := Lib.hid (app_keep HI7.out HRW7.out hgr)
            have HRW8 := Lib.hid (app_row HI7.out HRW7.out hown hgr hat (fun e => own_lt hown e))
            clear hown hgr hat
            simp only [Act.put, List.setIfInBounds_toArray, List.set_cons_zero, List.set_cons_succ]
            refine QK.normal ⟨HI8.out.rng, ?_⟩
            refine' wpAnyH_one 7 (by kernel_rfl) ?_ ?_; rotate_left 1; (simp only [List.getElem?_toArray, List.getElem?_cons_zero, List.getElem?_cons_succ]; rfl)
            refine wpList_slice_one v8 rfl _ _ rfl Try.underlying28 Try.sizeLn Try.zeroLn Try.sf1 Try.sf2 (wrC (at_, b)) (wrC_len (e := (at_, b)) HB.out) rfl ?_
            intro v9 hb hbel hsz
            have HI9 := Lib.hid (HI8.out.below hbel)
            have HLN9 := Lib.hid (LnI.mk0 (e := (at_, b)) HI8.out hb)
            have HRW9 := Lib.hid (HRW8.out.below hbel)
            have HAP9 := Lib.hid HRW8.out.ap
            clear hb hbel hsz
            simp only [Act.put, List.setIfInBounds_toArray, List.set_cons_zero, List.set_cons_succ]
            refine QK.normal ⟨HI9.out.rng, ?_⟩
            refine' wpAnyH_one 8 (by kernel_rfl) ?_ ?_; rotate_left 1; (simp only [List.getElem?_toArray, List.getElem?_cons_zero, List.getElem?_cons_succ]; rfl)
            refine wpList_append_st v9 rfl (.tmp 68) (.tmp 72) rfl 0 (.slice ao3 st.length cp3) st.length st rfl HRW9.out.own (some ⟨v8.heap.size, 0, none⟩) 1 1 [(at_, b)] rfl rfl HST1.out.1 (fun h => by cases h) (fun ad had j u hu => HLN9.out.cells ad had j u hu) HST1.out.2 (Nat.zero_le _) (st.length + 1) rfl ?_
            intro ao8 cp8 v10 hown hgr hat
            have HI10 := Lib.hid (app_keep HI9.out HRW9.out hgr)
            have HRW10 := Lib.hid (app_row HI9.out HRW9.out hown hgr hat (fun e => own_lt hown e))
            clear hown hgr hat
            simp only [Act.put, List.setIfInBounds_toArray, List.set_cons_zero, List.set_cons_succ]
            refine QK.normal ⟨HI10.out.rng, ?_⟩
            refine' wpAnyH_one 9 (by kernel_rfl) ?_ ?_; rotate_left 1; (simp only [List.getElem?_toArray, List.getElem?_cons_zero, List.getElem?_cons_succ]; rfl)
            go_wp2_with fail
            refine QK.normal ⟨HI10.out.rng, ?_⟩
            refine' wpAnyH_one 10 (by kernel_rfl) ?_ ?_; rotate_left 1; (simp only [List.getElem?_toArray, List.getElem?_cons_zero, List.getElem?_cons_succ]; rfl)
            refine wpList_store1 v10 rfl 28 (.tmp 74) (.tmp 73) rfl w.heap.size 2 30 (rQ size fm (.slice ao st.length c) false (decF arms) (decF fails) (ops + 1)) HI10.out.box rfl (.slice ao8 (st.length + 1) cp8) rfl (rQ_lt (by omega)) Try.infoS1 rfl rfl ?_
            intro v11 hb hc hs
            have HI11 := Lib.hid (show AskI w w.heap.size w1.heap.size w2.heap.size (rQ size fm (.slice ao8 (st.length + 1) cp8) false (decF arms) (decF fails) (ops + 1)) b v11 from HI10.out.set hb hc)
            have HS8 := Lib.hid (HRW10.out.set HI10.out hc)
            clear hb hc hs
            simp only [Act.put, List.setIfInBounds_toArray, List.set_cons_zero, List.set_cons_succ]
            refine QK.normal ⟨HI11.out.rng, ?_⟩
            refine wpAnyH_done (by kernel_rfl) ?_ _
            refine NoPanic.normal ?_
            go_wp2_with fail
            go_meet
            exact ⟨rfl, ao8, cp8, HI11, HS8⟩
          · skip
            refine wpList_slice_one v7 rfl _ _ rfl Try.underlying28 Try.sizeLn Try.zeroLn Try.sf1 Try.sf2 (wrC (at_, b)) (wrC_len (e := (at_, b)) HB.out) rfl ?_
            intro v8 hb hbel hsz
            have HI8 := Lib.hid (HI7.out.below hbel)
            have HLN8 := Lib.hid (LnI.mk0 (e := (at_, b)) HI7.out hb)
            have HRW8 := Lib.hid (HRW7.out.below hbel)
            have HAP8 := Lib.hid HRW7.out.ap
            clear hb hbel hsz
            simp only [Act.put, List.setIfInBounds_toArray, List.set_cons_zero, List.set_cons_succ]
            refine QK.normal ⟨HI8.out.rng, ?_⟩
            refine' wpAnyH_one 3 (by kernel_rfl) ?_ ?_; rotate_left 1; (simp only [List.getElem?_toArray, List.getElem?_cons_zero, List.getElem?_cons_succ]; rfl)
            refine wpList_append_st v8 rfl (.tmp 65) (.tmp 67) rfl 0 (.slice (some ⟨v6.heap.size, 0, none⟩) 0 0) 0 [] rfl HRW8.out.own ao st.length c st rfl rfl HST.out.2.1 HST.out.2.2.2 (fun ad had j u hu => (HI8.out.bel.cell (block_of_cell (HST.out.1 ad had j u hu))).trans (HST.out.1 ad had j u hu)) HST.out.2.2.1 (Nat.zero_le _) st.length (Nat.zero_add _) ?_
            intro ao3 cp3 v9 hown hgr hat
            rw [List.nil_append] at hown
            have HI9 := Lib.hid (app_keep HI8.out HRW8.out hgr)
            have HRW9 := Lib.hid (app_row HI8.out HRW8.out hown hgr hat (fun e => own_lt hown e))
            have HLN9 := Lib.hid (app_ln HLN8.out HAP8.out hgr)
            have HAP9 := Lib.hid (app_ap HLN8.out HAP8.out hat)
            clear hown hgr hat
            simp only [Act.put, List.setIfInBounds_toArray, List.set_cons_zero, List.set_cons_succ]
            refine QK.normal ⟨HI9.out.rng, ?_⟩
            refine' wpAnyH_one 8 (by kernel_rfl) ?_ ?_; rotate_left 1; (simp only [List.getElem?_toArray, List.getElem?_cons_zero, List.getElem?_cons_succ]; rfl)
            refine wpList_append_st v9 rfl (.tmp 68) (.tmp 72) rfl 0 (.slice ao3 st.length cp3) st.length st rfl HRW9.out.own (some ⟨v7.heap.size, 0, none⟩) 1 1 [(at_, b)] rfl rfl HST1.out.1 (fun h => by cases h) (fun ad had j u hu => HLN9.out.cells ad had j u hu) HST1.out.2 (Nat.zero_le _) (st.length + 1) rfl ?_
            intro ao8 cp8 v10 hown hgr hat
            have HI10 := Lib.hid (app_keep HI9.out HRW9.out hgr)
            have HRW10 := Lib.hid (app_row HI9.out HRW9.out hown hgr hat (fun e => own_lt hown e))
            clear hown hgr hat
            simp only [Act.put, List.setIfInBounds_toArray, List.set_cons_zero, List.set_cons_succ]
            refine QK.normal ⟨HI10.out.rng, ?_⟩
            refine' wpAnyH_one 9 (by kernel_rfl) ?_ ?_; rotate_left 1; (simp only [List.getElem?_toArray, List.getElem?_cons_zero, List.getElem?_cons_succ]; rfl)
            go_wp2_with fail
            refine QK.normal ⟨HI10.out.rng, ?_⟩
            refine' wpAnyH_one 10 (by kernel_rfl) ?_ ?_; rotate_left 1; (simp only [List.getElem?_toArray, List.getElem?_cons_zero, List.getElem?_cons_succ]; rfl)
            refine wpList_store1 v10 rfl 28 (.tmp 74) (.tmp 73) rfl w.heap.size 2 30 (rQ size fm (.slice ao st.length c) false (decF arms) (decF fails) (ops + 1)) HI10.out.box rfl (.slice ao8 (st.length + 1) cp8) rfl (rQ_lt (by omega)) Try.infoS1 rfl rfl ?_
            intro v11 hb hc hs
            have HI11 := Lib.hid (show AskI w w.heap.size w1.heap.size w2.heap.size (rQ size fm (.slice ao8 (st.length + 1) cp8) false (decF arms) (decF fails) (ops + 1)) b v11 from HI10.out.set hb hc)
            have HS8 := Lib.hid (HRW10.out.set HI10.out hc)
            clear hb hc hs
            simp only [Act.put, List.setIfInBounds_toArray, List.set_cons_zero, List.set_cons_succ]
            refine QK.normal ⟨HI11.out.rng, ?_⟩
            refine wpAnyH_done (by kernel_rfl) ?_ _
            refine NoPanic.normal ?_
            go_wp2_with fail
            go_meet
            exact ⟨rfl, ao8, cp8, HI11, HS8⟩
        · skip
          refine wpList_slice_one v7 rfl _ _ rfl Try.underlying28 Try.sizeLn Try.zeroLn Try.sf1 Try.sf2 (wrC (at_, b)) (wrC_len (e := (at_, b)) HB.out) rfl ?_
          intro v8 hb hbel hsz
          have HI8 := Lib.hid (HI7.out.below hbel)
          have HLN8 := Lib.hid (LnI.mk0 (e := (at_, b)) HI7.out hb)
          have HRW8 := Lib.hid (HRW7.out.below hbel)
          have HAP8 := Lib.hid HRW7.out.ap
          clear hb hbel hsz
          simp only [Act.put, List.setIfInBounds_toArray, List.set_cons_zero, List.set_cons_succ]
          refine QK.normal ⟨HI8.out.rng, ?_⟩
          refine' wpAnyH_one 2 (by kernel_rfl) ?_ ?_; rotate_left 1; (simp only [List.getElem?_toArray, List.getElem?_cons_zero, List.getElem?_cons_succ]; rfl)
          have k2 := HI8.out.box.cell 2
          simp only [rQ, List.getElem?_cons_succ, List.getElem?_cons_zero] at k2
          go_wp2_with fail
          clear k2
          refine QK.normal ⟨HI8.out.rng, ?_⟩
          refine' wpAnyH_one 3 (by kernel_rfl) ?_ ?_; rotate_left 1; (simp only [List.getElem?_toArray, List.getElem?_cons_zero, List.getElem?_cons_succ]; rfl)
          refine wpList_append_st v8 rfl (.tmp 65) (.tmp 67) rfl 0 (.slice (some ⟨v6.heap.size, 0, none⟩) 0 0) 0 [] rfl HRW8.out.own ao st.length c st rfl rfl HST.out.2.1 HST.out.2.2.2 (fun ad had j u hu => (HI8.out.bel.cell (block_of_cell (HST.out.1 ad had j u hu))).trans (HST.out.1 ad had j u hu)) HST.out.2.2.1 (Nat.zero_le _) st.length (Nat.zero_add _) ?_
          intro ao3 cp3 v9 hown hgr hat
          rw [List.nil_append] at hown
          have HI9 := Lib.hid (app_keep HI8.out HRW8.out hgr)
          have HRW9 := Lib.hid (app_row HI8.out HRW8.out hown hgr hat (fun e => own_lt hown e))
          have HLN9 := Lib.hid (app_ln HLN8.out HAP8.out hgr)
          have HAP9 := Lib.hid (app_ap HLN8.out HAP8.out hat)
          clear hown hgr hat
          simp only [Act.put, List.setIfInBounds_toArray, List.set_cons_zero, List.set_cons_succ]
          refine QK.normal ⟨HI9.out.rng, ?_⟩
          refine' wpAnyH_one 8 (by kernel_rfl) ?_ ?_; rotate_left 1; (simp only [List.getElem?_toArray, List.getElem?_cons_zero, List.getElem?_cons_succ]; rfl)
          refine wpList_append_st v9 rfl (.tmp 68) (.tmp 72) rfl 0 (.slice ao3 st.length cp3) st.length st rfl HRW9.out.own (some ⟨v7.heap.size, 0, none⟩) 1 1 [(at_, b)] rfl rfl HST1.out.1 (fun h => by cases h) (fun ad had j u hu => HLN9.out.cells ad had j u hu) HST1.out.2 (Nat.zero_le _) (st.length + 1) rfl ?_
          intro ao8 cp8 v10 hown hgr hat
          have HI10 := Lib.hid (app_keep HI9.out HRW9.out hgr)
          have HRW10 := Lib.hid (app_row HI9.out HRW9.out hown hgr hat (fun e => own_lt hown e))
          clear hown hgr hat
          simp only [Act.put, List.setIfInBounds_toArray, List.set_cons_zero, List.set_cons_succ]
          refine QK.normal ⟨HI10.out.rng, ?_⟩
          refine' wpAnyH_one 9 (by kernel_rfl) ?_ ?_; rotate_left 1; (simp only [List.getElem?_toArray, List.getElem?_cons_zero, List.getElem?_cons_succ]; rfl)
          go_wp2_with fail
          refine QK.normal ⟨HI10.out.rng, ?_⟩
          refine' wpAnyH_one 10 (by kernel_rfl) ?_ ?_; rotate_left 1; (simp only [List.getElem?_toArray, List.getElem?_cons_zero, List.getElem?_cons_succ]; rfl)
          refine wpList_store1 v10 rfl 28 (.tmp 74) (.tmp 73) rfl w.heap.size 2 30 (rQ size fm (.slice ao st.length c) false (decF arms) (decF fails) (ops + 1)) HI10.out.box rfl (.slice ao8 (st.length + 1) cp8) rfl (rQ_lt (by omega)) Try.infoS1 rfl rfl ?_
          intro v11 hb hc hs
          have HI11 := Lib.hid (show AskI w w.heap.size w1.heap.size w2.heap.size (rQ size fm (.slice ao8 (st.length + 1) cp8) false (decF arms) (decF fails) (ops + 1)) b v11 from HI10.out.set hb hc)
          have HS8 := Lib.hid (HRW10.out.set HI10.out hc)
          clear hb hc hs
          simp only [Act.put, List.setIfInBounds_toArray, List.set_cons_zero, List.set_cons_succ]
          refine QK.normal ⟨HI11.out.rng, ?_⟩
          refine wpAnyH_done (by kernel_rfl) ?_ _
          refine NoPanic.normal ?_
          go_wp2_with fail
          go_meet
          exact ⟨rfl, ao8, cp8, HI11, HS8⟩
      · skip
        have k2 := HI6.out.box.cell 2
        simp only [rQ, List.getElem?_cons_succ, List.getElem?_cons_zero] at k2
        go_wp2_with fail
        clear k2
        refine QK.normal ⟨HI6.out.rng, ?_⟩
        refine' wpAnyH_two 0 7 (by kernel_rfl) ?_ ?_ ?_ ?_; rotate_left 2; (simp only [List.getElem?_toArray, List.getElem?_cons_zero, List.getElem?_cons_succ]; rfl); (simp only [List.getElem?_toArray, List.getElem?_cons_zero, List.getElem?_cons_succ]; rfl)
        · skip
          refine wpList_slice_none v6 rfl rfl ?_
          intro v7 hrow hbel hsz
          have HI7 := Lib.hid (HI6.out.below hbel)
          have HRW7 := Lib.hid (RowI.mk0 HI6.out hrow hsz)
          clear hrow hbel hsz
          simp only [Act.put, List.setIfInBounds_toArray, List.set_cons_zero, List.set_cons_succ]
          refine QK.normal ⟨HI7.out.rng, ?_⟩
          refine' wpAnyH_two 3 7 (by kernel_rfl) ?_ ?_ ?_ ?_; rotate_left 2; (simp only [List.getElem?_toArray, List.getElem?_cons_zero, List.getElem?_cons_succ]; rfl); (simp only [List.getElem?_toArray, List.getElem?_cons_zero, List.getElem?_cons_succ]; rfl)
          · skip
            refine wpList_append_st v7 rfl (.tmp 65) (.tmp 67) rfl 0 (.slice (some ⟨v6.heap.size, 0, none⟩) 0 0) 0 [] rfl HRW7.out.own ao st.length c st rfl rfl HST.out.2.1 HST.out.2.2.2 (fun ad had j u hu => (HI7.out.bel.cell (block_of_cell (HST.out.1 ad had j u hu))).trans (HST.out.1 ad had j u hu)) HST.out.2.2.1 (Nat.zero_le _) st.length (Nat.zero_add _) ?_
            intro ao3 cp3 v8 hown hgr hat
            rw [List.nil_append] at hown
            have HI8 := Lib.hid (app_keep HI7.out HRW7.out hgr)
            have HRW8 := Lib.hid (app_row HI7.out HRW7.out hown hgr hat (fun e => own_lt hown e))
            clear hown hgr hat
            simp only [Act.put, List.setIfInBounds_toArray, List.set_cons_zero, List.set_cons_succ]
            refine QK.normal ⟨HI8.out.rng, ?_⟩
            refine' wpAnyH_one 7 (by kernel_rfl) ?_ ?_; rotate_left 1; (simp only [List.getElem?_toArray, List.getElem?_cons_zero, List.getElem?_cons_succ]; rfl)
            refine wpList_slice_one v8 rfl _ _ rfl Try.underlying28 Try.sizeLn Try.zeroLn Try.sf1 Try.sf2 (wrC (at_, b)) (wrC_len (e := (at_, b)) HB.out) rfl ?_
            intro v9 hb hbel hsz
            have HI9 := Lib.hid (HI8.out.below hbel)
            have HLN9 := Lib.hid (LnI.mk0 (e := (at_, b)) HI8.out hb)
            have HRW9 := Lib.hid (HRW8.out.below hbel)
            have HAP9 := Lib.hid HRW8.out.ap
            clear hb hbel hsz
            simp only [Act.put, List.setIfInBounds_toArray, List.set_cons_zero, List.set_cons_succ]
            refine QK.normal ⟨HI9.out.rng, ?_⟩
            refine' wpAnyH_one 8 (by kernel_rfl) ?_ ?_; rotate_left 1; (simp only [List.getElem?_toArray, List.getElem?_cons_zero, List.getElem?_cons_succ]; rfl)
            refine wpList_append_st v9 rfl (.tmp 68) (.tmp 72) rfl 0 (.slice ao3 st.length cp3) st.length st rfl HRW9.out.own (some ⟨v8.heap.size, 0, none⟩) 1 1 [(at_, b)] rfl rfl HST1.out.1 (fun h => by cases h) (fun ad had j u hu => HLN9.out.cells ad had j u hu) HST1.out.2 (Nat.zero_le _) (st.length + 1) rfl ?_
            intro ao8 cp8 v10 hown hgr hat
            have HI10 := Lib.hid (app_keep HI9.out HRW9.out hgr)
            have HRW10 := Lib.hid (app_row HI9.out HRW9.out hown hgr hat (fun e => own_lt hown e))
            clear hown hgr hat
            simp only [Act.put, List.setIfInBounds_toArray, List.set_cons_zero, List.set_cons_succ]
            refine QK.normal ⟨HI10.out.rng, ?_⟩
            refine' wpAnyH_one 9 (by kernel_rfl) ?_ ?_; rotate_left 1; (simp only [List.getElem?_toArray, List.getElem?_cons_zero, List.getElem?_cons_succ]; rfl)
            go_wp2_with fail
            refine QK.normal ⟨HI10.out.rng, ?_⟩
            refine' wpAnyH_one 10 (by kernel_rfl) ?_ ?_; rotate_left 1; (simp only [List.getElem?_toArray, List.getElem?_cons_zero, List.getElem?_cons_succ]; rfl)
            refine wpList_store1 v10 rfl 28 (.tmp 74) (.tmp 73) rfl w.heap.size 2 30 (rQ size fm (.slice ao st.length c) false (decF arms) (decF fails) (ops + 1)) HI10.out.box rfl (.slice ao8 (st.length + 1) cp8) rfl (rQ_lt (by omega)) Try.infoS1 rfl rfl ?_
            intro v11 hb hc hs
            have HI11 := Lib.hid (show AskI w w.heap.size w1.heap.size w2.heap.size (rQ size fm (.slice ao8 (st.length + 1) cp8) false (decF arms) (decF fails) (ops + 1)) b v11 from HI10.out.set hb hc)
            have HS8 := Lib.hid (HRW10.out.set HI10.out hc)
            clear hb hc hs
            simp only [Act.put, List.setIfInBounds_toArray, List.set_cons_zero, List.set_cons_succ]
            refine QK.normal ⟨HI11.out.rng, ?_⟩
            refine wpAnyH_done (by kernel_rfl) ?_ _
            refine NoPanic.normal ?_
            go_wp2_with fail
            go_meet
            exact ⟨rfl, ao8, cp8, HI11, HS8⟩
          · skip
            refine wpList_slice_one v7 rfl _ _ rfl Try.underlying28 Try.sizeLn Try.zeroLn Try.sf1 Try.sf2 (wrC (at_, b)) (wrC_len (e := (at_, b)) HB.out) rfl ?_
            intro v8 hb hbel hsz
            have HI8 := Lib.hid (HI7.out.below hbel)
            have HLN8 := Lib.hid (LnI.mk0 (e := (at_, b)) HI7.out hb)
            have HRW8 := Lib.hid (HRW7.out.below hbel)
            have HAP8 := Lib.hid HRW7.out.ap
            clear hb hbel hsz
            simp only [Act.put, List.setIfInBounds_toArray, List.set_cons_zero, List.set_cons_succ]
            refine QK.normal ⟨HI8.out.rng, ?_⟩
            refine' wpAnyH_one 3 (by kernel_rfl) ?_ ?_; rotate_left 1; (simp only [List.getElem?_toArray, List.getElem?_cons_zero, List.getElem?_cons_succ]; rfl)
            refine wpList_append_st v8 rfl (.tmp 65) (.tmp 67) rfl 0 (.slice (some ⟨v6.heap.size, 0, none⟩) 0 0) 0 [] rfl HRW8.out.own ao st.length c st rfl rfl HST.out.2.1 HST.out.2.2.2 (fun ad had j u hu => (HI8.out.bel.cell (block_of_cell (HST.out.1 ad had j u hu))).trans (HST.out.1 ad had j u hu)) HST.out.2.2.1 (Nat.zero_le _) st.length (Nat.zero_add _) ?_
            intro ao3 cp3 v9 hown hgr hat
            rw [List.nil_append] at hown
            have HI9 := Lib.hid (app_keep HI8.out HRW8.out hgr)
            have HRW9 := Lib.hid (app_row HI8.out HRW8.out hown hgr hat (fun e => own_lt hown e))
            have HLN9 := Lib.hid (app_ln HLN8.out HAP8.out hgr)
            have HAP9 := Lib.hid (app_ap HLN8.out HAP8.out hat)
            clear hown hgr hat
            simp only [Act.put, List.setIfInBounds_toArray, List.set_cons_zero, List.set_cons_succ]
            refine QK.normal ⟨HI9.out.rng, ?_⟩
            refine' wpAnyH_one 8 (by kernel_rfl) ?_ ?_; rotate_left 1; (simp only [List.getElem?_toArray, List.getElem?_cons_zero, List.getElem?_cons_succ]; rfl)
            refine wpList_append_st v9 rfl (.tmp 68) (.tmp 72) rfl 0 (.slice ao3 st.length cp3) st.length st rfl HRW9.out.own (some ⟨v7.heap.size, 0, none⟩) 1 1 [(at_, b)] rfl rfl HST1.out.1 (fun h => by cases h) (fun ad had j u hu => HLN9.out.cells ad had j u hu) HST1.out.2 (Nat.zero_le _) (st.length + 1) rfl ?_
            intro ao8 cp8 v10 hown hgr hat
            have HI10 := Lib.hid (app_keep HI9.out HRW9.out hgr)
            have HRW10 := Lib.hid (app_row HI9.out HRW9.out hown hgr hat (fun e => own_lt hown e))
            clear hown hgr hat
            simp only [Act.put, List.setIfInBounds_toArray, List.set_cons_zero, List.set_cons_succ]
            refine QK.normal ⟨HI10.out.rng, ?_⟩
            refine' wpAnyH_one 9 (by kernel_rfl) ?_ ?_; rotate_left 1; (simp only [List.getElem?_toArray, List.getElem?_cons_zero, List.getElem?_cons_succ]; rfl)
            go_wp2_with fail
            refine QK.normal ⟨HI10.out.rng, ?_⟩
            refine' wpAnyH_one 10 (by kernel_rfl) ?_ ?_; rotate_left 1; (simp only [List.getElem?_toArray, List.getElem?_cons_zero, List.getElem?_cons_succ]; rfl)
            refine wpList_store1 v10 rfl 28 (.tmp 74) (.tmp 73) rfl w.heap.size 2 30 (rQ size fm (.slice ao st.length c) false (decF arms) (decF fails) (ops + 1)) HI10.out.box rfl (.slice ao8 (st.length + 1) cp8) rfl (rQ_lt (by omega)) Try.infoS1 rfl rfl ?_
            intro v11 hb hc hs
            have HI11 := Lib.hid (show AskI w w.heap.size w1.heap.size w2.heap.size (rQ size fm (.slice ao8 (st.length + 1) cp8) false (decF arms) (decF fails) (ops + 1)) b v11 from HI10.out.set hb hc)
            have HS8 := Lib.hid (HRW10.out.set HI10.out hc)
            clear hb hc hs
            simp only [Act.put, List.setIfInBounds_toArray, List.set_cons_zero, List.set_cons_succ]
            refine QK.normal ⟨HI11.out.rng, ?_⟩
            refine wpAnyH_done (by kernel_rfl) ?_ _
            refine NoPanic.normal ?_
            go_wp2_with fail
            go_meet
            exact ⟨rfl, ao8, cp8, HI11, HS8⟩
        · skip
          refine wpList_slice_one v6 rfl _ _ rfl Try.underlying28 Try.sizeLn Try.zeroLn Try.sf1 Try.sf2 (wrC (at_, b)) (wrC_len (e := (at_, b)) HB.out) rfl ?_
          intro v7 hb hbel hsz
          have HI7 := Lib.hid (HI6.out.below hbel)
          have HLN7 := Lib.hid (LnI.mk0 (e := (at_, b)) HI6.out hb)
          clear hb hbel hsz
          simp only [Act.put, List.setIfInBounds_toArray, List.set_cons_zero, List.set_cons_succ]
          refine QK.normal ⟨HI7.out.rng, ?_⟩
          refine' wpAnyH_one 0 (by kernel_rfl) ?_ ?_; rotate_left 1; (simp only [List.getElem?_toArray, List.getElem?_cons_zero, List.getElem?_cons_succ]; rfl)
          refine wpList_slice_none v7 rfl rfl ?_
          intro v8 hrow hbel hsz
          have HI8 := Lib.hid (HI7.out.below hbel)
          have HRW8 := Lib.hid (RowI.mk0 HI7.out hrow hsz)
          have HLN8 := Lib.hid (HLN7.out.below hbel)
          have HAP8 := Lib.hid (HLN7.out.ap 0 0)
          clear hrow hbel hsz
          simp only [Act.put, List.setIfInBounds_toArray, List.set_cons_zero, List.set_cons_succ]
          refine QK.normal ⟨HI8.out.rng, ?_⟩
          refine' wpAnyH_one 3 (by kernel_rfl) ?_ ?_; rotate_left 1; (simp only [List.getElem?_toArray, List.getElem?_cons_zero, List.getElem?_cons_succ]; rfl)
          refine wpList_append_st v8 rfl (.tmp 65) (.tmp 67) rfl 0 (.slice (some ⟨v7.heap.size, 0, none⟩) 0 0) 0 [] rfl HRW8.out.own ao st.length c st rfl rfl HST.out.2.1 HST.out.2.2.2 (fun ad had j u hu => (HI8.out.bel.cell (block_of_cell (HST.out.1 ad had j u hu))).trans (HST.out.1 ad had j u hu)) HST.out.2.2.1 (Nat.zero_le _) st.length (Nat.zero_add _) ?_
          intro ao3 cp3 v9 hown hgr hat
          rw [List.nil_append] at hown
          have HI9 := Lib.hid (app_keep HI8.out HRW8.out hgr)
          have HRW9 := Lib.hid (app_row HI8.out HRW8.out hown hgr hat (fun e => own_lt hown e))
          have HLN9 := Lib.hid (app_ln HLN8.out HAP8.out hgr)
          have HAP9 := Lib.hid (app_ap HLN8.out HAP8.out hat)
          clear hown hgr hat
          simp only [Act.put, List.setIfInBounds_toArray, List.set_cons_zero, List.set_cons_succ]
          refine QK.normal ⟨HI9.out.rng, ?_⟩
          refine' wpAnyH_one 8 (by kernel_rfl) ?_ ?_; rotate_left 1; (simp only [List.getElem?_toArray, List.getElem?_cons_zero, List.getElem?_cons_succ]; rfl)
          refine wpList_append_st v9 rfl (.tmp 68) (.tmp 72) rfl 0 (.slice ao3 st.length cp3) st.length st rfl HRW9.out.own (some ⟨v6.heap.size, 0, none⟩) 1 1 [(at_, b)] rfl rfl HST1.out.1 (fun h => by cases h) (fun ad had j u hu => HLN9.out.cells ad had j u hu) HST1.out.2 (Nat.zero_le _) (st.length + 1) rfl ?_
          intro ao8 cp8 v10 hown hgr hat
          have HI10 := Lib.hid (app_keep HI9.out HRW9.out hgr)
          have HRW10 := Lib.hid (app_row HI9.out HRW9.out hown hgr hat (fun e => own_lt hown e))
          clear hown hgr hat
          simp only [Act.put, List.setIfInBounds_toArray, List.set_cons_zero, List.set_cons_succ]
          refine QK.normal ⟨HI10.out.rng, ?_⟩
          refine' wpAnyH_one 9 (by kernel_rfl) ?_ ?_; rotate_left 1; (simp only [List.getElem?_toArray, List.getElem?_cons_zero, List.getElem?_cons_succ]; rfl)
          go_wp2_with fail
          refine QK.normal ⟨HI10.out.rng, ?_⟩
          refine' wpAnyH_one 10 (by kernel_rfl) ?_ ?_; rotate_left 1; (simp only [List.getElem?_toArray, List.getElem?_cons_zero, List.getElem?_cons_succ]; rfl)
          refine wpList_store1 v10 rfl 28 (.tmp 74) (.tmp 73) rfl w.heap.size 2 30 (rQ size fm (.slice ao st.length c) false (decF arms) (decF fails) (ops + 1)) HI10.out.box rfl (.slice ao8 (st.length + 1) cp8) rfl (rQ_lt (by omega)) Try.infoS1 rfl rfl ?_
          intro v11 hb hc hs
          have HI11 := Lib.hid (show AskI w w.heap.size w1.heap.size w2.heap.size (rQ size fm (.slice ao8 (st.length + 1) cp8) false (decF arms) (decF fails) (ops + 1)) b v11 from HI10.out.set hb hc)
          have HS8 := Lib.hid (HRW10.out.set HI10.out hc)
          clear hb hc hs
          simp only [Act.put, List.setIfInBounds_toArray, List.set_cons_zero, List.set_cons_succ]
          refine QK.normal ⟨HI11.out.rng, ?_⟩
          refine wpAnyH_done (by kernel_rfl) ?_ _
          refine NoPanic.normal ?_
          go_wp2_with fail
          go_meet
          exact ⟨rfl, ao8, cp8, HI11, HS8⟩
      · skip
        refine wpList_slice_one v6 rfl _ _ rfl Try.underlying28 Try.sizeLn Try.zeroLn Try.sf1 Try.sf2 (wrC (at_, b)) (wrC_len (e := (at_, b)) HB.out) rfl ?_
        intro v7 hb hbel hsz
        have HI7 := Lib.hid (HI6.out.below hbel)
        have HLN7 := Lib.hid (LnI.mk0 (e := (at_, b)) HI6.out hb)
        clear hb hbel hsz
        simp only [Act.put, List.setIfInBounds_toArray, List.set_cons_zero, List.set_cons_succ]
        refine QK.normal ⟨HI7.out.rng, ?_⟩
        refine' wpAnyH_two 0 2 (by kernel_rfl) ?_ ?_ ?_ ?_; rotate_left 2; (simp only [List.getElem?_toArray, List.getElem?_cons_zero, List.getElem?_cons_succ]; rfl); (simp only [List.getElem?_toArray, List.getElem?_cons_zero, List.getElem?_cons_succ]; rfl)
        · skip
          refine wpList_slice_none v7 rfl rfl ?_
          intro v8 hrow hbel hsz
          have HI8 := Lib.hid (HI7.out.below hbel)
          have HRW8 := Lib.hid (RowI.mk0 HI7.out hrow hsz)
          have HLN8 := Lib.hid (HLN7.out.below hbel)
          have HAP8 := Lib.hid (HLN7.out.ap 0 0)
          clear hrow hbel hsz
          simp only [Act.put, List.setIfInBounds_toArray, List.set_cons_zero, List.set_cons_succ]
          refine QK.normal ⟨HI8.out.rng, ?_⟩
          refine' wpAnyH_one 2 (by kernel_rfl) ?_ ?_; rotate_left 1; (simp only [List.getElem?_toArray, List.getElem?_cons_zero, List.getElem?_cons_succ]; rfl)
          have k2 := HI8.out.box.cell 2
          simp only [rQ, List.getElem?_cons_succ, List.getElem?_cons_zero] at k2
          go_wp2_with fail
          clear k2
          refine QK.normal ⟨HI8.out.rng, ?_⟩
          refine' wpAnyH_one 3 (by kernel_rfl) ?_ ?_; rotate_left 1; (simp only [List.getElem?_toArray, List.getElem?_cons_zero, List.getElem?_cons_succ]; rfl)
          refine wpList_append_st v8 rfl (.tmp 65) (.tmp 67) rfl 0 (.slice (some ⟨v7.heap.size, 0, none⟩) 0 0) 0 [] rfl HRW8.out.own ao st.length c st rfl rfl HST.out.2.1 HST.out.2.2.2 (fun ad had j u hu => (HI8.out.bel.cell (block_of_cell (HST.out.1 ad had j u hu))).trans (HST.out.1 ad had j u hu)) HST.out.2.2.1 (Nat.zero_le _) st.length (Nat.zero_add _) ?_
          intro ao3 cp3 v9 hown hgr hat
          rw [List.nil_append] at hown
          have HI9 := Lib.hid (app_keep HI8.out HRW8.out hgr)
          have HRW9 := Lib.hid (app_row HI8.out HRW8.out hown hgr hat (fun e => own_lt hown e))
          have HLN9 := Lib.hid (app_ln HLN8.out HAP8.out hgr)
          have HAP9 := Lib.hid (app_ap HLN8.out HAP8.out hat)
          clear hown hgr hat
          simp only [Act.put, List.setIfInBounds_toArray, List.set_cons_zero, List.set_cons_succ]
          refine QK.normal ⟨HI9.out.rng, ?_⟩
          refine' wpAnyH_one 8 (by kernel_rfl) ?_ ?_; rotate_left 1; (simp only [List.getElem?_toArray, List.getElem?_cons_zero, List.getElem?_cons_succ]; rfl)
          refine wpList_append_st v9 rfl (.tmp 68) (.tmp 72) rfl 0 (.slice ao3 st.length cp3) st.length st rfl HRW9.out.own (some ⟨v6.heap.size, 0, none⟩) 1 1 [(at_, b)] rfl rfl HST1.out.1 (fun h => by cases h) (fun ad had j u hu => HLN9.out.cells ad had j u hu) HST1.out.2 (Nat.zero_le _) (st.length + 1) rfl ?_
          intro ao8 cp8 v10 hown hgr hat
          have HI10 := Lib.hid (app_keep HI9.out HRW9.out hgr)
          have HRW10 := Lib.hid (app_row HI9.out HRW9.out hown hgr hat (fun e => own_lt hown e))
          clear hown hgr hat
          simp only [Act.put, List.setIfInBounds_toArray, List.set_cons_zero, List.set_cons_succ]
          refine QK.normal ⟨HI10.out.rng, ?_⟩
          refine' wpAnyH_one 9 (by kernel_rfl) ?_ ?_; rotate_left 1; (simp only [List.getElem?_toArray, List.getElem?_cons_zero, List.getElem?_cons_succ]; rfl)
          go_wp2_with fail
          refine QK.normal ⟨HI10.out.rng, ?_⟩
          refine' wpAnyH_one 10 (by kernel_rfl) ?_ ?_; rotate_left 1; (simp only [List.getElem?_toArray, List.getElem?_cons_zero, List.getElem?_cons_succ]; rfl)
          refine wpList_store1 v10 rfl 28 (.tmp 74) (.tmp 73) rfl w.heap.size 2 30 (rQ size fm (.slice ao st.length c) false (decF arms) (decF fails) (ops + 1)) HI10.out.box rfl (.slice ao8 (st.length + 1) cp8) rfl (rQ_lt (by omega)) Try.infoS1 rfl rfl ?_
          intro v11 hb hc hs
          have HI11 := Lib.hid (show AskI w w.heap.size w1.heap.size w2.heap.size (rQ size fm (.slice ao8 (st.length + 1) cp8) false (decF arms) (decF fails) (ops + 1)) b v11 from HI10.out.set hb hc)
          have HS8 := Lib.hid (HRW10.out.set HI10.out hc)
          clear hb hc hs
          simp only [Act.put, List.setIfInBounds_toArray, List.set_cons_zero, List.set_cons_succ]
          refine QK.normal ⟨HI11.out.rng, ?_⟩
          refine wpAnyH_done (by kernel_rfl) ?_ _
          refine NoPanic.normal ?_
          go_wp2_with fail
          go_meet
          exact ⟨rfl, ao8, cp8, HI11, HS8⟩
        · skip
          have k2 := HI7.out.box.cell 2
          simp only [rQ, List.getElem?_cons_succ, List.getElem?_cons_zero] at k2
          go_wp2_with fail
          clear k2
          refine QK.normal ⟨HI7.out.rng, ?_⟩
          refine' wpAnyH_one 0 (by kernel_rfl) ?_ ?_; rotate_left 1; (simp only [List.getElem?_toArray, List.getElem?_cons_zero, List.getElem?_cons_succ]; rfl)
          refine wpList_slice_none v7 rfl rfl ?_
          intro v8 hrow hbel hsz
          have HI8 := Lib.hid (HI7.out.below hbel)
          have HRW8 := Lib.hid (RowI.mk0 HI7.out hrow hsz)
          have HLN8 := Lib.hid (HLN7.out.below hbel)
          have HAP8 := Lib.hid (HLN7.out.ap 0 0)
          clear hrow hbel hsz
          simp only [Act.put, List.setIfInBounds_toArray, List.set_cons_zero, List.set_cons_succ]
          refine QK.normal ⟨HI8.out.rng, ?_⟩
          refine' wpAnyH_one 3 (by kernel_rfl) ?_ ?_; rotate_left 1; (simp only [List.getElem?_toArray, List.getElem?_cons_zero, List.getElem?_cons_succ]; rfl)
          refine wpList_append_st v8 rfl (.tmp 65) (.tmp 67) rfl 0 (.slice (some ⟨v7.heap.size, 0, none⟩) 0 0) 0 [] rfl HRW8.out.own ao st.length c st rfl rfl HST.out.2.1 HST.out.2.2.2 (fun ad had j u hu => (HI8.out.bel.cell (block_of_cell (HST.out.1 ad had j u hu))).trans (HST.out.1 ad had j u hu)) HST.out.2.2.1 (Nat.zero_le _) st.length (Nat.zero_add _) ?_
          intro ao3 cp3 v9 hown hgr hat
          rw [List.nil_append] at hown
          have HI9 := Lib.hid (app_keep HI8.out HRW8.out hgr)
          have HRW9 := Lib.hid (app_row HI8.out HRW8.out hown hgr hat (fun e => own_lt hown e))
          have HLN9 := Lib.hid (app_ln HLN8.out HAP8.out hgr)
          have HAP9 := Lib.hid (app_ap HLN8.out HAP8.out hat)
          clear hown hgr hat
          simp only [Act.put, List.setIfInBounds_toArray, List.set_cons_zero, List.set_cons_succ]
          refine QK.normal ⟨HI9.out.rng, ?_⟩
          refine' wpAnyH_one 8 (by kernel_rfl) ?_ ?_; rotate_left 1; (simp only [List.getElem?_toArray, List.getElem?_cons_zero, List.getElem?_cons_succ]; rfl)
          refine wpList_append_st v9 rfl (.tmp 68) (.tmp 72) rfl 0 (.slice ao3 st.length cp3) st.length st rfl HRW9.out.own (some ⟨v6.heap.size, 0, none⟩) 1 1 [(at_, b)] rfl rfl HST1.out.1 (fun h => by cases h) (fun ad had j u hu => HLN9.out.cells ad had j u hu) HST1.out.2 (Nat.zero_le _) (st.length + 1) rfl ?_
          intro ao8 cp8 v10 hown hgr hat
          have HI10 := Lib.hid (app_keep HI9.out HRW9.out hgr)
          have HRW10 := Lib.hid (app_row HI9.out HRW9.out hown hgr hat (fun e => own_lt hown e))
          clear hown hgr hat
          simp only [Act.put, List.setIfInBounds_toArray, List.set_cons_zero, List.set_cons_succ]
          refine QK.normal ⟨HI10.out.rng, ?_⟩
          refine' wpAnyH_one 9 (by kernel_rfl) ?_ ?_; rotate_left 1; (simp only [List.getElem?_toArray, List.getElem?_cons_zero, List.getElem?_cons_succ]; rfl)
          go_wp2_with fail
          refine QK.normal ⟨HI10.out.rng, ?_⟩
          refine' wpAnyH_one 10 (by kernel_rfl) ?_ ?_; rotate_left 1; (simp only [List.getElem?_toArray, List.getElem?_cons_zero, List.getElem?_cons_succ]; rfl)
          refine wpList_store1 v10 rfl 28 (.tmp 74) (.tmp 73) rfl w.heap.size 2 30 (rQ size fm (.slice ao st.length c) false (decF arms) (decF fails) (ops + 1)) HI10.out.box rfl (.slice ao8 (st.length + 1) cp8) rfl (rQ_lt (by omega)) Try.infoS1 rfl rfl ?_
          intro v11 hb hc hs
          have HI11 := Lib.hid (show AskI w w.heap.size w1.heap.size w2.heap.size (rQ size fm (.slice ao8 (st.length + 1) cp8) false (decF arms) (decF fails) (ops + 1)) b v11 from HI10.out.set hb hc)
          have HS8 := Lib.hid (HRW10.out.set HI10.out hc)
          clear hb hc hs
          simp only [Act.put, List.setIfInBounds_toArray, List.set_cons_zero, List.set_cons_succ]
          refine QK.normal ⟨HI11.out.rng, ?_⟩
          refine wpAnyH_done (by kernel_rfl) ?_ _
          refine NoPanic.normal ?_
          go_wp2_with fail
          go_meet
          exact ⟨rfl, ao8, cp8, HI11, HS8⟩
    case rest =>
    obtain ⟨rfl, ao8, cp8, HW, HS⟩ := hcut
    have HI := Lib.hid (show (Try.prog.info? 30).map (·.size) = some (rQ size fm (.slice ao8 (st.length + 1) cp8) false (decF arms) (decF fails) (ops + 1)).length from Try.infoRd)
    have HL := Lib.hid (show (rQ size fm (.slice ao8 (st.length + 1) cp8) false (decF arms) (decF fails) (ops + 1)).length = rZ.length from rfl)
    have HO := Lib.hid (oneQ size fm ao8 (st.length + 1) cp8 false (decF arms) (decF fails) (ops + 1))
    have HR := Lib.hid (rangeW_blk HW.out.box)
    go_wp2_with (first
      | (with_reducible refine wpList_load_any rfl 30 (.tmp 4) rfl w.heap.size 0 rfl (rQ size fm (.slice ao8 (st.length + 1) cp8) false (decF arms) (decF fails) (ops + 1)) _ HR.out Try.underlying30 rfl HI.out ?_)
      | ((with_reducible refine wpList_store_blk wc rfl 30 (.tmp 8) (.tmp 81) rfl w2.heap.size 30 rZ (rQ size fm (.slice ao8 (st.length + 1) cp8) false (decF arms) (decF fails) (ops + 1)) HW.out.res rfl rfl HL.out HI.out HO.out ?_); intro w7 hb hc hs; have H7 := Lib.hid (And.intro hb hc); clear hb hc hs))
    refine bodyPost_ret (results_cellTmp Try.results49 _ _ w2.heap.size _ _ rfl H7.out.1 _ Try.underlying30 rfl HI.out _ rfl) rfl ⟨.slice ao8 (st.length + 1) cp8, rfl, ?_, ?_, ?_⟩
    · exact HS.out.st H7.out.2 HALL.out (by rw [List.length_append]; rfl)
    · intro k hk
      have := HS.out.far k hk
      have := H7.out.2.size
      have := HW.out.b0
      have := HW.out.b1
      have := HW.out.b2
      omega
    · exact below_ch HW.out.bel H7.out.2 (Nat.le_refl _) (fun k hk => by have : k = w2.heap.size := hk; have := HW.out.b1; have := HW.out.b2; omega)

end Go.Proofs.Yticcjaccpcnjhaa
