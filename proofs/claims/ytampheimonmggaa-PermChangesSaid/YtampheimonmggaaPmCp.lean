/-
  Law 11: copied, walked. Conditions: lengths within the form's reach.
-/
import Derived.Test.YtampheimonmggaaRgM
import Derived.Test.YtampheimonmggaaPmQ
namespace Go.Proofs.Ytampheimonmggaa
open Go Go.RowKit Go.Sort
set_option linter.unusedSimpArgs false
set_option linter.unusedVariables false

theorem ch_grown {w w' : World} {row : Option Nat} {g : Nat} (h : w.grownBy w' row) (hr : row = some g) : Ch (· = g) w w' :=
  ⟨h.os, h.tape, h.output, h.size, fun k hk hn => h.block k hk (fun e => by rw [hr] at e; injection e with e; exact hn e)⟩
theorem own_low {w : World} {b b' : Nat} {e : TypeId} {size : Nat} {v : Value} {n : Nat} {xs : List Value} (h : w.ownsRow b e size v n xs) (hb : b' ≤ b) : w.ownsRow b' e size v n xs := by
  obtain ⟨h1, h2 | ⟨g, cap, cur, h3, h4, h5⟩⟩ := h
  · exact ⟨h1, .inl h2⟩
  · exact ⟨h1, .inr ⟨g, cap, cur, h3, Nat.le_trans hb h4, h5⟩⟩

/-- a row that is made: not yet; empty; as it shall be -/
inductive RwS where
  | none
  | pend (z : Nat)
  | done (v : Value)
def RwS.own (b : Nat) (W : World) (xs : List Int) : RwS → Prop
  | .none => True
  | .pend z => W.ownsRow b 3 1 (.slice (some ⟨z, 0, Option.none⟩) 0 0) 0 (ofK .i64 ([] : List Int))
  | .done v => ∃ n, W.ownsRow b 3 1 v n (ofK .i64 xs)
def RwS.at (k : Nat) : RwS → Prop
  | .none => False
  | .pend z => k = z
  | .done v => v.ownBlock = some k
theorem RwS.own.lt {b : Nat} {W : World} {xs : List Int} {r : RwS} (h : r.own b W xs) {k : Nat} (hk : r.at k) : b ≤ k ∧ k < W.heap.size := by
  cases r with
  | none => exact hk.elim
  | pend z => cases hk; exact World.ownsRow.lt h _ rfl
  | done v => obtain ⟨n, h⟩ := h; exact h.lt k hk
theorem RwS.own.ch {b : Nat} {W W' : World} {S : Nat → Prop} {xs : List Int} {r : RwS} (h : r.own b W xs) (hc : Ch S W W') (hS : ∀ k, r.at k → ¬ S k) : r.own b W' xs := by
  cases r with
  | none => trivial
  | pend z => exact own_ch h hc (fun k hk => hS k (by injection hk with hk; exact hk.symm))
  | done v => obtain ⟨n, h⟩ := h; exact ⟨n, own_ch h hc hS⟩
def upd (R : Nat → RwS) (i : Nat) (s : RwS) : Nat → RwS := fun j => if j = i then s else R j
theorem upd_i (R : Nat → RwS) (i : Nat) (s : RwS) : upd R i s i = s := if_pos rfl
theorem upd_j {R : Nat → RwS} {i j : Nat} {s : RwS} (h : j ≠ i) : upd R i s j = R j := if_neg h
def P3 (a b c : List Int) : Nat → List Int
  | 0 => a
  | 1 => b
  | _ => c
/-- what is known within the region that makes the rows -/
structure CpI (w : World) (g b : Nat) (C : List Value) (P : Nat → List Int) (R : Nat → RwS) (W : World) : Prop where
  box : Blk W w.heap.size 24 C
  res : Blk W g 24 (pmC 0 0 (.slice none 0 0) (.slice none 0 0) (.slice none 0 0))
  g1 : w.heap.size < g
  g2 : g < b
  sz : b ≤ W.heap.size
  bel : Below w.heap.size w W
  own : ∀ i, (R i).own b W (P i)
  ap : ∀ i j z, i ≠ j → R j = .pend z → ∀ k, (R i).at k → k ≠ z
section
variable {w W W' : World} {g b : Nat} {C : List Value} {P : Nat → List Int} {R : Nat → RwS}
theorem CpI.low (h : CpI w g b C P R W) (hb : Below W.heap.size W W') : CpI w g b C P R W' :=
  ⟨h.box.below hb h.box.lt, h.res.below hb h.res.lt, h.g1, h.g2, Nat.le_trans h.sz hb.size, below_thn h.bel hb (Nat.le_refl _), fun i => (h.own i).ch (Ch.of_below (S := fun _ => False) hb (Nat.le_refl _)) (fun _ _ h => h), h.ap⟩
theorem CpI.built (h : CpI w g b C P R W) (i : Nat) (ho : W'.ownsRow W.heap.size 3 1 (.slice (some ⟨W.heap.size, 0, none⟩) 0 0) 0 (ofK .i64 ([] : List Int))) (hb : Below W.heap.size W W') : CpI w g b C P (upd R i (.pend W.heap.size)) W' := by
  have h' := h.low hb
  refine ⟨h'.box, h'.res, h.g1, h.g2, h'.sz, h'.bel, fun j => ?_, fun i' j z hij hz k hk => ?_⟩
  · by_cases e : j = i
    · subst e; rw [upd_i]; exact own_low ho h.sz
    · rw [upd_j e]; exact h'.own j
  · by_cases e : j = i
    · subst e
      rw [upd_i] at hz
      rw [upd_j hij] at hk
      injection hz with hz
      have := ((h.own i').lt hk).2
      omega
    · rw [upd_j e] at hz
      by_cases e' : i' = i
      · subst e'
        rw [upd_i] at hk
        have e1 : k = W.heap.size := hk
        have h1 := h.own j
        rw [hz] at h1
        have := (h1.lt (k := z) rfl).2
        omega
      · rw [upd_j e'] at hk
        exact h.ap i' j z hij hz k hk
theorem CpI.pend (h : CpI w g b C P R W) (i : Nat) {z : Nat} (hz : R i = .pend z) : W.ownsRow b 3 1 (.slice (some ⟨z, 0, none⟩) 0 0) 0 (ofK .i64 ([] : List Int)) := by
  have h1 := h.own i
  rw [hz] at h1; exact h1
theorem CpI.appended (h : CpI w g b C P R W) (i : Nat) {z : Nat} (hz : R i = .pend z) {ao : Option Addr} {N c : Nat} (ho : W'.ownsRow b 3 1 (.slice ao N c) N (ofK .i64 ([] ++ P i))) (hgr : W.grownBy W' (some z))
    (hob : (Value.slice ao N c).ownBlock = some z ∨ (Value.slice ao N c).ownBlock = some W.heap.size) : CpI w g b C P (upd R i (.done (.slice ao N c))) W' := by
  have hc := ch_grown hgr rfl
  have hi := h.own i
  rw [hz] at hi
  have hzb := hi.lt (k := z) rfl
  have h1 := h.g1; have h2 := h.g2
  refine ⟨h.box.keep hc (fun e => by omega), h.res.keep hc (fun e => by omega), h1, h2, Nat.le_trans h.sz hgr.size, below_ch h.bel hc (Nat.le_refl _) (fun k hk => by have e : k = z := hk; omega), fun j => ?_, fun i' j z' hij hz' k hk => ?_⟩
  · by_cases e : j = i
    · subst e; rw [upd_i]; exact ⟨N, ho⟩
    · rw [upd_j e]; exact (h.own j).ch hc (fun k hk e2 => h.ap j i z e hz k hk e2)
  · by_cases e : j = i
    · subst e; rw [upd_i] at hz'; cases hz'
    · rw [upd_j e] at hz'
      by_cases e' : i' = i
      · subst e'
        rw [upd_i] at hk
        have h3 := h.own j
        rw [hz'] at h3
        have h4 := h3.lt (k := z') rfl
        have h5 : k ≠ z' → k ≠ z' := id
        have hk : (Value.slice ao N c).ownBlock = some k := hk
        rcases hob with hob | hob
        · rw [hob] at hk
          injection hk with hk
          have := h.ap i' j z' hij hz' z (by rw [hz]; rfl)
          omega
        · rw [hob] at hk
          injection hk with hk
          omega
      · rw [upd_j e'] at hk
        exact h.ap i' j z' hij hz' k hk
theorem CpI.set (h : CpI w g b C P R W) (j : Nat) (v : Value) : CpI w g b (C.set j v) P R (W.setCell ⟨w.heap.size, j, none⟩ v) := by
  have hc := Ch.set W ⟨w.heap.size, j, none⟩ v
  have h1 := h.g1; have h2 := h.g2
  exact ⟨h.box.set j v, h.res.keep hc (fun e => by have e : g = w.heap.size := e; omega), h1, h2, Nat.le_trans h.sz hc.size, below_ch h.bel hc (Nat.le_refl _) (fun k hk => by have e : k = w.heap.size := hk; omega),
    fun i => (h.own i).ch hc (fun k hk e => by have e : k = w.heap.size := e; have := ((h.own i).lt hk).1; omega), h.ap⟩
theorem CpI.fin (h : CpI w g b C P R W) {v0 v1 v2 : Value} {o e : Int} (h0 : R 0 = .done v0) (h1 : R 1 = .done v1) (h2 : R 2 = .done v2) (hc : Ch (· = g) W W') : PmS W' ⟨o, e, P 0, P 1, P 2⟩ v0 v1 v2 ∧ Below w.heap.size w W' ∧ AbvS w.heap.size v0 v1 v2 := by
  have g1 := h.g1; have g2 := h.g2
  have k : ∀ (i : Nat) (v : Value), R i = .done v → Sl W' v (ofK .i64 (P i)) ∧ Abv w.heap.size v := fun i v hv => by
    have hi := h.own i
    have hl := fun k hk => hi.lt (k := k) hk
    have hi' := hi.ch hc (fun k hk e => by have e : k = g := e; have := (hi.lt hk).1; omega)
    rw [hv] at hi' hl
    obtain ⟨n, hi'⟩ := hi'
    exact ⟨Sl.of_owns hi', fun k hk => by have := (hl k hk).1; omega⟩
  exact ⟨⟨(k 0 _ h0).1, (k 1 _ h1).1, (k 2 _ h2).1⟩, below_ch h.bel hc (Nat.le_refl _) (fun k hk => by have e : k = g := hk; omega), ⟨(k 0 _ h0).2, (k 1 _ h1).2, (k 2 _ h2).2⟩⟩
end


set_option maxRecDepth 100000 in
set_option maxHeartbeats 16000000 in
theorem copied_any (p : PmD) (vr vq vg : Value) (w : World) (hp : PmS w p vr vq vg) (hl : PmL p) :
    Calls Try.prog 14 #[.agg (pmC p.o p.e vr vq vg).toArray] w (fun e w' => ∃ ur uq ug, e = .returned (.agg (pmC p.o p.e ur uq ug).toArray) ∧ PmS w' p ur uq ug ∧ Below w.heap.size w w' ∧ AbvS w.heap.size ur uq ug) := by
  obtain ⟨ra, rc, rfl, -⟩ := hp.1.shape
  obtain ⟨qa, qc, rfl, -⟩ := hp.2.1.shape
  obtain ⟨ga, gc, rfl, -⟩ := hp.2.2.shape
  obtain ⟨o, pe, pr, pq, pg⟩ := p
  simp only at hp ⊢
  simp only [length_ofK] at hp ⊢
  have HLEN := Lib.hid hl
  obtain ⟨rl, hrl⟩ : ∃ n, pr.length = n := ⟨_, rfl⟩
  have HLrl := Lib.hid hrl
  rw [hrl] at hp ⊢
  obtain ⟨ql, hql⟩ : ∃ n, pq.length = n := ⟨_, rfl⟩
  have HLql := Lib.hid hql
  rw [hql] at hp ⊢
  obtain ⟨gl, hgl⟩ : ∃ n, pg.length = n := ⟨_, rfl⟩
  have HLgl := Lib.hid hgl
  rw [hgl] at hp ⊢
  have HLL := Lib.hid (show rl ≤ 1000000 ∧ ql ≤ 1000000 ∧ gl ≤ 1000000 from by have h := HLEN.out; unfold PmL at h; simp only at h; omega)
  clear hl hrl hql hgl HLEN
  have H0 := Lib.hid (show PmS w ⟨o, pe, pr, pq, pg⟩ (Value.slice ra rl rc) (Value.slice qa ql qc) (Value.slice ga gl gc) ∧ Below w.heap.size w w from ⟨hp, Below.refl _ _⟩)
  clear hp
  go_enter Try.func14, Try.ntmps14
  go_wp2_with (first
    | ((with_reducible refine wpList_box_blk w rfl 24 (.tmp 0) rfl (pmC o pe (Value.slice ra rl rc) (Value.slice qa ql qc) (Value.slice ga gl gc)) rfl ?_); intro a1 hb hbel hsz; have HA1 := Lib.hid (show PmS a1 ⟨o, pe, pr, pq, pg⟩ (Value.slice ra rl rc) (Value.slice qa ql qc) (Value.slice ga gl gc) ∧ Below w.heap.size w a1 ∧ Blk a1 w.heap.size 24 (pmC o pe (Value.slice ra rl rc) (Value.slice qa ql qc) (Value.slice ga gl gc)) from ⟨H0.out.1.below hbel, below_thn H0.out.2 hbel (Nat.le_refl _), hb⟩); clear hb hbel hsz)
    | ((with_reducible refine wpList_alloc_blk a1 rfl 24 rfl (pmC 0 0 (.slice none 0 0) (.slice none 0 0) (.slice none 0 0)) Try.zeroPm ?_); intro a2 hb hbel hsz; have HA2 := Lib.hid (show PmS a2 ⟨o, pe, pr, pq, pg⟩ (Value.slice ra rl rc) (Value.slice qa ql qc) (Value.slice ga gl gc) ∧ Below w.heap.size w a2 ∧ Blk a2 w.heap.size 24 (pmC o pe (Value.slice ra rl rc) (Value.slice qa ql qc) (Value.slice ga gl gc)) ∧ Blk a2 a1.heap.size 24 (pmC 0 0 (.slice none 0 0) (.slice none 0 0) (.slice none 0 0)) ∧ w.heap.size < a1.heap.size from ⟨HA1.out.1.below hbel, below_thn HA1.out.2.1 hbel (Nat.le_refl _), HA1.out.2.2.below hbel HA1.out.2.2.lt, hb, HA1.out.2.2.lt⟩); clear hb hbel hsz))
  have HPS := Lib.hid H0.out.1
  have K0 : CpI w a1.heap.size a2.heap.size (pmC o pe (Value.slice ra rl rc) (Value.slice qa ql qc) (Value.slice ga gl gc)) (P3 pr pq pg) (fun _ => .none) a2 := ⟨HA2.out.2.2.1, HA2.out.2.2.2.1, HA2.out.2.2.2.2, HA2.out.2.2.2.1.lt, Nat.le_refl _, HA2.out.2.1, fun _ => trivial, fun _ _ _ _ h => nomatch h⟩
  clear HA2 HA1 H0
  go_wp2_with fail
  refine wp_region_marked (fun w' => w'.cell? ⟨w.heap.size, 2, none⟩ = some (.slice ra rl rc) ∧ w'.cell? ⟨w.heap.size, 3, none⟩ = some (.slice qa ql qc) ∧ w'.cell? ⟨w.heap.size, 4, none⟩ = some (.slice ga gl gc)) 13 [1, 2, 5, 6, 9, 10] 12 (by kernel_rfl) rfl (by kernel_rfl) (by kernel_rfl) ⟨K0.box.cell 2, K0.box.cell 3, K0.box.cell 4⟩ ?_
  iterate 6 (refine' HeldL.run ?_ ?_ ?_ ?_; rotate_left 2; (simp only [List.getElem?_toArray, List.getElem?_cons_zero, List.getElem?_cons_succ]; rfl); rfl; (rintro w' ⟨k0, k1, k2⟩; go_simp; with_reducible rfl); simp only [Act.put, List.setIfInBounds_toArray, List.set_cons_zero, List.set_cons_succ])
  have sm := (Sm.refl a2).drew
  have HV2 := K0.low (sm.below _)
  clear sm
  generalize a2.drew = v1 at HV2 ⊢
  refine' wpAnyM_three 0 4 8 (by kernel_rfl) ?_ ?_ ?_ ?_ ?_ ?_; rotate_left 3; (simp only [List.getElem?_toArray, List.getElem?_cons_zero, List.getElem?_cons_succ]; rfl); (simp only [List.getElem?_toArray, List.getElem?_cons_zero, List.getElem?_cons_succ]; rfl); (simp only [List.getElem?_toArray, List.getElem?_cons_zero, List.getElem?_cons_succ]; rfl)
  · skip
    refine wpList_slice_is0 v1 rfl rfl ?_
    intro u3 hown hbel hsz
    have K4 := HV2.built 0 hown hbel
    clear hown hbel hsz
    simp only [Act.put, List.setIfInBounds_toArray, List.set_cons_zero, List.set_cons_succ]
    refine QK.normal ⟨fun _ => ⟨K4.box.cell 2, K4.box.cell 3, K4.box.cell 4⟩, ?_⟩
    refine' wpAnyM_three 3 4 8 (by kernel_rfl) ?_ ?_ ?_ ?_ ?_ ?_; rotate_left 3; (simp only [List.getElem?_toArray, List.getElem?_cons_zero, List.getElem?_cons_succ]; rfl); (simp only [List.getElem?_toArray, List.getElem?_cons_zero, List.getElem?_cons_succ]; rfl); (simp only [List.getElem?_toArray, List.getElem?_cons_zero, List.getElem?_cons_succ]; rfl)
    · skip
      at_builtin
      refine wpList_append_is a2.heap.size (.tmp 3) (.tmp 5) rfl rfl (K4.pend 0 rfl) rfl rfl (HPS.out.below K4.bel).1 rl (by rw [HLrl.out]; omega) (by have := HLL.out; omega) K4.sz ?_
      intro a8 c7 u5 hown hgr hob
      have K6 := K4.appended 0 rfl hown hgr hob
      clear hown hgr hob
      try simp only [Act.put, List.setIfInBounds_toArray, List.set_cons_zero, List.set_cons_succ]
      refine QK.normal ⟨fun _ => ⟨K6.box.cell 2, K6.box.cell 3, K6.box.cell 4⟩, ?_⟩
      refine wpAnyM_takes (by kernel_rfl) noPanic_any (fuel := 9) ⟨K6.box.cell 2, K6.box.cell 3, K6.box.cell 4⟩ [12] _ _ (by kernel_rfl) ?_
      refine' HeldL.run ?_ ?_ ?_ ?_; rotate_left 2; (simp only [List.getElem?_toArray, List.getElem?_cons_zero, List.getElem?_cons_succ]; rfl); rfl; (rintro w' ⟨k0, k1, k2⟩; go_simp; with_reducible rfl); simp only [Act.put, List.setIfInBounds_toArray, List.set_cons_zero, List.set_cons_succ]
      refine' wpAnyM_two 4 8 (by kernel_rfl) ?_ ?_ ?_ ?_; rotate_left 2; (simp only [List.getElem?_toArray, List.getElem?_cons_zero, List.getElem?_cons_succ]; rfl); (simp only [List.getElem?_toArray, List.getElem?_cons_zero, List.getElem?_cons_succ]; rfl)
      · skip
        refine wpList_slice_is0 u5 rfl rfl ?_
        intro u9 hown hbel hsz
        have K10 := K6.built 1 hown hbel
        clear hown hbel hsz
        simp only [Act.put, List.setIfInBounds_toArray, List.set_cons_zero, List.set_cons_succ]
        refine QK.normal ⟨fun _ => ⟨K10.box.cell 2, K10.box.cell 3, K10.box.cell 4⟩, ?_⟩
        refine' wpAnyM_two 7 8 (by kernel_rfl) ?_ ?_ ?_ ?_; rotate_left 2; (simp only [List.getElem?_toArray, List.getElem?_cons_zero, List.getElem?_cons_succ]; rfl); (simp only [List.getElem?_toArray, List.getElem?_cons_zero, List.getElem?_cons_succ]; rfl)
        · skip
          at_builtin
          refine wpList_append_is a2.heap.size (.tmp 7) (.tmp 9) rfl rfl (K10.pend 1 rfl) rfl rfl (HPS.out.below K10.bel).2.1 ql (by rw [HLql.out]; omega) (by have := HLL.out; omega) K10.sz ?_
          intro a14 c13 u11 hown hgr hob
          have K12 := K10.appended 1 rfl hown hgr hob
          clear hown hgr hob
          try simp only [Act.put, List.setIfInBounds_toArray, List.set_cons_zero, List.set_cons_succ]
          refine QK.normal ⟨fun _ => ⟨K12.box.cell 2, K12.box.cell 3, K12.box.cell 4⟩, ?_⟩
          refine' wpAnyM_one 8 (by kernel_rfl) ?_ ?_; rotate_left; (simp only [List.getElem?_toArray, List.getElem?_cons_zero, List.getElem?_cons_succ]; rfl)
          refine wpList_slice_is0 u11 rfl rfl ?_
          intro u15 hown hbel hsz
          have K16 := K12.built 2 hown hbel
          clear hown hbel hsz
          simp only [Act.put, List.setIfInBounds_toArray, List.set_cons_zero, List.set_cons_succ]
          refine QK.normal ⟨fun _ => ⟨K16.box.cell 2, K16.box.cell 3, K16.box.cell 4⟩, ?_⟩
          refine' wpAnyM_one 11 (by kernel_rfl) ?_ ?_; rotate_left; (simp only [List.getElem?_toArray, List.getElem?_cons_zero, List.getElem?_cons_succ]; rfl)
          at_builtin
          refine wpList_append_is a2.heap.size (.tmp 11) (.tmp 13) rfl rfl (K16.pend 2 rfl) rfl rfl (HPS.out.below K16.bel).2.2 gl (by rw [HLgl.out]; omega) (by have := HLL.out; omega) K16.sz ?_
          intro a20 c19 u17 hown hgr hob
          have K18 := K16.appended 2 rfl hown hgr hob
          clear hown hgr hob
          try simp only [Act.put, List.setIfInBounds_toArray, List.set_cons_zero, List.set_cons_succ]
          refine QK.normal ⟨fun _ => ⟨K18.box.cell 2, K18.box.cell 3, K18.box.cell 4⟩, ?_⟩
          refine' wpAnyM_one 13 (by kernel_rfl) ?_ ?_; rotate_left; (simp only [List.getElem?_toArray, List.getElem?_cons_zero, List.getElem?_cons_succ]; rfl)
          have c1 := K18.box.cell 2
          have f1 := K18.box.free 2
          simp only [pmC, List.getElem?_cons_zero, List.getElem?_cons_succ] at c1
          try simp only [Act.put]
          go_wp2_with fail
          clear c1 f1
          have K21 : CpI w a1.heap.size a2.heap.size (pmC o pe (Value.slice a8 rl c7) (Value.slice qa ql qc) (Value.slice ga gl gc)) _ _ (u17.setCell ⟨w.heap.size, 2, none⟩ (Value.slice a8 rl c7)) := K18.set 2 (Value.slice a8 rl c7)
          generalize (u17.setCell ⟨w.heap.size, 2, none⟩ (Value.slice a8 rl c7)) = u22 at K21 ⊢
          refine QK.normal ⟨fun h => absurd h (by decide), ?_⟩
          refine' wpAnyM_one 14 (by kernel_rfl) ?_ ?_; rotate_left; (simp only [List.getElem?_toArray, List.getElem?_cons_zero, List.getElem?_cons_succ]; rfl)
          try simp only [Act.put]
          go_wp2_with fail
          refine QK.normal ⟨fun h => absurd h (by decide), ?_⟩
          refine' wpAnyM_one 15 (by kernel_rfl) ?_ ?_; rotate_left; (simp only [List.getElem?_toArray, List.getElem?_cons_zero, List.getElem?_cons_succ]; rfl)
          have c1 := K21.box.cell 3
          have f1 := K21.box.free 3
          simp only [pmC, List.getElem?_cons_zero, List.getElem?_cons_succ] at c1
          try simp only [Act.put]
          go_wp2_with fail
          clear c1 f1
          have K23 : CpI w a1.heap.size a2.heap.size (pmC o pe (Value.slice a8 rl c7) (Value.slice a14 ql c13) (Value.slice ga gl gc)) _ _ (u22.setCell ⟨w.heap.size, 3, none⟩ (Value.slice a14 ql c13)) := K21.set 3 (Value.slice a14 ql c13)
          generalize (u22.setCell ⟨w.heap.size, 3, none⟩ (Value.slice a14 ql c13)) = u24 at K23 ⊢
          refine QK.normal ⟨fun h => absurd h (by decide), ?_⟩
          refine' wpAnyM_one 16 (by kernel_rfl) ?_ ?_; rotate_left; (simp only [List.getElem?_toArray, List.getElem?_cons_zero, List.getElem?_cons_succ]; rfl)
          try simp only [Act.put]
          go_wp2_with fail
          refine QK.normal ⟨fun h => absurd h (by decide), ?_⟩
          refine' wpAnyM_one 17 (by kernel_rfl) ?_ ?_; rotate_left; (simp only [List.getElem?_toArray, List.getElem?_cons_zero, List.getElem?_cons_succ]; rfl)
          have c1 := K23.box.cell 4
          have f1 := K23.box.free 4
          simp only [pmC, List.getElem?_cons_zero, List.getElem?_cons_succ] at c1
          try simp only [Act.put]
          go_wp2_with fail
          clear c1 f1
          have K25 : CpI w a1.heap.size a2.heap.size (pmC o pe (Value.slice a8 rl c7) (Value.slice a14 ql c13) (Value.slice a20 gl c19)) _ _ (u24.setCell ⟨w.heap.size, 4, none⟩ (Value.slice a20 gl c19)) := K23.set 4 (Value.slice a20 gl c19)
          generalize (u24.setCell ⟨w.heap.size, 4, none⟩ (Value.slice a20 gl c19)) = u26 at K25 ⊢
          refine QK.normal ⟨fun h => absurd h (by decide), ?_⟩
          refine wpAnyM_done (by kernel_rfl) ?_ _
          refine NoPanic.normal ?_
          go_wp2_with (first
    | (with_reducible refine wpList_load_any rfl 24 (.tmp 1) rfl w.heap.size 0 rfl (pmC o pe (Value.slice a8 rl c7) (Value.slice a14 ql c13) (Value.slice a20 gl c19)) _ (rangeW_blk K25.box) Try.underlying24 rfl (pmC_info _ _ _ _ _) ?_)
    | ((with_reducible refine wpList_store_blk u26 rfl 24 (.tmp 2) (.tmp 18) rfl a1.heap.size 24 (pmC 0 0 (.slice none 0 0) (.slice none 0 0) (.slice none 0 0)) (pmC o pe (Value.slice a8 rl c7) (Value.slice a14 ql c13) (Value.slice a20 gl c19)) K25.res rfl rfl rfl (pmC_info _ _ _ _ _) (pmC_one _ _ _ _ _ _ _ _ _ _ _) ?_); intro w9 hb hc hs; have H9 := Lib.hid (show Blk w9 a1.heap.size 24 (pmC o pe (Value.slice a8 rl c7) (Value.slice a14 ql c13) (Value.slice a20 gl c19)) ∧ Ch (· = a1.heap.size) u26 w9 from ⟨hb, hc⟩); clear hb hc hs))
          refine bodyPost_ret (results_blk Try.results14 _ _ a1.heap.size _ _ rfl H9.out.1 _ Try.underlying24 rfl (pmC_info _ _ _ _ _)) rfl ?_
          have k := K25.fin (o := o) (e := pe) rfl rfl rfl H9.out.2
          exact ⟨_, _, _, rfl, k.1, k.2.1, k.2.2⟩
        · skip
          refine wpList_slice_is0 u9 rfl rfl ?_
          intro u27 hown hbel hsz
          have K28 := K10.built 2 hown hbel
          clear hown hbel hsz
          simp only [Act.put, List.setIfInBounds_toArray, List.set_cons_zero, List.set_cons_succ]
          refine QK.normal ⟨fun _ => ⟨K28.box.cell 2, K28.box.cell 3, K28.box.cell 4⟩, ?_⟩
          refine' wpAnyM_one 7 (by kernel_rfl) ?_ ?_; rotate_left; (simp only [List.getElem?_toArray, List.getElem?_cons_zero, List.getElem?_cons_succ]; rfl)
          at_builtin
          refine wpList_append_is a2.heap.size (.tmp 7) (.tmp 9) rfl rfl (K28.pend 1 rfl) rfl rfl (HPS.out.below K28.bel).2.1 ql (by rw [HLql.out]; omega) (by have := HLL.out; omega) K28.sz ?_
          intro a32 c31 u29 hown hgr hob
          have K30 := K28.appended 1 rfl hown hgr hob
          clear hown hgr hob
          try simp only [Act.put, List.setIfInBounds_toArray, List.set_cons_zero, List.set_cons_succ]
          refine QK.normal ⟨fun _ => ⟨K30.box.cell 2, K30.box.cell 3, K30.box.cell 4⟩, ?_⟩
          refine' wpAnyM_one 11 (by kernel_rfl) ?_ ?_; rotate_left; (simp only [List.getElem?_toArray, List.getElem?_cons_zero, List.getElem?_cons_succ]; rfl)
          at_builtin
          refine wpList_append_is a2.heap.size (.tmp 11) (.tmp 13) rfl rfl (K30.pend 2 rfl) rfl rfl (HPS.out.below K30.bel).2.2 gl (by rw [HLgl.out]; omega) (by have := HLL.out; omega) K30.sz ?_
          intro a36 c35 u33 hown hgr hob
          have K34 := K30.appended 2 rfl hown hgr hob
          clear hown hgr hob
          try simp only [Act.put, List.setIfInBounds_toArray, List.set_cons_zero, List.set_cons_succ]
          refine QK.normal ⟨fun _ => ⟨K34.box.cell 2, K34.box.cell 3, K34.box.cell 4⟩, ?_⟩
          refine' wpAnyM_one 13 (by kernel_rfl) ?_ ?_; rotate_left; (simp only [List.getElem?_toArray, List.getElem?_cons_zero, List.getElem?_cons_succ]; rfl)
          have c1 := K34.box.cell 2
          have f1 := K34.box.free 2
          simp only [pmC, List.getElem?_cons_zero, List.getElem?_cons_succ] at c1
          try simp only [Act.put]
          go_wp2_with fail
          clear c1 f1
          have K37 : CpI w a1.heap.size a2.heap.size (pmC o pe (Value.slice a8 rl c7) (Value.slice qa ql qc) (Value.slice ga gl gc)) _ _ (u33.setCell ⟨w.heap.size, 2, none⟩ (Value.slice a8 rl c7)) := K34.set 2 (Value.slice a8 rl c7)
          generalize (u33.setCell ⟨w.heap.size, 2, none⟩ (Value.slice a8 rl c7)) = u38 at K37 ⊢
          refine QK.normal ⟨fun h => absurd h (by decide), ?_⟩
          refine' wpAnyM_one 14 (by kernel_rfl) ?_ ?_; rotate_left; (simp only [List.getElem?_toArray, List.getElem?_cons_zero, List.getElem?_cons_succ]; rfl)
          try simp only [Act.put]
          go_wp2_with fail
          refine QK.normal ⟨fun h => absurd h (by decide), ?_⟩
          refine' wpAnyM_one 15 (by kernel_rfl) ?_ ?_; rotate_left; (simp only [List.getElem?_toArray, List.getElem?_cons_zero, List.getElem?_cons_succ]; rfl)
          have c1 := K37.box.cell 3
          have f1 := K37.box.free 3
          simp only [pmC, List.getElem?_cons_zero, List.getElem?_cons_succ] at c1
          try simp only [Act.put]
          go_wp2_with fail
          clear c1 f1
          have K39 : CpI w a1.heap.size a2.heap.size (pmC o pe (Value.slice a8 rl c7) (Value.slice a32 ql c31) (Value.slice ga gl gc)) _ _ (u38.setCell ⟨w.heap.size, 3, none⟩ (Value.slice a32 ql c31)) := K37.set 3 (Value.slice a32 ql c31)
          generalize (u38.setCell ⟨w.heap.size, 3, none⟩ (Value.slice a32 ql c31)) = u40 at K39 ⊢
          refine QK.normal ⟨fun h => absurd h (by decide), ?_⟩
          refine' wpAnyM_one 16 (by kernel_rfl) ?_ ?_; rotate_left; (simp only [List.getElem?_toArray, List.getElem?_cons_zero, List.getElem?_cons_succ]; rfl)
          try simp only [Act.put]
          go_wp2_with fail
          refine QK.normal ⟨fun h => absurd h (by decide), ?_⟩
          refine' wpAnyM_one 17 (by kernel_rfl) ?_ ?_; rotate_left; (simp only [List.getElem?_toArray, List.getElem?_cons_zero, List.getElem?_cons_succ]; rfl)
          have c1 := K39.box.cell 4
          have f1 := K39.box.free 4
          simp only [pmC, List.getElem?_cons_zero, List.getElem?_cons_succ] at c1
          try simp only [Act.put]
          go_wp2_with fail
          clear c1 f1
          have K41 : CpI w a1.heap.size a2.heap.size (pmC o pe (Value.slice a8 rl c7) (Value.slice a32 ql c31) (Value.slice a36 gl c35)) _ _ (u40.setCell ⟨w.heap.size, 4, none⟩ (Value.slice a36 gl c35)) := K39.set 4 (Value.slice a36 gl c35)
          generalize (u40.setCell ⟨w.heap.size, 4, none⟩ (Value.slice a36 gl c35)) = u42 at K41 ⊢
          refine QK.normal ⟨fun h => absurd h (by decide), ?_⟩
          refine wpAnyM_done (by kernel_rfl) ?_ _
          refine NoPanic.normal ?_
          go_wp2_with (first
    | (with_reducible refine wpList_load_any rfl 24 (.tmp 1) rfl w.heap.size 0 rfl (pmC o pe (Value.slice a8 rl c7) (Value.slice a32 ql c31) (Value.slice a36 gl c35)) _ (rangeW_blk K41.box) Try.underlying24 rfl (pmC_info _ _ _ _ _) ?_)
    | ((with_reducible refine wpList_store_blk u42 rfl 24 (.tmp 2) (.tmp 18) rfl a1.heap.size 24 (pmC 0 0 (.slice none 0 0) (.slice none 0 0) (.slice none 0 0)) (pmC o pe (Value.slice a8 rl c7) (Value.slice a32 ql c31) (Value.slice a36 gl c35)) K41.res rfl rfl rfl (pmC_info _ _ _ _ _) (pmC_one _ _ _ _ _ _ _ _ _ _ _) ?_); intro w9 hb hc hs; have H9 := Lib.hid (show Blk w9 a1.heap.size 24 (pmC o pe (Value.slice a8 rl c7) (Value.slice a32 ql c31) (Value.slice a36 gl c35)) ∧ Ch (· = a1.heap.size) u42 w9 from ⟨hb, hc⟩); clear hb hc hs))
          refine bodyPost_ret (results_blk Try.results14 _ _ a1.heap.size _ _ rfl H9.out.1 _ Try.underlying24 rfl (pmC_info _ _ _ _ _)) rfl ?_
          have k := K41.fin (o := o) (e := pe) rfl rfl rfl H9.out.2
          exact ⟨_, _, _, rfl, k.1, k.2.1, k.2.2⟩
      · skip
        refine wpList_slice_is0 u5 rfl rfl ?_
        intro u43 hown hbel hsz
        have K44 := K6.built 2 hown hbel
        clear hown hbel hsz
        simp only [Act.put, List.setIfInBounds_toArray, List.set_cons_zero, List.set_cons_succ]
        refine QK.normal ⟨fun _ => ⟨K44.box.cell 2, K44.box.cell 3, K44.box.cell 4⟩, ?_⟩
        refine' wpAnyM_one 4 (by kernel_rfl) ?_ ?_; rotate_left; (simp only [List.getElem?_toArray, List.getElem?_cons_zero, List.getElem?_cons_succ]; rfl)
        refine wpList_slice_is0 u43 rfl rfl ?_
        intro u45 hown hbel hsz
        have K46 := K44.built 1 hown hbel
        clear hown hbel hsz
        simp only [Act.put, List.setIfInBounds_toArray, List.set_cons_zero, List.set_cons_succ]
        refine QK.normal ⟨fun _ => ⟨K46.box.cell 2, K46.box.cell 3, K46.box.cell 4⟩, ?_⟩
        refine' wpAnyM_one 7 (by kernel_rfl) ?_ ?_; rotate_left; (simp only [List.getElem?_toArray, List.getElem?_cons_zero, List.getElem?_cons_succ]; rfl)
        at_builtin
        refine wpList_append_is a2.heap.size (.tmp 7) (.tmp 9) rfl rfl (K46.pend 1 rfl) rfl rfl (HPS.out.below K46.bel).2.1 ql (by rw [HLql.out]; omega) (by have := HLL.out; omega) K46.sz ?_
        intro a50 c49 u47 hown hgr hob
        have K48 := K46.appended 1 rfl hown hgr hob
        clear hown hgr hob
        try simp only [Act.put, List.setIfInBounds_toArray, List.set_cons_zero, List.set_cons_succ]
        refine QK.normal ⟨fun _ => ⟨K48.box.cell 2, K48.box.cell 3, K48.box.cell 4⟩, ?_⟩
        refine' wpAnyM_one 11 (by kernel_rfl) ?_ ?_; rotate_left; (simp only [List.getElem?_toArray, List.getElem?_cons_zero, List.getElem?_cons_succ]; rfl)
        at_builtin
        refine wpList_append_is a2.heap.size (.tmp 11) (.tmp 13) rfl rfl (K48.pend 2 rfl) rfl rfl (HPS.out.below K48.bel).2.2 gl (by rw [HLgl.out]; omega) (by have := HLL.out; omega) K48.sz ?_
        intro a54 c53 u51 hown hgr hob
        have K52 := K48.appended 2 rfl hown hgr hob
        clear hown hgr hob
        try simp only [Act.put, List.setIfInBounds_toArray, List.set_cons_zero, List.set_cons_succ]
        refine QK.normal ⟨fun _ => ⟨K52.box.cell 2, K52.box.cell 3, K52.box.cell 4⟩, ?_⟩
        refine' wpAnyM_one 13 (by kernel_rfl) ?_ ?_; rotate_left; (simp only [List.getElem?_toArray, List.getElem?_cons_zero, List.getElem?_cons_succ]; rfl)
        have c1 := K52.box.cell 2
        have f1 := K52.box.free 2
        simp only [pmC, List.getElem?_cons_zero, List.getElem?_cons_succ] at c1
        try simp only [Act.put]
        go_wp2_with fail
        clear c1 f1
        have K55 : CpI w a1.heap.size a2.heap.size (pmC o pe (Value.slice a8 rl c7) (Value.slice qa ql qc) (Value.slice ga gl gc)) _ _ (u51.setCell ⟨w.heap.size, 2, none⟩ (Value.slice a8 rl c7)) := K52.set 2 (Value.slice a8 rl c7)
        generalize (u51.setCell ⟨w.heap.size, 2, none⟩ (Value.slice a8 rl c7)) = u56 at K55 ⊢
        refine QK.normal ⟨fun h => absurd h (by decide), ?_⟩
        refine' wpAnyM_one 14 (by kernel_rfl) ?_ ?_; rotate_left; (simp only [List.getElem?_toArray, List.getElem?_cons_zero, List.getElem?_cons_succ]; rfl)
        try simp only [Act.put]
        go_wp2_with fail
        refine QK.normal ⟨fun h => absurd h (by decide), ?_⟩
        refine' wpAnyM_one 15 (by kernel_rfl) ?_ ?_; rotate_left; (simp only [List.getElem?_toArray, List.getElem?_cons_zero, List.getElem?_cons_succ]; rfl)
        have c1 := K55.box.cell 3
        have f1 := K55.box.free 3
        simp only [pmC, List.getElem?_cons_zero, List.getElem?_cons_succ] at c1
        try simp only [Act.put]
        go_wp2_with fail
        clear c1 f1
        have K57 : CpI w a1.heap.size a2.heap.size (pmC o pe (Value.slice a8 rl c7) (Value.slice a50 ql c49) (Value.slice ga gl gc)) _ _ (u56.setCell ⟨w.heap.size, 3, none⟩ (Value.slice a50 ql c49)) := K55.set 3 (Value.slice a50 ql c49)
        generalize (u56.setCell ⟨w.heap.size, 3, none⟩ (Value.slice a50 ql c49)) = u58 at K57 ⊢
        refine QK.normal ⟨fun h => absurd h (by decide), ?_⟩
        refine' wpAnyM_one 16 (by kernel_rfl) ?_ ?_; rotate_left; (simp only [List.getElem?_toArray, List.getElem?_cons_zero, List.getElem?_cons_succ]; rfl)
        try simp only [Act.put]
        go_wp2_with fail
        refine QK.normal ⟨fun h => absurd h (by decide), ?_⟩
        refine' wpAnyM_one 17 (by kernel_rfl) ?_ ?_; rotate_left; (simp only [List.getElem?_toArray, List.getElem?_cons_zero, List.getElem?_cons_succ]; rfl)
        have c1 := K57.box.cell 4
        have f1 := K57.box.free 4
        simp only [pmC, List.getElem?_cons_zero, List.getElem?_cons_succ] at c1
        try simp only [Act.put]
        go_wp2_with fail
        clear c1 f1
        have K59 : CpI w a1.heap.size a2.heap.size (pmC o pe (Value.slice a8 rl c7) (Value.slice a50 ql c49) (Value.slice a54 gl c53)) _ _ (u58.setCell ⟨w.heap.size, 4, none⟩ (Value.slice a54 gl c53)) := K57.set 4 (Value.slice a54 gl c53)
        generalize (u58.setCell ⟨w.heap.size, 4, none⟩ (Value.slice a54 gl c53)) = u60 at K59 ⊢
        refine QK.normal ⟨fun h => absurd h (by decide), ?_⟩
        refine wpAnyM_done (by kernel_rfl) ?_ _
        refine NoPanic.normal ?_
        go_wp2_with (first
    | (with_reducible refine wpList_load_any rfl 24 (.tmp 1) rfl w.heap.size 0 rfl (pmC o pe (Value.slice a8 rl c7) (Value.slice a50 ql c49) (Value.slice a54 gl c53)) _ (rangeW_blk K59.box) Try.underlying24 rfl (pmC_info _ _ _ _ _) ?_)
    | ((with_reducible refine wpList_store_blk u60 rfl 24 (.tmp 2) (.tmp 18) rfl a1.heap.size 24 (pmC 0 0 (.slice none 0 0) (.slice none 0 0) (.slice none 0 0)) (pmC o pe (Value.slice a8 rl c7) (Value.slice a50 ql c49) (Value.slice a54 gl c53)) K59.res rfl rfl rfl (pmC_info _ _ _ _ _) (pmC_one _ _ _ _ _ _ _ _ _ _ _) ?_); intro w9 hb hc hs; have H9 := Lib.hid (show Blk w9 a1.heap.size 24 (pmC o pe (Value.slice a8 rl c7) (Value.slice a50 ql c49) (Value.slice a54 gl c53)) ∧ Ch (· = a1.heap.size) u60 w9 from ⟨hb, hc⟩); clear hb hc hs))
        refine bodyPost_ret (results_blk Try.results14 _ _ a1.heap.size _ _ rfl H9.out.1 _ Try.underlying24 rfl (pmC_info _ _ _ _ _)) rfl ?_
        have k := K59.fin (o := o) (e := pe) rfl rfl rfl H9.out.2
        exact ⟨_, _, _, rfl, k.1, k.2.1, k.2.2⟩
    · skip
      refine wpList_slice_is0 u3 rfl rfl ?_
      intro u61 hown hbel hsz
      have K62 := K4.built 1 hown hbel
      clear hown hbel hsz
      simp only [Act.put, List.setIfInBounds_toArray, List.set_cons_zero, List.set_cons_succ]
      refine QK.normal ⟨fun _ => ⟨K62.box.cell 2, K62.box.cell 3, K62.box.cell 4⟩, ?_⟩
      refine' wpAnyM_two 3 8 (by kernel_rfl) ?_ ?_ ?_ ?_; rotate_left 2; (simp only [List.getElem?_toArray, List.getElem?_cons_zero, List.getElem?_cons_succ]; rfl); (simp only [List.getElem?_toArray, List.getElem?_cons_zero, List.getElem?_cons_succ]; rfl)
      · skip
        at_builtin
        refine wpList_append_is a2.heap.size (.tmp 3) (.tmp 5) rfl rfl (K62.pend 0 rfl) rfl rfl (HPS.out.below K62.bel).1 rl (by rw [HLrl.out]; omega) (by have := HLL.out; omega) K62.sz ?_
        intro a66 c65 u63 hown hgr hob
        have K64 := K62.appended 0 rfl hown hgr hob
        clear hown hgr hob
        try simp only [Act.put, List.setIfInBounds_toArray, List.set_cons_zero, List.set_cons_succ]
        refine QK.normal ⟨fun _ => ⟨K64.box.cell 2, K64.box.cell 3, K64.box.cell 4⟩, ?_⟩
        refine wpAnyM_takes (by kernel_rfl) noPanic_any (fuel := 8) ⟨K64.box.cell 2, K64.box.cell 3, K64.box.cell 4⟩ [12] _ _ (by kernel_rfl) ?_
        refine' HeldL.run ?_ ?_ ?_ ?_; rotate_left 2; (simp only [List.getElem?_toArray, List.getElem?_cons_zero, List.getElem?_cons_succ]; rfl); rfl; (rintro w' ⟨k0, k1, k2⟩; go_simp; with_reducible rfl); simp only [Act.put, List.setIfInBounds_toArray, List.set_cons_zero, List.set_cons_succ]
        refine' wpAnyM_two 7 8 (by kernel_rfl) ?_ ?_ ?_ ?_; rotate_left 2; (simp only [List.getElem?_toArray, List.getElem?_cons_zero, List.getElem?_cons_succ]; rfl); (simp only [List.getElem?_toArray, List.getElem?_cons_zero, List.getElem?_cons_succ]; rfl)
        · skip
          at_builtin
          refine wpList_append_is a2.heap.size (.tmp 7) (.tmp 9) rfl rfl (K64.pend 1 rfl) rfl rfl (HPS.out.below K64.bel).2.1 ql (by rw [HLql.out]; omega) (by have := HLL.out; omega) K64.sz ?_
          intro a70 c69 u67 hown hgr hob
          have K68 := K64.appended 1 rfl hown hgr hob
          clear hown hgr hob
          try simp only [Act.put, List.setIfInBounds_toArray, List.set_cons_zero, List.set_cons_succ]
          refine QK.normal ⟨fun _ => ⟨K68.box.cell 2, K68.box.cell 3, K68.box.cell 4⟩, ?_⟩
          refine' wpAnyM_one 8 (by kernel_rfl) ?_ ?_; rotate_left; (simp only [List.getElem?_toArray, List.getElem?_cons_zero, List.getElem?_cons_succ]; rfl)
          refine wpList_slice_is0 u67 rfl rfl ?_
          intro u71 hown hbel hsz
          have K72 := K68.built 2 hown hbel
          clear hown hbel hsz
          simp only [Act.put, List.setIfInBounds_toArray, List.set_cons_zero, List.set_cons_succ]
          refine QK.normal ⟨fun _ => ⟨K72.box.cell 2, K72.box.cell 3, K72.box.cell 4⟩, ?_⟩
          refine' wpAnyM_one 11 (by kernel_rfl) ?_ ?_; rotate_left; (simp only [List.getElem?_toArray, List.getElem?_cons_zero, List.getElem?_cons_succ]; rfl)
          at_builtin
          refine wpList_append_is a2.heap.size (.tmp 11) (.tmp 13) rfl rfl (K72.pend 2 rfl) rfl rfl (HPS.out.below K72.bel).2.2 gl (by rw [HLgl.out]; omega) (by have := HLL.out; omega) K72.sz ?_
          intro a76 c75 u73 hown hgr hob
          have K74 := K72.appended 2 rfl hown hgr hob
          clear hown hgr hob
          try simp only [Act.put, List.setIfInBounds_toArray, List.set_cons_zero, List.set_cons_succ]
          refine QK.normal ⟨fun _ => ⟨K74.box.cell 2, K74.box.cell 3, K74.box.cell 4⟩, ?_⟩
          refine' wpAnyM_one 13 (by kernel_rfl) ?_ ?_; rotate_left; (simp only [List.getElem?_toArray, List.getElem?_cons_zero, List.getElem?_cons_succ]; rfl)
          have c1 := K74.box.cell 2
          have f1 := K74.box.free 2
          simp only [pmC, List.getElem?_cons_zero, List.getElem?_cons_succ] at c1
          try simp only [Act.put]
          go_wp2_with fail
          clear c1 f1
          have K77 : CpI w a1.heap.size a2.heap.size (pmC o pe (Value.slice a66 rl c65) (Value.slice qa ql qc) (Value.slice ga gl gc)) _ _ (u73.setCell ⟨w.heap.size, 2, none⟩ (Value.slice a66 rl c65)) := K74.set 2 (Value.slice a66 rl c65)
          generalize (u73.setCell ⟨w.heap.size, 2, none⟩ (Value.slice a66 rl c65)) = u78 at K77 ⊢
          refine QK.normal ⟨fun h => absurd h (by decide), ?_⟩
          refine' wpAnyM_one 14 (by kernel_rfl) ?_ ?_; rotate_left; (simp only [List.getElem?_toArray, List.getElem?_cons_zero, List.getElem?_cons_succ]; rfl)
          try simp only [Act.put]
          go_wp2_with fail
          refine QK.normal ⟨fun h => absurd h (by decide), ?_⟩
          refine' wpAnyM_one 15 (by kernel_rfl) ?_ ?_; rotate_left; (simp only [List.getElem?_toArray, List.getElem?_cons_zero, List.getElem?_cons_succ]; rfl)
          have c1 := K77.box.cell 3
          have f1 := K77.box.free 3
          simp only [pmC, List.getElem?_cons_zero, List.getElem?_cons_succ] at c1
          try simp only [Act.put]
          go_wp2_with fail
          clear c1 f1
          have K79 : CpI w a1.heap.size a2.heap.size (pmC o pe (Value.slice a66 rl c65) (Value.slice a70 ql c69) (Value.slice ga gl gc)) _ _ (u78.setCell ⟨w.heap.size, 3, none⟩ (Value.slice a70 ql c69)) := K77.set 3 (Value.slice a70 ql c69)
          generalize (u78.setCell ⟨w.heap.size, 3, none⟩ (Value.slice a70 ql c69)) = u80 at K79 ⊢
          refine QK.normal ⟨fun h => absurd h (by decide), ?_⟩
          refine' wpAnyM_one 16 (by kernel_rfl) ?_ ?_; rotate_left; (simp only [List.getElem?_toArray, List.getElem?_cons_zero, List.getElem?_cons_succ]; rfl)
          try simp only [Act.put]
          go_wp2_with fail
          refine QK.normal ⟨fun h => absurd h (by decide), ?_⟩
          refine' wpAnyM_one 17 (by kernel_rfl) ?_ ?_; rotate_left; (simp only [List.getElem?_toArray, List.getElem?_cons_zero, List.getElem?_cons_succ]; rfl)
          have c1 := K79.box.cell 4
          have f1 := K79.box.free 4
          simp only [pmC, List.getElem?_cons_zero, List.getElem?_cons_succ] at c1
          try simp only [Act.put]
          go_wp2_with fail
          clear c1 f1
          have K81 : CpI w a1.heap.size a2.heap.size (pmC o pe (Value.slice a66 rl c65) (Value.slice a70 ql c69) (Value.slice a76 gl c75)) _ _ (u80.setCell ⟨w.heap.size, 4, none⟩ (Value.slice a76 gl c75)) := K79.set 4 (Value.slice a76 gl c75)
          generalize (u80.setCell ⟨w.heap.size, 4, none⟩ (Value.slice a76 gl c75)) = u82 at K81 ⊢
          refine QK.normal ⟨fun h => absurd h (by decide), ?_⟩
          refine wpAnyM_done (by kernel_rfl) ?_ _
          refine NoPanic.normal ?_
          go_wp2_with (first
    | (with_reducible refine wpList_load_any rfl 24 (.tmp 1) rfl w.heap.size 0 rfl (pmC o pe (Value.slice a66 rl c65) (Value.slice a70 ql c69) (Value.slice a76 gl c75)) _ (rangeW_blk K81.box) Try.underlying24 rfl (pmC_info _ _ _ _ _) ?_)
    | ((with_reducible refine wpList_store_blk u82 rfl 24 (.tmp 2) (.tmp 18) rfl a1.heap.size 24 (pmC 0 0 (.slice none 0 0) (.slice none 0 0) (.slice none 0 0)) (pmC o pe (Value.slice a66 rl c65) (Value.slice a70 ql c69) (Value.slice a76 gl c75)) K81.res rfl rfl rfl (pmC_info _ _ _ _ _) (pmC_one _ _ _ _ _ _ _ _ _ _ _) ?_); intro w9 hb hc hs; have H9 := Lib.hid (show Blk w9 a1.heap.size 24 (pmC o pe (Value.slice a66 rl c65) (Value.slice a70 ql c69) (Value.slice a76 gl c75)) ∧ Ch (· = a1.heap.size) u82 w9 from ⟨hb, hc⟩); clear hb hc hs))
          refine bodyPost_ret (results_blk Try.results14 _ _ a1.heap.size _ _ rfl H9.out.1 _ Try.underlying24 rfl (pmC_info _ _ _ _ _)) rfl ?_
          have k := K81.fin (o := o) (e := pe) rfl rfl rfl H9.out.2
          exact ⟨_, _, _, rfl, k.1, k.2.1, k.2.2⟩
        · skip
          refine wpList_slice_is0 u63 rfl rfl ?_
          intro u83 hown hbel hsz
          have K84 := K64.built 2 hown hbel
          clear hown hbel hsz
          simp only [Act.put, List.setIfInBounds_toArray, List.set_cons_zero, List.set_cons_succ]
          refine QK.normal ⟨fun _ => ⟨K84.box.cell 2, K84.box.cell 3, K84.box.cell 4⟩, ?_⟩
          refine' wpAnyM_one 7 (by kernel_rfl) ?_ ?_; rotate_left; (simp only [List.getElem?_toArray, List.getElem?_cons_zero, List.getElem?_cons_succ]; rfl)
          at_builtin
          refine wpList_append_is a2.heap.size (.tmp 7) (.tmp 9) rfl rfl (K84.pend 1 rfl) rfl rfl (HPS.out.below K84.bel).2.1 ql (by rw [HLql.out]; omega) (by have := HLL.out; omega) K84.sz ?_
          intro a88 c87 u85 hown hgr hob
          have K86 := K84.appended 1 rfl hown hgr hob
          clear hown hgr hob
          try simp only [Act.put, List.setIfInBounds_toArray, List.set_cons_zero, List.set_cons_succ]
          refine QK.normal ⟨fun _ => ⟨K86.box.cell 2, K86.box.cell 3, K86.box.cell 4⟩, ?_⟩
          refine' wpAnyM_one 11 (by kernel_rfl) ?_ ?_; rotate_left; (simp only [List.getElem?_toArray, List.getElem?_cons_zero, List.getElem?_cons_succ]; rfl)
          at_builtin
          refine wpList_append_is a2.heap.size (.tmp 11) (.tmp 13) rfl rfl (K86.pend 2 rfl) rfl rfl (HPS.out.below K86.bel).2.2 gl (by rw [HLgl.out]; omega) (by have := HLL.out; omega) K86.sz ?_
          intro a92 c91 u89 hown hgr hob
          have K90 := K86.appended 2 rfl hown hgr hob
          clear hown hgr hob
          try simp only [Act.put, List.setIfInBounds_toArray, List.set_cons_zero, List.set_cons_succ]
          refine QK.normal ⟨fun _ => ⟨K90.box.cell 2, K90.box.cell 3, K90.box.cell 4⟩, ?_⟩
          refine' wpAnyM_one 13 (by kernel_rfl) ?_ ?_; rotate_left; (simp only [List.getElem?_toArray, List.getElem?_cons_zero, List.getElem?_cons_succ]; rfl)
          have c1 := K90.box.cell 2
          have f1 := K90.box.free 2
          simp only [pmC, List.getElem?_cons_zero, List.getElem?_cons_succ] at c1
          try simp only [Act.put]
          go_wp2_with fail
          clear c1 f1
          have K93 : CpI w a1.heap.size a2.heap.size (pmC o pe (Value.slice a66 rl c65) (Value.slice qa ql qc) (Value.slice ga gl gc)) _ _ (u89.setCell ⟨w.heap.size, 2, none⟩ (Value.slice a66 rl c65)) := K90.set 2 (Value.slice a66 rl c65)
          generalize (u89.setCell ⟨w.heap.size, 2, none⟩ (Value.slice a66 rl c65)) = u94 at K93 ⊢
          refine QK.normal ⟨fun h => absurd h (by decide), ?_⟩
          refine' wpAnyM_one 14 (by kernel_rfl) ?_ ?_; rotate_left; (simp only [List.getElem?_toArray, List.getElem?_cons_zero, List.getElem?_cons_succ]; rfl)
          try simp only [Act.put]
          go_wp2_with fail
          refine QK.normal ⟨fun h => absurd h (by decide), ?_⟩
          refine' wpAnyM_one 15 (by kernel_rfl) ?_ ?_; rotate_left; (simp only [List.getElem?_toArray, List.getElem?_cons_zero, List.getElem?_cons_succ]; rfl)
          have c1 := K93.box.cell 3
          have f1 := K93.box.free 3
          simp only [pmC, List.getElem?_cons_zero, List.getElem?_cons_succ] at c1
          try simp only [Act.put]
          go_wp2_with fail
          clear c1 f1
          have K95 : CpI w a1.heap.size a2.heap.size (pmC o pe (Value.slice a66 rl c65) (Value.slice a88 ql c87) (Value.slice ga gl gc)) _ _ (u94.setCell ⟨w.heap.size, 3, none⟩ (Value.slice a88 ql c87)) := K93.set 3 (Value.slice a88 ql c87)
          generalize (u94.setCell ⟨w.heap.size, 3, none⟩ (Value.slice a88 ql c87)) = u96 at K95 ⊢
          refine QK.normal ⟨fun h => absurd h (by decide), ?_⟩
          refine' wpAnyM_one 16 (by kernel_rfl) ?_ ?_; rotate_left; (simp only [List.getElem?_toArray, List.getElem?_cons_zero, List.getElem?_cons_succ]; rfl)
          try simp only [Act.put]
          go_wp2_with fail
          refine QK.normal ⟨fun h => absurd h (by decide), ?_⟩
          refine' wpAnyM_one 17 (by kernel_rfl) ?_ ?_; rotate_left; (simp only [List.getElem?_toArray, List.getElem?_cons_zero, List.getElem?_cons_succ]; rfl)
          have c1 := K95.box.cell 4
          have f1 := K95.box.free 4
          simp only [pmC, List.getElem?_cons_zero, List.getElem?_cons_succ] at c1
          try simp only [Act.put]
          go_wp2_with fail
          clear c1 f1
          have K97 : CpI w a1.heap.size a2.heap.size (pmC o pe (Value.slice a66 rl c65) (Value.slice a88 ql c87) (Value.slice a92 gl c91)) _ _ (u96.setCell ⟨w.heap.size, 4, none⟩ (Value.slice a92 gl c91)) := K95.set 4 (Value.slice a92 gl c91)
          generalize (u96.setCell ⟨w.heap.size, 4, none⟩ (Value.slice a92 gl c91)) = u98 at K97 ⊢
          refine QK.normal ⟨fun h => absurd h (by decide), ?_⟩
          refine wpAnyM_done (by kernel_rfl) ?_ _
          refine NoPanic.normal ?_
          go_wp2_with (first
    | (with_reducible refine wpList_load_any rfl 24 (.tmp 1) rfl w.heap.size 0 rfl (pmC o pe (Value.slice a66 rl c65) (Value.slice a88 ql c87) (Value.slice a92 gl c91)) _ (rangeW_blk K97.box) Try.underlying24 rfl (pmC_info _ _ _ _ _) ?_)
    | ((with_reducible refine wpList_store_blk u98 rfl 24 (.tmp 2) (.tmp 18) rfl a1.heap.size 24 (pmC 0 0 (.slice none 0 0) (.slice none 0 0) (.slice none 0 0)) (pmC o pe (Value.slice a66 rl c65) (Value.slice a88 ql c87) (Value.slice a92 gl c91)) K97.res rfl rfl rfl (pmC_info _ _ _ _ _) (pmC_one _ _ _ _ _ _ _ _ _ _ _) ?_); intro w9 hb hc hs; have H9 := Lib.hid (show Blk w9 a1.heap.size 24 (pmC o pe (Value.slice a66 rl c65) (Value.slice a88 ql c87) (Value.slice a92 gl c91)) ∧ Ch (· = a1.heap.size) u98 w9 from ⟨hb, hc⟩); clear hb hc hs))
          refine bodyPost_ret (results_blk Try.results14 _ _ a1.heap.size _ _ rfl H9.out.1 _ Try.underlying24 rfl (pmC_info _ _ _ _ _)) rfl ?_
          have k := K97.fin (o := o) (e := pe) rfl rfl rfl H9.out.2
          exact ⟨_, _, _, rfl, k.1, k.2.1, k.2.2⟩
      · skip
        refine wpList_slice_is0 u61 rfl rfl ?_
        intro u99 hown hbel hsz
        have K100 := K62.built 2 hown hbel
        clear hown hbel hsz
        simp only [Act.put, List.setIfInBounds_toArray, List.set_cons_zero, List.set_cons_succ]
        refine QK.normal ⟨fun _ => ⟨K100.box.cell 2, K100.box.cell 3, K100.box.cell 4⟩, ?_⟩
        refine' wpAnyM_one 3 (by kernel_rfl) ?_ ?_; rotate_left; (simp only [List.getElem?_toArray, List.getElem?_cons_zero, List.getElem?_cons_succ]; rfl)
        at_builtin
        refine wpList_append_is a2.heap.size (.tmp 3) (.tmp 5) rfl rfl (K100.pend 0 rfl) rfl rfl (HPS.out.below K100.bel).1 rl (by rw [HLrl.out]; omega) (by have := HLL.out; omega) K100.sz ?_
        intro a104 c103 u101 hown hgr hob
        have K102 := K100.appended 0 rfl hown hgr hob
        clear hown hgr hob
        try simp only [Act.put, List.setIfInBounds_toArray, List.set_cons_zero, List.set_cons_succ]
        refine QK.normal ⟨fun _ => ⟨K102.box.cell 2, K102.box.cell 3, K102.box.cell 4⟩, ?_⟩
        refine wpAnyM_takes (by kernel_rfl) noPanic_any (fuel := 7) ⟨K102.box.cell 2, K102.box.cell 3, K102.box.cell 4⟩ [12] _ _ (by kernel_rfl) ?_
        refine' HeldL.run ?_ ?_ ?_ ?_; rotate_left 2; (simp only [List.getElem?_toArray, List.getElem?_cons_zero, List.getElem?_cons_succ]; rfl); rfl; (rintro w' ⟨k0, k1, k2⟩; go_simp; with_reducible rfl); simp only [Act.put, List.setIfInBounds_toArray, List.set_cons_zero, List.set_cons_succ]
        refine' wpAnyM_one 7 (by kernel_rfl) ?_ ?_; rotate_left; (simp only [List.getElem?_toArray, List.getElem?_cons_zero, List.getElem?_cons_succ]; rfl)
        at_builtin
        refine wpList_append_is a2.heap.size (.tmp 7) (.tmp 9) rfl rfl (K102.pend 1 rfl) rfl rfl (HPS.out.below K102.bel).2.1 ql (by rw [HLql.out]; omega) (by have := HLL.out; omega) K102.sz ?_
        intro a108 c107 u105 hown hgr hob
        have K106 := K102.appended 1 rfl hown hgr hob
        clear hown hgr hob
        try simp only [Act.put, List.setIfInBounds_toArray, List.set_cons_zero, List.set_cons_succ]
        refine QK.normal ⟨fun _ => ⟨K106.box.cell 2, K106.box.cell 3, K106.box.cell 4⟩, ?_⟩
        refine' wpAnyM_one 11 (by kernel_rfl) ?_ ?_; rotate_left; (simp only [List.getElem?_toArray, List.getElem?_cons_zero, List.getElem?_cons_succ]; rfl)
        at_builtin
        refine wpList_append_is a2.heap.size (.tmp 11) (.tmp 13) rfl rfl (K106.pend 2 rfl) rfl rfl (HPS.out.below K106.bel).2.2 gl (by rw [HLgl.out]; omega) (by have := HLL.out; omega) K106.sz ?_
        intro a112 c111 u109 hown hgr hob
        have K110 := K106.appended 2 rfl hown hgr hob
        clear hown hgr hob
        try simp only [Act.put, List.setIfInBounds_toArray, List.set_cons_zero, List.set_cons_succ]
        refine QK.normal ⟨fun _ => ⟨K110.box.cell 2, K110.box.cell 3, K110.box.cell 4⟩, ?_⟩
        refine' wpAnyM_one 13 (by kernel_rfl) ?_ ?_; rotate_left; (simp only [List.getElem?_toArray, List.getElem?_cons_zero, List.getElem?_cons_succ]; rfl)
        have c1 := K110.box.cell 2
        have f1 := K110.box.free 2
        simp only [pmC, List.getElem?_cons_zero, List.getElem?_cons_succ] at c1
        try simp only [Act.put]
        go_wp2_with fail
        clear c1 f1
        have K113 : CpI w a1.heap.size a2.heap.size (pmC o pe (Value.slice a104 rl c103) (Value.slice qa ql qc) (Value.slice ga gl gc)) _ _ (u109.setCell ⟨w.heap.size, 2, none⟩ (Value.slice a104 rl c103)) := K110.set 2 (Value.slice a104 rl c103)
        generalize (u109.setCell ⟨w.heap.size, 2, none⟩ (Value.slice a104 rl c103)) = u114 at K113 ⊢
        refine QK.normal ⟨fun h => absurd h (by decide), ?_⟩
        refine' wpAnyM_one 14 (by kernel_rfl) ?_ ?_; rotate_left; (simp only [List.getElem?_toArray, List.getElem?_cons_zero, List.getElem?_cons_succ]; rfl)
        try simp only [Act.put]
        go_wp2_with fail
        refine QK.normal ⟨fun h => absurd h (by decide), ?_⟩
        refine' wpAnyM_one 15 (by kernel_rfl) ?_ ?_; rotate_left; (simp only [List.getElem?_toArray, List.getElem?_cons_zero, List.getElem?_cons_succ]; rfl)
        have c1 := K113.box.cell 3
        have f1 := K113.box.free 3
        simp only [pmC, List.getElem?_cons_zero, List.getElem?_cons_succ] at c1
        try simp only [Act.put]
        go_wp2_with fail
        clear c1 f1
        have K115 : CpI w a1.heap.size a2.heap.size (pmC o pe (Value.slice a104 rl c103) (Value.slice a108 ql c107) (Value.slice ga gl gc)) _ _ (u114.setCell ⟨w.heap.size, 3, none⟩ (Value.slice a108 ql c107)) := K113.set 3 (Value.slice a108 ql c107)
        generalize (u114.setCell ⟨w.heap.size, 3, none⟩ (Value.slice a108 ql c107)) = u116 at K115 ⊢
        refine QK.normal ⟨fun h => absurd h (by decide), ?_⟩
        refine' wpAnyM_one 16 (by kernel_rfl) ?_ ?_; rotate_left; (simp only [List.getElem?_toArray, List.getElem?_cons_zero, List.getElem?_cons_succ]; rfl)
        try simp only [Act.put]
        go_wp2_with fail
        refine QK.normal ⟨fun h => absurd h (by decide), ?_⟩
        refine' wpAnyM_one 17 (by kernel_rfl) ?_ ?_; rotate_left; (simp only [List.getElem?_toArray, List.getElem?_cons_zero, List.getElem?_cons_succ]; rfl)
        have c1 := K115.box.cell 4
        have f1 := K115.box.free 4
        simp only [pmC, List.getElem?_cons_zero, List.getElem?_cons_succ] at c1
        try simp only [Act.put]
        go_wp2_with fail
        clear c1 f1
        have K117 : CpI w a1.heap.size a2.heap.size (pmC o pe (Value.slice a104 rl c103) (Value.slice a108 ql c107) (Value.slice a112 gl c111)) _ _ (u116.setCell ⟨w.heap.size, 4, none⟩ (Value.slice a112 gl c111)) := K115.set 4 (Value.slice a112 gl c111)
        generalize (u116.setCell ⟨w.heap.size, 4, none⟩ (Value.slice a112 gl c111)) = u118 at K117 ⊢
        refine QK.normal ⟨fun h => absurd h (by decide), ?_⟩
        refine wpAnyM_done (by kernel_rfl) ?_ _
        refine NoPanic.normal ?_
        go_wp2_with (first
    | (with_reducible refine wpList_load_any rfl 24 (.tmp 1) rfl w.heap.size 0 rfl (pmC o pe (Value.slice a104 rl c103) (Value.slice a108 ql c107) (Value.slice a112 gl c111)) _ (rangeW_blk K117.box) Try.underlying24 rfl (pmC_info _ _ _ _ _) ?_)
    | ((with_reducible refine wpList_store_blk u118 rfl 24 (.tmp 2) (.tmp 18) rfl a1.heap.size 24 (pmC 0 0 (.slice none 0 0) (.slice none 0 0) (.slice none 0 0)) (pmC o pe (Value.slice a104 rl c103) (Value.slice a108 ql c107) (Value.slice a112 gl c111)) K117.res rfl rfl rfl (pmC_info _ _ _ _ _) (pmC_one _ _ _ _ _ _ _ _ _ _ _) ?_); intro w9 hb hc hs; have H9 := Lib.hid (show Blk w9 a1.heap.size 24 (pmC o pe (Value.slice a104 rl c103) (Value.slice a108 ql c107) (Value.slice a112 gl c111)) ∧ Ch (· = a1.heap.size) u118 w9 from ⟨hb, hc⟩); clear hb hc hs))
        refine bodyPost_ret (results_blk Try.results14 _ _ a1.heap.size _ _ rfl H9.out.1 _ Try.underlying24 rfl (pmC_info _ _ _ _ _)) rfl ?_
        have k := K117.fin (o := o) (e := pe) rfl rfl rfl H9.out.2
        exact ⟨_, _, _, rfl, k.1, k.2.1, k.2.2⟩
    · skip
      refine wpList_slice_is0 u3 rfl rfl ?_
      intro u119 hown hbel hsz
      have K120 := K4.built 2 hown hbel
      clear hown hbel hsz
      simp only [Act.put, List.setIfInBounds_toArray, List.set_cons_zero, List.set_cons_succ]
      refine QK.normal ⟨fun _ => ⟨K120.box.cell 2, K120.box.cell 3, K120.box.cell 4⟩, ?_⟩
      refine' wpAnyM_two 3 4 (by kernel_rfl) ?_ ?_ ?_ ?_; rotate_left 2; (simp only [List.getElem?_toArray, List.getElem?_cons_zero, List.getElem?_cons_succ]; rfl); (simp only [List.getElem?_toArray, List.getElem?_cons_zero, List.getElem?_cons_succ]; rfl)
      · skip
        at_builtin
        refine wpList_append_is a2.heap.size (.tmp 3) (.tmp 5) rfl rfl (K120.pend 0 rfl) rfl rfl (HPS.out.below K120.bel).1 rl (by rw [HLrl.out]; omega) (by have := HLL.out; omega) K120.sz ?_
        intro a124 c123 u121 hown hgr hob
        have K122 := K120.appended 0 rfl hown hgr hob
        clear hown hgr hob
        try simp only [Act.put, List.setIfInBounds_toArray, List.set_cons_zero, List.set_cons_succ]
        refine QK.normal ⟨fun _ => ⟨K122.box.cell 2, K122.box.cell 3, K122.box.cell 4⟩, ?_⟩
        refine wpAnyM_takes (by kernel_rfl) noPanic_any (fuel := 8) ⟨K122.box.cell 2, K122.box.cell 3, K122.box.cell 4⟩ [12] _ _ (by kernel_rfl) ?_
        refine' HeldL.run ?_ ?_ ?_ ?_; rotate_left 2; (simp only [List.getElem?_toArray, List.getElem?_cons_zero, List.getElem?_cons_succ]; rfl); rfl; (rintro w' ⟨k0, k1, k2⟩; go_simp; with_reducible rfl); simp only [Act.put, List.setIfInBounds_toArray, List.set_cons_zero, List.set_cons_succ]
        refine' wpAnyM_one 4 (by kernel_rfl) ?_ ?_; rotate_left; (simp only [List.getElem?_toArray, List.getElem?_cons_zero, List.getElem?_cons_succ]; rfl)
        refine wpList_slice_is0 u121 rfl rfl ?_
        intro u125 hown hbel hsz
        have K126 := K122.built 1 hown hbel
        clear hown hbel hsz
        simp only [Act.put, List.setIfInBounds_toArray, List.set_cons_zero, List.set_cons_succ]
        refine QK.normal ⟨fun _ => ⟨K126.box.cell 2, K126.box.cell 3, K126.box.cell 4⟩, ?_⟩
        refine' wpAnyM_one 7 (by kernel_rfl) ?_ ?_; rotate_left; (simp only [List.getElem?_toArray, List.getElem?_cons_zero, List.getElem?_cons_succ]; rfl)
        at_builtin
        refine wpList_append_is a2.heap.size (.tmp 7) (.tmp 9) rfl rfl (K126.pend 1 rfl) rfl rfl (HPS.out.below K126.bel).2.1 ql (by rw [HLql.out]; omega) (by have := HLL.out; omega) K126.sz ?_
        intro a130 c129 u127 hown hgr hob
        have K128 := K126.appended 1 rfl hown hgr hob
        clear hown hgr hob
        try simp only [Act.put, List.setIfInBounds_toArray, List.set_cons_zero, List.set_cons_succ]
        refine QK.normal ⟨fun _ => ⟨K128.box.cell 2, K128.box.cell 3, K128.box.cell 4⟩, ?_⟩
        refine' wpAnyM_one 11 (by kernel_rfl) ?_ ?_; rotate_left; (simp only [List.getElem?_toArray, List.getElem?_cons_zero, List.getElem?_cons_succ]; rfl)
        at_builtin
        refine wpList_append_is a2.heap.size (.tmp 11) (.tmp 13) rfl rfl (K128.pend 2 rfl) rfl rfl (HPS.out.below K128.bel).2.2 gl (by rw [HLgl.out]; omega) (by have := HLL.out; omega) K128.sz ?_
        intro a134 c133 u131 hown hgr hob
        have K132 := K128.appended 2 rfl hown hgr hob
        clear hown hgr hob
        try simp only [Act.put, List.setIfInBounds_toArray, List.set_cons_zero, List.set_cons_succ]
        refine QK.normal ⟨fun _ => ⟨K132.box.cell 2, K132.box.cell 3, K132.box.cell 4⟩, ?_⟩
        refine' wpAnyM_one 13 (by kernel_rfl) ?_ ?_; rotate_left; (simp only [List.getElem?_toArray, List.getElem?_cons_zero, List.getElem?_cons_succ]; rfl)
        have c1 := K132.box.cell 2
        have f1 := K132.box.free 2
        simp only [pmC, List.getElem?_cons_zero, List.getElem?_cons_succ] at c1
        try simp only [Act.put]
        go_wp2_with fail
        clear c1 f1
        have K135 : CpI w a1.heap.size a2.heap.size (pmC o pe (Value.slice a124 rl c123) (Value.slice qa ql qc) (Value.slice ga gl gc)) _ _ (u131.setCell ⟨w.heap.size, 2, none⟩ (Value.slice a124 rl c123)) := K132.set 2 (Value.slice a124 rl c123)
        generalize (u131.setCell ⟨w.heap.size, 2, none⟩ (Value.slice a124 rl c123)) = u136 at K135 ⊢
        refine QK.normal ⟨fun h => absurd h (by decide), ?_⟩
        refine' wpAnyM_one 14 (by kernel_rfl) ?_ ?_; rotate_left; (simp only [List.getElem?_toArray, List.getElem?_cons_zero, List.getElem?_cons_succ]; rfl)
        try simp only [Act.put]
        go_wp2_with fail
        refine QK.normal ⟨fun h => absurd h (by decide), ?_⟩
        refine' wpAnyM_one 15 (by kernel_rfl) ?_ ?_; rotate_left; (simp only [List.getElem?_toArray, List.getElem?_cons_zero, List.getElem?_cons_succ]; rfl)
        have c1 := K135.box.cell 3
        have f1 := K135.box.free 3
        simp only [pmC, List.getElem?_cons_zero, List.getElem?_cons_succ] at c1
        try simp only [Act.put]
        go_wp2_with fail
        clear c1 f1
        have K137 : CpI w a1.heap.size a2.heap.size (pmC o pe (Value.slice a124 rl c123) (Value.slice a130 ql c129) (Value.slice ga gl gc)) _ _ (u136.setCell ⟨w.heap.size, 3, none⟩ (Value.slice a130 ql c129)) := K135.set 3 (Value.slice a130 ql c129)
        generalize (u136.setCell ⟨w.heap.size, 3, none⟩ (Value.slice a130 ql c129)) = u138 at K137 ⊢
        refine QK.normal ⟨fun h => absurd h (by decide), ?_⟩
        refine' wpAnyM_one 16 (by kernel_rfl) ?_ ?_; rotate_left; (simp only [List.getElem?_toArray, List.getElem?_cons_zero, List.getElem?_cons_succ]; rfl)
        try simp only [Act.put]
        go_wp2_with fail
        refine QK.normal ⟨fun h => absurd h (by decide), ?_⟩
        refine' wpAnyM_one 17 (by kernel_rfl) ?_ ?_; rotate_left; (simp only [List.getElem?_toArray, List.getElem?_cons_zero, List.getElem?_cons_succ]; rfl)
        have c1 := K137.box.cell 4
        have f1 := K137.box.free 4
        simp only [pmC, List.getElem?_cons_zero, List.getElem?_cons_succ] at c1
        try simp only [Act.put]
        go_wp2_with fail
        clear c1 f1
        have K139 : CpI w a1.heap.size a2.heap.size (pmC o pe (Value.slice a124 rl c123) (Value.slice a130 ql c129) (Value.slice a134 gl c133)) _ _ (u138.setCell ⟨w.heap.size, 4, none⟩ (Value.slice a134 gl c133)) := K137.set 4 (Value.slice a134 gl c133)
        generalize (u138.setCell ⟨w.heap.size, 4, none⟩ (Value.slice a134 gl c133)) = u140 at K139 ⊢
        refine QK.normal ⟨fun h => absurd h (by decide), ?_⟩
        refine wpAnyM_done (by kernel_rfl) ?_ _
        refine NoPanic.normal ?_
        go_wp2_with (first
    | (with_reducible refine wpList_load_any rfl 24 (.tmp 1) rfl w.heap.size 0 rfl (pmC o pe (Value.slice a124 rl c123) (Value.slice a130 ql c129) (Value.slice a134 gl c133)) _ (rangeW_blk K139.box) Try.underlying24 rfl (pmC_info _ _ _ _ _) ?_)
    | ((with_reducible refine wpList_store_blk u140 rfl 24 (.tmp 2) (.tmp 18) rfl a1.heap.size 24 (pmC 0 0 (.slice none 0 0) (.slice none 0 0) (.slice none 0 0)) (pmC o pe (Value.slice a124 rl c123) (Value.slice a130 ql c129) (Value.slice a134 gl c133)) K139.res rfl rfl rfl (pmC_info _ _ _ _ _) (pmC_one _ _ _ _ _ _ _ _ _ _ _) ?_); intro w9 hb hc hs; have H9 := Lib.hid (show Blk w9 a1.heap.size 24 (pmC o pe (Value.slice a124 rl c123) (Value.slice a130 ql c129) (Value.slice a134 gl c133)) ∧ Ch (· = a1.heap.size) u140 w9 from ⟨hb, hc⟩); clear hb hc hs))
        refine bodyPost_ret (results_blk Try.results14 _ _ a1.heap.size _ _ rfl H9.out.1 _ Try.underlying24 rfl (pmC_info _ _ _ _ _)) rfl ?_
        have k := K139.fin (o := o) (e := pe) rfl rfl rfl H9.out.2
        exact ⟨_, _, _, rfl, k.1, k.2.1, k.2.2⟩
      · skip
        refine wpList_slice_is0 u119 rfl rfl ?_
        intro u141 hown hbel hsz
        have K142 := K120.built 1 hown hbel
        clear hown hbel hsz
        simp only [Act.put, List.setIfInBounds_toArray, List.set_cons_zero, List.set_cons_succ]
        refine QK.normal ⟨fun _ => ⟨K142.box.cell 2, K142.box.cell 3, K142.box.cell 4⟩, ?_⟩
        refine' wpAnyM_one 3 (by kernel_rfl) ?_ ?_; rotate_left; (simp only [List.getElem?_toArray, List.getElem?_cons_zero, List.getElem?_cons_succ]; rfl)
        at_builtin
        refine wpList_append_is a2.heap.size (.tmp 3) (.tmp 5) rfl rfl (K142.pend 0 rfl) rfl rfl (HPS.out.below K142.bel).1 rl (by rw [HLrl.out]; omega) (by have := HLL.out; omega) K142.sz ?_
        intro a146 c145 u143 hown hgr hob
        have K144 := K142.appended 0 rfl hown hgr hob
        clear hown hgr hob
        try simp only [Act.put, List.setIfInBounds_toArray, List.set_cons_zero, List.set_cons_succ]
        refine QK.normal ⟨fun _ => ⟨K144.box.cell 2, K144.box.cell 3, K144.box.cell 4⟩, ?_⟩
        refine wpAnyM_takes (by kernel_rfl) noPanic_any (fuel := 7) ⟨K144.box.cell 2, K144.box.cell 3, K144.box.cell 4⟩ [12] _ _ (by kernel_rfl) ?_
        refine' HeldL.run ?_ ?_ ?_ ?_; rotate_left 2; (simp only [List.getElem?_toArray, List.getElem?_cons_zero, List.getElem?_cons_succ]; rfl); rfl; (rintro w' ⟨k0, k1, k2⟩; go_simp; with_reducible rfl); simp only [Act.put, List.setIfInBounds_toArray, List.set_cons_zero, List.set_cons_succ]
        refine' wpAnyM_one 7 (by kernel_rfl) ?_ ?_; rotate_left; (simp only [List.getElem?_toArray, List.getElem?_cons_zero, List.getElem?_cons_succ]; rfl)
        at_builtin
        refine wpList_append_is a2.heap.size (.tmp 7) (.tmp 9) rfl rfl (K144.pend 1 rfl) rfl rfl (HPS.out.below K144.bel).2.1 ql (by rw [HLql.out]; omega) (by have := HLL.out; omega) K144.sz ?_
        intro a150 c149 u147 hown hgr hob
        have K148 := K144.appended 1 rfl hown hgr hob
        clear hown hgr hob
        try simp only [Act.put, List.setIfInBounds_toArray, List.set_cons_zero, List.set_cons_succ]
        refine QK.normal ⟨fun _ => ⟨K148.box.cell 2, K148.box.cell 3, K148.box.cell 4⟩, ?_⟩
        refine' wpAnyM_one 11 (by kernel_rfl) ?_ ?_; rotate_left; (simp only [List.getElem?_toArray, List.getElem?_cons_zero, List.getElem?_cons_succ]; rfl)
        at_builtin
        refine wpList_append_is a2.heap.size (.tmp 11) (.tmp 13) rfl rfl (K148.pend 2 rfl) rfl rfl (HPS.out.below K148.bel).2.2 gl (by rw [HLgl.out]; omega) (by have := HLL.out; omega) K148.sz ?_
        intro a154 c153 u151 hown hgr hob
        have K152 := K148.appended 2 rfl hown hgr hob
        clear hown hgr hob
        try simp only [Act.put, List.setIfInBounds_toArray, List.set_cons_zero, List.set_cons_succ]
        refine QK.normal ⟨fun _ => ⟨K152.box.cell 2, K152.box.cell 3, K152.box.cell 4⟩, ?_⟩
        refine' wpAnyM_one 13 (by kernel_rfl) ?_ ?_; rotate_left; (simp only [List.getElem?_toArray, List.getElem?_cons_zero, List.getElem?_cons_succ]; rfl)
        have c1 := K152.box.cell 2
        have f1 := K152.box.free 2
        simp only [pmC, List.getElem?_cons_zero, List.getElem?_cons_succ] at c1
        try simp only [Act.put]
        go_wp2_with fail
        clear c1 f1
        have K155 : CpI w a1.heap.size a2.heap.size (pmC o pe (Value.slice a146 rl c145) (Value.slice qa ql qc) (Value.slice ga gl gc)) _ _ (u151.setCell ⟨w.heap.size, 2, none⟩ (Value.slice a146 rl c145)) := K152.set 2 (Value.slice a146 rl c145)
        generalize (u151.setCell ⟨w.heap.size, 2, none⟩ (Value.slice a146 rl c145)) = u156 at K155 ⊢
        refine QK.normal ⟨fun h => absurd h (by decide), ?_⟩
        refine' wpAnyM_one 14 (by kernel_rfl) ?_ ?_; rotate_left; (simp only [List.getElem?_toArray, List.getElem?_cons_zero, List.getElem?_cons_succ]; rfl)
        try simp only [Act.put]
        go_wp2_with fail
        refine QK.normal ⟨fun h => absurd h (by decide), ?_⟩
        refine' wpAnyM_one 15 (by kernel_rfl) ?_ ?_; rotate_left; (simp only [List.getElem?_toArray, List.getElem?_cons_zero, List.getElem?_cons_succ]; rfl)
        have c1 := K155.box.cell 3
        have f1 := K155.box.free 3
        simp only [pmC, List.getElem?_cons_zero, List.getElem?_cons_succ] at c1
        try simp only [Act.put]
        go_wp2_with fail
        clear c1 f1
        have K157 : CpI w a1.heap.size a2.heap.size (pmC o pe (Value.slice a146 rl c145) (Value.slice a150 ql c149) (Value.slice ga gl gc)) _ _ (u156.setCell ⟨w.heap.size, 3, none⟩ (Value.slice a150 ql c149)) := K155.set 3 (Value.slice a150 ql c149)
        generalize (u156.setCell ⟨w.heap.size, 3, none⟩ (Value.slice a150 ql c149)) = u158 at K157 ⊢
        refine QK.normal ⟨fun h => absurd h (by decide), ?_⟩
        refine' wpAnyM_one 16 (by kernel_rfl) ?_ ?_; rotate_left; (simp only [List.getElem?_toArray, List.getElem?_cons_zero, List.getElem?_cons_succ]; rfl)
        try simp only [Act.put]
        go_wp2_with fail
        refine QK.normal ⟨fun h => absurd h (by decide), ?_⟩
        refine' wpAnyM_one 17 (by kernel_rfl) ?_ ?_; rotate_left; (simp only [List.getElem?_toArray, List.getElem?_cons_zero, List.getElem?_cons_succ]; rfl)
        have c1 := K157.box.cell 4
        have f1 := K157.box.free 4
        simp only [pmC, List.getElem?_cons_zero, List.getElem?_cons_succ] at c1
        try simp only [Act.put]
        go_wp2_with fail
        clear c1 f1
        have K159 : CpI w a1.heap.size a2.heap.size (pmC o pe (Value.slice a146 rl c145) (Value.slice a150 ql c149) (Value.slice a154 gl c153)) _ _ (u158.setCell ⟨w.heap.size, 4, none⟩ (Value.slice a154 gl c153)) := K157.set 4 (Value.slice a154 gl c153)
        generalize (u158.setCell ⟨w.heap.size, 4, none⟩ (Value.slice a154 gl c153)) = u160 at K159 ⊢
        refine QK.normal ⟨fun h => absurd h (by decide), ?_⟩
        refine wpAnyM_done (by kernel_rfl) ?_ _
        refine NoPanic.normal ?_
        go_wp2_with (first
    | (with_reducible refine wpList_load_any rfl 24 (.tmp 1) rfl w.heap.size 0 rfl (pmC o pe (Value.slice a146 rl c145) (Value.slice a150 ql c149) (Value.slice a154 gl c153)) _ (rangeW_blk K159.box) Try.underlying24 rfl (pmC_info _ _ _ _ _) ?_)
    | ((with_reducible refine wpList_store_blk u160 rfl 24 (.tmp 2) (.tmp 18) rfl a1.heap.size 24 (pmC 0 0 (.slice none 0 0) (.slice none 0 0) (.slice none 0 0)) (pmC o pe (Value.slice a146 rl c145) (Value.slice a150 ql c149) (Value.slice a154 gl c153)) K159.res rfl rfl rfl (pmC_info _ _ _ _ _) (pmC_one _ _ _ _ _ _ _ _ _ _ _) ?_); intro w9 hb hc hs; have H9 := Lib.hid (show Blk w9 a1.heap.size 24 (pmC o pe (Value.slice a146 rl c145) (Value.slice a150 ql c149) (Value.slice a154 gl c153)) ∧ Ch (· = a1.heap.size) u160 w9 from ⟨hb, hc⟩); clear hb hc hs))
        refine bodyPost_ret (results_blk Try.results14 _ _ a1.heap.size _ _ rfl H9.out.1 _ Try.underlying24 rfl (pmC_info _ _ _ _ _)) rfl ?_
        have k := K159.fin (o := o) (e := pe) rfl rfl rfl H9.out.2
        exact ⟨_, _, _, rfl, k.1, k.2.1, k.2.2⟩
  · skip
    refine wpList_slice_is0 v1 rfl rfl ?_
    intro u161 hown hbel hsz
    have K162 := HV2.built 1 hown hbel
    clear hown hbel hsz
    simp only [Act.put, List.setIfInBounds_toArray, List.set_cons_zero, List.set_cons_succ]
    refine QK.normal ⟨fun _ => ⟨K162.box.cell 2, K162.box.cell 3, K162.box.cell 4⟩, ?_⟩
    refine' wpAnyM_two 0 8 (by kernel_rfl) ?_ ?_ ?_ ?_; rotate_left 2; (simp only [List.getElem?_toArray, List.getElem?_cons_zero, List.getElem?_cons_succ]; rfl); (simp only [List.getElem?_toArray, List.getElem?_cons_zero, List.getElem?_cons_succ]; rfl)
    · skip
      refine wpList_slice_is0 u161 rfl rfl ?_
      intro u163 hown hbel hsz
      have K164 := K162.built 0 hown hbel
      clear hown hbel hsz
      simp only [Act.put, List.setIfInBounds_toArray, List.set_cons_zero, List.set_cons_succ]
      refine QK.normal ⟨fun _ => ⟨K164.box.cell 2, K164.box.cell 3, K164.box.cell 4⟩, ?_⟩
      refine' wpAnyM_two 3 8 (by kernel_rfl) ?_ ?_ ?_ ?_; rotate_left 2; (simp only [List.getElem?_toArray, List.getElem?_cons_zero, List.getElem?_cons_succ]; rfl); (simp only [List.getElem?_toArray, List.getElem?_cons_zero, List.getElem?_cons_succ]; rfl)
      · skip
        at_builtin
        refine wpList_append_is a2.heap.size (.tmp 3) (.tmp 5) rfl rfl (K164.pend 0 rfl) rfl rfl (HPS.out.below K164.bel).1 rl (by rw [HLrl.out]; omega) (by have := HLL.out; omega) K164.sz ?_
        intro a168 c167 u165 hown hgr hob
        have K166 := K164.appended 0 rfl hown hgr hob
        clear hown hgr hob
        try simp only [Act.put, List.setIfInBounds_toArray, List.set_cons_zero, List.set_cons_succ]
        refine QK.normal ⟨fun _ => ⟨K166.box.cell 2, K166.box.cell 3, K166.box.cell 4⟩, ?_⟩
        refine wpAnyM_takes (by kernel_rfl) noPanic_any (fuel := 8) ⟨K166.box.cell 2, K166.box.cell 3, K166.box.cell 4⟩ [12] _ _ (by kernel_rfl) ?_
        refine' HeldL.run ?_ ?_ ?_ ?_; rotate_left 2; (simp only [List.getElem?_toArray, List.getElem?_cons_zero, List.getElem?_cons_succ]; rfl); rfl; (rintro w' ⟨k0, k1, k2⟩; go_simp; with_reducible rfl); simp only [Act.put, List.setIfInBounds_toArray, List.set_cons_zero, List.set_cons_succ]
        refine' wpAnyM_two 7 8 (by kernel_rfl) ?_ ?_ ?_ ?_; rotate_left 2; (simp only [List.getElem?_toArray, List.getElem?_cons_zero, List.getElem?_cons_succ]; rfl); (simp only [List.getElem?_toArray, List.getElem?_cons_zero, List.getElem?_cons_succ]; rfl)
        · skip
          at_builtin
          refine wpList_append_is a2.heap.size (.tmp 7) (.tmp 9) rfl rfl (K166.pend 1 rfl) rfl rfl (HPS.out.below K166.bel).2.1 ql (by rw [HLql.out]; omega) (by have := HLL.out; omega) K166.sz ?_
          intro a172 c171 u169 hown hgr hob
          have K170 := K166.appended 1 rfl hown hgr hob
          clear hown hgr hob
          try simp only [Act.put, List.setIfInBounds_toArray, List.set_cons_zero, List.set_cons_succ]
          refine QK.normal ⟨fun _ => ⟨K170.box.cell 2, K170.box.cell 3, K170.box.cell 4⟩, ?_⟩
          refine' wpAnyM_one 8 (by kernel_rfl) ?_ ?_; rotate_left; (simp only [List.getElem?_toArray, List.getElem?_cons_zero, List.getElem?_cons_succ]; rfl)
          refine wpList_slice_is0 u169 rfl rfl ?_
          intro u173 hown hbel hsz
          have K174 := K170.built 2 hown hbel
          clear hown hbel hsz
          simp only [Act.put, List.setIfInBounds_toArray, List.set_cons_zero, List.set_cons_succ]
          refine QK.normal ⟨fun _ => ⟨K174.box.cell 2, K174.box.cell 3, K174.box.cell 4⟩, ?_⟩
          refine' wpAnyM_one 11 (by kernel_rfl) ?_ ?_; rotate_left; (simp only [List.getElem?_toArray, List.getElem?_cons_zero, List.getElem?_cons_succ]; rfl)
          at_builtin
          refine wpList_append_is a2.heap.size (.tmp 11) (.tmp 13) rfl rfl (K174.pend 2 rfl) rfl rfl (HPS.out.below K174.bel).2.2 gl (by rw [HLgl.out]; omega) (by have := HLL.out; omega) K174.sz ?_
          intro a178 c177 u175 hown hgr hob
          have K176 := K174.appended 2 rfl hown hgr hob
          clear hown hgr hob
          try simp only [Act.put, List.setIfInBounds_toArray, List.set_cons_zero, List.set_cons_succ]
          refine QK.normal ⟨fun _ => ⟨K176.box.cell 2, K176.box.cell 3, K176.box.cell 4⟩, ?_⟩
          refine' wpAnyM_one 13 (by kernel_rfl) ?_ ?_; rotate_left; (simp only [List.getElem?_toArray, List.getElem?_cons_zero, List.getElem?_cons_succ]; rfl)
          have c1 := K176.box.cell 2
          have f1 := K176.box.free 2
          simp only [pmC, List.getElem?_cons_zero, List.getElem?_cons_succ] at c1
          try simp only [Act.put]
          go_wp2_with fail
          clear c1 f1
          have K179 : CpI w a1.heap.size a2.heap.size (pmC o pe (Value.slice a168 rl c167) (Value.slice qa ql qc) (Value.slice ga gl gc)) _ _ (u175.setCell ⟨w.heap.size, 2, none⟩ (Value.slice a168 rl c167)) := K176.set 2 (Value.slice a168 rl c167)
          generalize (u175.setCell ⟨w.heap.size, 2, none⟩ (Value.slice a168 rl c167)) = u180 at K179 ⊢
          refine QK.normal ⟨fun h => absurd h (by decide), ?_⟩
          refine' wpAnyM_one 14 (by kernel_rfl) ?_ ?_; rotate_left; (simp only [List.getElem?_toArray, List.getElem?_cons_zero, List.getElem?_cons_succ]; rfl)
          try simp only [Act.put]
          go_wp2_with fail
          refine QK.normal ⟨fun h => absurd h (by decide), ?_⟩
          refine' wpAnyM_one 15 (by kernel_rfl) ?_ ?_; rotate_left; (simp only [List.getElem?_toArray, List.getElem?_cons_zero, List.getElem?_cons_succ]; rfl)
          have c1 := K179.box.cell 3
          have f1 := K179.box.free 3
          simp only [pmC, List.getElem?_cons_zero, List.getElem?_cons_succ] at c1
          try simp only [Act.put]
          go_wp2_with fail
          clear c1 f1
          have K181 : CpI w a1.heap.size a2.heap.size (pmC o pe (Value.slice a168 rl c167) (Value.slice a172 ql c171) (Value.slice ga gl gc)) _ _ (u180.setCell ⟨w.heap.size, 3, none⟩ (Value.slice a172 ql c171)) := K179.set 3 (Value.slice a172 ql c171)
          generalize (u180.setCell ⟨w.heap.size, 3, none⟩ (Value.slice a172 ql c171)) = u182 at K181 ⊢
          refine QK.normal ⟨fun h => absurd h (by decide), ?_⟩
          refine' wpAnyM_one 16 (by kernel_rfl) ?_ ?_; rotate_left; (simp only [List.getElem?_toArray, List.getElem?_cons_zero, List.getElem?_cons_succ]; rfl)
          try simp only [Act.put]
          go_wp2_with fail
          refine QK.normal ⟨fun h => absurd h (by decide), ?_⟩
          refine' wpAnyM_one 17 (by kernel_rfl) ?_ ?_; rotate_left; (simp only [List.getElem?_toArray, List.getElem?_cons_zero, List.getElem?_cons_succ]; rfl)
          have c1 := K181.box.cell 4
          have f1 := K181.box.free 4
          simp only [pmC, List.getElem?_cons_zero, List.getElem?_cons_succ] at c1
          try simp only [Act.put]
          go_wp2_with fail
          clear c1 f1
          have K183 : CpI w a1.heap.size a2.heap.size (pmC o pe (Value.slice a168 rl c167) (Value.slice a172 ql c171) (Value.slice a178 gl c177)) _ _ (u182.setCell ⟨w.heap.size, 4, none⟩ (Value.slice a178 gl c177)) := K181.set 4 (Value.slice a178 gl c177)
          generalize (u182.setCell ⟨w.heap.size, 4, none⟩ (Value.slice a178 gl c177)) = u184 at K183 ⊢
          refine QK.normal ⟨fun h => absurd h (by decide), ?_⟩
          refine wpAnyM_done (by kernel_rfl) ?_ _
          refine NoPanic.normal ?_
          go_wp2_with (first
    | (with_reducible refine wpList_load_any rfl 24 (.tmp 1) rfl w.heap.size 0 rfl (pmC o pe (Value.slice a168 rl c167) (Value.slice a172 ql c171) (Value.slice a178 gl c177)) _ (rangeW_blk K183.box) Try.underlying24 rfl (pmC_info _ _ _ _ _) ?_)
    | ((with_reducible refine wpList_store_blk u184 rfl 24 (.tmp 2) (.tmp 18) rfl a1.heap.size 24 (pmC 0 0 (.slice none 0 0) (.slice none 0 0) (.slice none 0 0)) (pmC o pe (Value.slice a168 rl c167) (Value.slice a172 ql c171) (Value.slice a178 gl c177)) K183.res rfl rfl rfl (pmC_info _ _ _ _ _) (pmC_one _ _ _ _ _ _ _ _ _ _ _) ?_); intro w9 hb hc hs; have H9 := Lib.hid (show Blk w9 a1.heap.size 24 (pmC o pe (Value.slice a168 rl c167) (Value.slice a172 ql c171) (Value.slice a178 gl c177)) ∧ Ch (· = a1.heap.size) u184 w9 from ⟨hb, hc⟩); clear hb hc hs))
          refine bodyPost_ret (results_blk Try.results14 _ _ a1.heap.size _ _ rfl H9.out.1 _ Try.underlying24 rfl (pmC_info _ _ _ _ _)) rfl ?_
          have k := K183.fin (o := o) (e := pe) rfl rfl rfl H9.out.2
          exact ⟨_, _, _, rfl, k.1, k.2.1, k.2.2⟩
        · skip
          refine wpList_slice_is0 u165 rfl rfl ?_
          intro u185 hown hbel hsz
          have K186 := K166.built 2 hown hbel
          clear hown hbel hsz
          simp only [Act.put, List.setIfInBounds_toArray, List.set_cons_zero, List.set_cons_succ]
          refine QK.normal ⟨fun _ => ⟨K186.box.cell 2, K186.box.cell 3, K186.box.cell 4⟩, ?_⟩
          refine' wpAnyM_one 7 (by kernel_rfl) ?_ ?_; rotate_left; (simp only [List.getElem?_toArray, List.getElem?_cons_zero, List.getElem?_cons_succ]; rfl)
          at_builtin
          refine wpList_append_is a2.heap.size (.tmp 7) (.tmp 9) rfl rfl (K186.pend 1 rfl) rfl rfl (HPS.out.below K186.bel).2.1 ql (by rw [HLql.out]; omega) (by have := HLL.out; omega) K186.sz ?_
          intro a190 c189 u187 hown hgr hob
          have K188 := K186.appended 1 rfl hown hgr hob
          clear hown hgr hob
          try simp only [Act.put, List.setIfInBounds_toArray, List.set_cons_zero, List.set_cons_succ]
          refine QK.normal ⟨fun _ => ⟨K188.box.cell 2, K188.box.cell 3, K188.box.cell 4⟩, ?_⟩
          refine' wpAnyM_one 11 (by kernel_rfl) ?_ ?_; rotate_left; (simp only [List.getElem?_toArray, List.getElem?_cons_zero, List.getElem?_cons_succ]; rfl)
          at_builtin
          refine wpList_append_is a2.heap.size (.tmp 11) (.tmp 13) rfl rfl (K188.pend 2 rfl) rfl rfl (HPS.out.below K188.bel).2.2 gl (by rw [HLgl.out]; omega) (by have := HLL.out; omega) K188.sz ?_
          intro a194 c193 u191 hown hgr hob
          have K192 := K188.appended 2 rfl hown hgr hob
          clear hown hgr hob
          try simp only [Act.put, List.setIfInBounds_toArray, List.set_cons_zero, List.set_cons_succ]
          refine QK.normal ⟨fun _ => ⟨K192.box.cell 2, K192.box.cell 3, K192.box.cell 4⟩, ?_⟩
          refine' wpAnyM_one 13 (by kernel_rfl) ?_ ?_; rotate_left; (simp only [List.getElem?_toArray, List.getElem?_cons_zero, List.getElem?_cons_succ]; rfl)
          have c1 := K192.box.cell 2
          have f1 := K192.box.free 2
          simp only [pmC, List.getElem?_cons_zero, List.getElem?_cons_succ] at c1
          try simp only [Act.put]
          go_wp2_with fail
          clear c1 f1
          have K195 : CpI w a1.heap.size a2.heap.size (pmC o pe (Value.slice a168 rl c167) (Value.slice qa ql qc) (Value.slice ga gl gc)) _ _ (u191.setCell ⟨w.heap.size, 2, none⟩ (Value.slice a168 rl c167)) := K192.set 2 (Value.slice a168 rl c167)
          generalize (u191.setCell ⟨w.heap.size, 2, none⟩ (Value.slice a168 rl c167)) = u196 at K195 ⊢
          refine QK.normal ⟨fun h => absurd h (by decide), ?_⟩
          refine' wpAnyM_one 14 (by kernel_rfl) ?_ ?_; rotate_left; (simp only [List.getElem?_toArray, List.getElem?_cons_zero, List.getElem?_cons_succ]; rfl)
          try simp only [Act.put]
          go_wp2_with fail
          refine QK.normal ⟨fun h => absurd h (by decide), ?_⟩
          refine' wpAnyM_one 15 (by kernel_rfl) ?_ ?_; rotate_left; (simp only [List.getElem?_toArray, List.getElem?_cons_zero, List.getElem?_cons_succ]; rfl)
          have c1 := K195.box.cell 3
          have f1 := K195.box.free 3
          simp only [pmC, List.getElem?_cons_zero, List.getElem?_cons_succ] at c1
          try simp only [Act.put]
          go_wp2_with fail
          clear c1 f1
          have K197 : CpI w a1.heap.size a2.heap.size (pmC o pe (Value.slice a168 rl c167) (Value.slice a190 ql c189) (Value.slice ga gl gc)) _ _ (u196.setCell ⟨w.heap.size, 3, none⟩ (Value.slice a190 ql c189)) := K195.set 3 (Value.slice a190 ql c189)
          generalize (u196.setCell ⟨w.heap.size, 3, none⟩ (Value.slice a190 ql c189)) = u198 at K197 ⊢
          refine QK.normal ⟨fun h => absurd h (by decide), ?_⟩
          refine' wpAnyM_one 16 (by kernel_rfl) ?_ ?_; rotate_left; (simp only [List.getElem?_toArray, List.getElem?_cons_zero, List.getElem?_cons_succ]; rfl)
          try simp only [Act.put]
          go_wp2_with fail
          refine QK.normal ⟨fun h => absurd h (by decide), ?_⟩
          refine' wpAnyM_one 17 (by kernel_rfl) ?_ ?_; rotate_left; (simp only [List.getElem?_toArray, List.getElem?_cons_zero, List.getElem?_cons_succ]; rfl)
          have c1 := K197.box.cell 4
          have f1 := K197.box.free 4
          simp only [pmC, List.getElem?_cons_zero, List.getElem?_cons_succ] at c1
          try simp only [Act.put]
          go_wp2_with fail
          clear c1 f1
          have K199 : CpI w a1.heap.size a2.heap.size (pmC o pe (Value.slice a168 rl c167) (Value.slice a190 ql c189) (Value.slice a194 gl c193)) _ _ (u198.setCell ⟨w.heap.size, 4, none⟩ (Value.slice a194 gl c193)) := K197.set 4 (Value.slice a194 gl c193)
          generalize (u198.setCell ⟨w.heap.size, 4, none⟩ (Value.slice a194 gl c193)) = u200 at K199 ⊢
          refine QK.normal ⟨fun h => absurd h (by decide), ?_⟩
          refine wpAnyM_done (by kernel_rfl) ?_ _
          refine NoPanic.normal ?_
          go_wp2_with (first
    | (with_reducible refine wpList_load_any rfl 24 (.tmp 1) rfl w.heap.size 0 rfl (pmC o pe (Value.slice a168 rl c167) (Value.slice a190 ql c189) (Value.slice a194 gl c193)) _ (rangeW_blk K199.box) Try.underlying24 rfl (pmC_info _ _ _ _ _) ?_)
    | ((with_reducible refine wpList_store_blk u200 rfl 24 (.tmp 2) (.tmp 18) rfl a1.heap.size 24 (pmC 0 0 (.slice none 0 0) (.slice none 0 0) (.slice none 0 0)) (pmC o pe (Value.slice a168 rl c167) (Value.slice a190 ql c189) (Value.slice a194 gl c193)) K199.res rfl rfl rfl (pmC_info _ _ _ _ _) (pmC_one _ _ _ _ _ _ _ _ _ _ _) ?_); intro w9 hb hc hs; have H9 := Lib.hid (show Blk w9 a1.heap.size 24 (pmC o pe (Value.slice a168 rl c167) (Value.slice a190 ql c189) (Value.slice a194 gl c193)) ∧ Ch (· = a1.heap.size) u200 w9 from ⟨hb, hc⟩); clear hb hc hs))
          refine bodyPost_ret (results_blk Try.results14 _ _ a1.heap.size _ _ rfl H9.out.1 _ Try.underlying24 rfl (pmC_info _ _ _ _ _)) rfl ?_
          have k := K199.fin (o := o) (e := pe) rfl rfl rfl H9.out.2
          exact ⟨_, _, _, rfl, k.1, k.2.1, k.2.2⟩
      · skip
        refine wpList_slice_is0 u163 rfl rfl ?_
        intro u201 hown hbel hsz
        have K202 := K164.built 2 hown hbel
        clear hown hbel hsz
        simp only [Act.put, List.setIfInBounds_toArray, List.set_cons_zero, List.set_cons_succ]
        refine QK.normal ⟨fun _ => ⟨K202.box.cell 2, K202.box.cell 3, K202.box.cell 4⟩, ?_⟩
        refine' wpAnyM_one 3 (by kernel_rfl) ?_ ?_; rotate_left; (simp only [List.getElem?_toArray, List.getElem?_cons_zero, List.getElem?_cons_succ]; rfl)
        at_builtin
        refine wpList_append_is a2.heap.size (.tmp 3) (.tmp 5) rfl rfl (K202.pend 0 rfl) rfl rfl (HPS.out.below K202.bel).1 rl (by rw [HLrl.out]; omega) (by have := HLL.out; omega) K202.sz ?_
        intro a206 c205 u203 hown hgr hob
        have K204 := K202.appended 0 rfl hown hgr hob
        clear hown hgr hob
        try simp only [Act.put, List.setIfInBounds_toArray, List.set_cons_zero, List.set_cons_succ]
        refine QK.normal ⟨fun _ => ⟨K204.box.cell 2, K204.box.cell 3, K204.box.cell 4⟩, ?_⟩
        refine wpAnyM_takes (by kernel_rfl) noPanic_any (fuel := 7) ⟨K204.box.cell 2, K204.box.cell 3, K204.box.cell 4⟩ [12] _ _ (by kernel_rfl) ?_
        refine' HeldL.run ?_ ?_ ?_ ?_; rotate_left 2; (simp only [List.getElem?_toArray, List.getElem?_cons_zero, List.getElem?_cons_succ]; rfl); rfl; (rintro w' ⟨k0, k1, k2⟩; go_simp; with_reducible rfl); simp only [Act.put, List.setIfInBounds_toArray, List.set_cons_zero, List.set_cons_succ]
        refine' wpAnyM_one 7 (by kernel_rfl) ?_ ?_; rotate_left; (simp only [List.getElem?_toArray, List.getElem?_cons_zero, List.getElem?_cons_succ]; rfl)
        at_builtin
        refine wpList_append_is a2.heap.size (.tmp 7) (.tmp 9) rfl rfl (K204.pend 1 rfl) rfl rfl (HPS.out.below K204.bel).2.1 ql (by rw [HLql.out]; omega) (by have := HLL.out; omega) K204.sz ?_
        intro a210 c209 u207 hown hgr hob
        have K208 := K204.appended 1 rfl hown hgr hob
        clear hown hgr hob
        try simp only [Act.put, List.setIfInBounds_toArray, List.set_cons_zero, List.set_cons_succ]
        refine QK.normal ⟨fun _ => ⟨K208.box.cell 2, K208.box.cell 3, K208.box.cell 4⟩, ?_⟩
        refine' wpAnyM_one 11 (by kernel_rfl) ?_ ?_; rotate_left; (simp only [List.getElem?_toArray, List.getElem?_cons_zero, List.getElem?_cons_succ]; rfl)
        at_builtin
        refine wpList_append_is a2.heap.size (.tmp 11) (.tmp 13) rfl rfl (K208.pend 2 rfl) rfl rfl (HPS.out.below K208.bel).2.2 gl (by rw [HLgl.out]; omega) (by have := HLL.out; omega) K208.sz ?_
        intro a214 c213 u211 hown hgr hob
        have K212 := K208.appended 2 rfl hown hgr hob
        clear hown hgr hob
        try simp only [Act.put, List.setIfInBounds_toArray, List.set_cons_zero, List.set_cons_succ]
        refine QK.normal ⟨fun _ => ⟨K212.box.cell 2, K212.box.cell 3, K212.box.cell 4⟩, ?_⟩
        refine' wpAnyM_one 13 (by kernel_rfl) ?_ ?_; rotate_left; (simp only [List.getElem?_toArray, List.getElem?_cons_zero, List.getElem?_cons_succ]; rfl)
        have c1 := K212.box.cell 2
        have f1 := K212.box.free 2
        simp only [pmC, List.getElem?_cons_zero, List.getElem?_cons_succ] at c1
        try simp only [Act.put]
        go_wp2_with fail
        clear c1 f1
        have K215 : CpI w a1.heap.size a2.heap.size (pmC o pe (Value.slice a206 rl c205) (Value.slice qa ql qc) (Value.slice ga gl gc)) _ _ (u211.setCell ⟨w.heap.size, 2, none⟩ (Value.slice a206 rl c205)) := K212.set 2 (Value.slice a206 rl c205)
        generalize (u211.setCell ⟨w.heap.size, 2, none⟩ (Value.slice a206 rl c205)) = u216 at K215 ⊢
        refine QK.normal ⟨fun h => absurd h (by decide), ?_⟩
        refine' wpAnyM_one 14 (by kernel_rfl) ?_ ?_; rotate_left; (simp only [List.getElem?_toArray, List.getElem?_cons_zero, List.getElem?_cons_succ]; rfl)
        try simp only [Act.put]
        go_wp2_with fail
        refine QK.normal ⟨fun h => absurd h (by decide), ?_⟩
        refine' wpAnyM_one 15 (by kernel_rfl) ?_ ?_; rotate_left; (simp only [List.getElem?_toArray, List.getElem?_cons_zero, List.getElem?_cons_succ]; rfl)
        have c1 := K215.box.cell 3
        have f1 := K215.box.free 3
        simp only [pmC, List.getElem?_cons_zero, List.getElem?_cons_succ] at c1
        try simp only [Act.put]
        go_wp2_with fail
        clear c1 f1
        have K217 : CpI w a1.heap.size a2.heap.size (pmC o pe (Value.slice a206 rl c205) (Value.slice a210 ql c209) (Value.slice ga gl gc)) _ _ (u216.setCell ⟨w.heap.size, 3, none⟩ (Value.slice a210 ql c209)) := K215.set 3 (Value.slice a210 ql c209)
        generalize (u216.setCell ⟨w.heap.size, 3, none⟩ (Value.slice a210 ql c209)) = u218 at K217 ⊢
        refine QK.normal ⟨fun h => absurd h (by decide), ?_⟩
        refine' wpAnyM_one 16 (by kernel_rfl) ?_ ?_; rotate_left; (simp only [List.getElem?_toArray, List.getElem?_cons_zero, List.getElem?_cons_succ]; rfl)
        try simp only [Act.put]
        go_wp2_with fail
        refine QK.normal ⟨fun h => absurd h (by decide), ?_⟩
        refine' wpAnyM_one 17 (by kernel_rfl) ?_ ?_; rotate_left; (simp only [List.getElem?_toArray, List.getElem?_cons_zero, List.getElem?_cons_succ]; rfl)
        have c1 := K217.box.cell 4
        have f1 := K217.box.free 4
        simp only [pmC, List.getElem?_cons_zero, List.getElem?_cons_succ] at c1
        try simp only [Act.put]
        go_wp2_with fail
        clear c1 f1
        have K219 : CpI w a1.heap.size a2.heap.size (pmC o pe (Value.slice a206 rl c205) (Value.slice a210 ql c209) (Value.slice a214 gl c213)) _ _ (u218.setCell ⟨w.heap.size, 4, none⟩ (Value.slice a214 gl c213)) := K217.set 4 (Value.slice a214 gl c213)
        generalize (u218.setCell ⟨w.heap.size, 4, none⟩ (Value.slice a214 gl c213)) = u220 at K219 ⊢
        refine QK.normal ⟨fun h => absurd h (by decide), ?_⟩
        refine wpAnyM_done (by kernel_rfl) ?_ _
        refine NoPanic.normal ?_
        go_wp2_with (first
    | (with_reducible refine wpList_load_any rfl 24 (.tmp 1) rfl w.heap.size 0 rfl (pmC o pe (Value.slice a206 rl c205) (Value.slice a210 ql c209) (Value.slice a214 gl c213)) _ (rangeW_blk K219.box) Try.underlying24 rfl (pmC_info _ _ _ _ _) ?_)
    | ((with_reducible refine wpList_store_blk u220 rfl 24 (.tmp 2) (.tmp 18) rfl a1.heap.size 24 (pmC 0 0 (.slice none 0 0) (.slice none 0 0) (.slice none 0 0)) (pmC o pe (Value.slice a206 rl c205) (Value.slice a210 ql c209) (Value.slice a214 gl c213)) K219.res rfl rfl rfl (pmC_info _ _ _ _ _) (pmC_one _ _ _ _ _ _ _ _ _ _ _) ?_); intro w9 hb hc hs; have H9 := Lib.hid (show Blk w9 a1.heap.size 24 (pmC o pe (Value.slice a206 rl c205) (Value.slice a210 ql c209) (Value.slice a214 gl c213)) ∧ Ch (· = a1.heap.size) u220 w9 from ⟨hb, hc⟩); clear hb hc hs))
        refine bodyPost_ret (results_blk Try.results14 _ _ a1.heap.size _ _ rfl H9.out.1 _ Try.underlying24 rfl (pmC_info _ _ _ _ _)) rfl ?_
        have k := K219.fin (o := o) (e := pe) rfl rfl rfl H9.out.2
        exact ⟨_, _, _, rfl, k.1, k.2.1, k.2.2⟩
    · skip
      refine wpList_slice_is0 u161 rfl rfl ?_
      intro u221 hown hbel hsz
      have K222 := K162.built 2 hown hbel
      clear hown hbel hsz
      simp only [Act.put, List.setIfInBounds_toArray, List.set_cons_zero, List.set_cons_succ]
      refine QK.normal ⟨fun _ => ⟨K222.box.cell 2, K222.box.cell 3, K222.box.cell 4⟩, ?_⟩
      refine' wpAnyM_one 0 (by kernel_rfl) ?_ ?_; rotate_left; (simp only [List.getElem?_toArray, List.getElem?_cons_zero, List.getElem?_cons_succ]; rfl)
      refine wpList_slice_is0 u221 rfl rfl ?_
      intro u223 hown hbel hsz
      have K224 := K222.built 0 hown hbel
      clear hown hbel hsz
      simp only [Act.put, List.setIfInBounds_toArray, List.set_cons_zero, List.set_cons_succ]
      refine QK.normal ⟨fun _ => ⟨K224.box.cell 2, K224.box.cell 3, K224.box.cell 4⟩, ?_⟩
      refine' wpAnyM_one 3 (by kernel_rfl) ?_ ?_; rotate_left; (simp only [List.getElem?_toArray, List.getElem?_cons_zero, List.getElem?_cons_succ]; rfl)
      at_builtin
      refine wpList_append_is a2.heap.size (.tmp 3) (.tmp 5) rfl rfl (K224.pend 0 rfl) rfl rfl (HPS.out.below K224.bel).1 rl (by rw [HLrl.out]; omega) (by have := HLL.out; omega) K224.sz ?_
      intro a228 c227 u225 hown hgr hob
      have K226 := K224.appended 0 rfl hown hgr hob
      clear hown hgr hob
      try simp only [Act.put, List.setIfInBounds_toArray, List.set_cons_zero, List.set_cons_succ]
      refine QK.normal ⟨fun _ => ⟨K226.box.cell 2, K226.box.cell 3, K226.box.cell 4⟩, ?_⟩
      refine wpAnyM_takes (by kernel_rfl) noPanic_any (fuel := 7) ⟨K226.box.cell 2, K226.box.cell 3, K226.box.cell 4⟩ [12] _ _ (by kernel_rfl) ?_
      refine' HeldL.run ?_ ?_ ?_ ?_; rotate_left 2; (simp only [List.getElem?_toArray, List.getElem?_cons_zero, List.getElem?_cons_succ]; rfl); rfl; (rintro w' ⟨k0, k1, k2⟩; go_simp; with_reducible rfl); simp only [Act.put, List.setIfInBounds_toArray, List.set_cons_zero, List.set_cons_succ]
      refine' wpAnyM_one 7 (by kernel_rfl) ?_ ?_; rotate_left; (simp only [List.getElem?_toArray, List.getElem?_cons_zero, List.getElem?_cons_succ]; rfl)
      at_builtin
      refine wpList_append_is a2.heap.size (.tmp 7) (.tmp 9) rfl rfl (K226.pend 1 rfl) rfl rfl (HPS.out.below K226.bel).2.1 ql (by rw [HLql.out]; omega) (by have := HLL.out; omega) K226.sz ?_
      intro a232 c231 u229 hown hgr hob
      have K230 := K226.appended 1 rfl hown hgr hob
      clear hown hgr hob
      try simp only [Act.put, List.setIfInBounds_toArray, List.set_cons_zero, List.set_cons_succ]
      refine QK.normal ⟨fun _ => ⟨K230.box.cell 2, K230.box.cell 3, K230.box.cell 4⟩, ?_⟩
      refine' wpAnyM_one 11 (by kernel_rfl) ?_ ?_; rotate_left; (simp only [List.getElem?_toArray, List.getElem?_cons_zero, List.getElem?_cons_succ]; rfl)
      at_builtin
      refine wpList_append_is a2.heap.size (.tmp 11) (.tmp 13) rfl rfl (K230.pend 2 rfl) rfl rfl (HPS.out.below K230.bel).2.2 gl (by rw [HLgl.out]; omega) (by have := HLL.out; omega) K230.sz ?_
      intro a236 c235 u233 hown hgr hob
      have K234 := K230.appended 2 rfl hown hgr hob
      clear hown hgr hob
      try simp only [Act.put, List.setIfInBounds_toArray, List.set_cons_zero, List.set_cons_succ]
      refine QK.normal ⟨fun _ => ⟨K234.box.cell 2, K234.box.cell 3, K234.box.cell 4⟩, ?_⟩
      refine' wpAnyM_one 13 (by kernel_rfl) ?_ ?_; rotate_left; (simp only [List.getElem?_toArray, List.getElem?_cons_zero, List.getElem?_cons_succ]; rfl)
      have c1 := K234.box.cell 2
      have f1 := K234.box.free 2
      simp only [pmC, List.getElem?_cons_zero, List.getElem?_cons_succ] at c1
      try simp only [Act.put]
      go_wp2_with fail
      clear c1 f1
      have K237 : CpI w a1.heap.size a2.heap.size (pmC o pe (Value.slice a228 rl c227) (Value.slice qa ql qc) (Value.slice ga gl gc)) _ _ (u233.setCell ⟨w.heap.size, 2, none⟩ (Value.slice a228 rl c227)) := K234.set 2 (Value.slice a228 rl c227)
      generalize (u233.setCell ⟨w.heap.size, 2, none⟩ (Value.slice a228 rl c227)) = u238 at K237 ⊢
      refine QK.normal ⟨fun h => absurd h (by decide), ?_⟩
      refine' wpAnyM_one 14 (by kernel_rfl) ?_ ?_; rotate_left; (simp only [List.getElem?_toArray, List.getElem?_cons_zero, List.getElem?_cons_succ]; rfl)
      try simp only [Act.put]
      go_wp2_with fail
      refine QK.normal ⟨fun h => absurd h (by decide), ?_⟩
      refine' wpAnyM_one 15 (by kernel_rfl) ?_ ?_; rotate_left; (simp only [List.getElem?_toArray, List.getElem?_cons_zero, List.getElem?_cons_succ]; rfl)
      have c1 := K237.box.cell 3
      have f1 := K237.box.free 3
      simp only [pmC, List.getElem?_cons_zero, List.getElem?_cons_succ] at c1
      try simp only [Act.put]
      go_wp2_with fail
      clear c1 f1
      have K239 : CpI w a1.heap.size a2.heap.size (pmC o pe (Value.slice a228 rl c227) (Value.slice a232 ql c231) (Value.slice ga gl gc)) _ _ (u238.setCell ⟨w.heap.size, 3, none⟩ (Value.slice a232 ql c231)) := K237.set 3 (Value.slice a232 ql c231)
      generalize (u238.setCell ⟨w.heap.size, 3, none⟩ (Value.slice a232 ql c231)) = u240 at K239 ⊢
      refine QK.normal ⟨fun h => absurd h (by decide), ?_⟩
      refine' wpAnyM_one 16 (by kernel_rfl) ?_ ?_; rotate_left; (simp only [List.getElem?_toArray, List.getElem?_cons_zero, List.getElem?_cons_succ]; rfl)
      try simp only [Act.put]
      go_wp2_with fail
      refine QK.normal ⟨fun h => absurd h (by decide), ?_⟩
      refine' wpAnyM_one 17 (by kernel_rfl) ?_ ?_; rotate_left; (simp only [List.getElem?_toArray, List.getElem?_cons_zero, List.getElem?_cons_succ]; rfl)
      have c1 := K239.box.cell 4
      have f1 := K239.box.free 4
      simp only [pmC, List.getElem?_cons_zero, List.getElem?_cons_succ] at c1
      try simp only [Act.put]
      go_wp2_with fail
      clear c1 f1
      have K241 : CpI w a1.heap.size a2.heap.size (pmC o pe (Value.slice a228 rl c227) (Value.slice a232 ql c231) (Value.slice a236 gl c235)) _ _ (u240.setCell ⟨w.heap.size, 4, none⟩ (Value.slice a236 gl c235)) := K239.set 4 (Value.slice a236 gl c235)
      generalize (u240.setCell ⟨w.heap.size, 4, none⟩ (Value.slice a236 gl c235)) = u242 at K241 ⊢
      refine QK.normal ⟨fun h => absurd h (by decide), ?_⟩
      refine wpAnyM_done (by kernel_rfl) ?_ _
      refine NoPanic.normal ?_
      go_wp2_with (first
    | (with_reducible refine wpList_load_any rfl 24 (.tmp 1) rfl w.heap.size 0 rfl (pmC o pe (Value.slice a228 rl c227) (Value.slice a232 ql c231) (Value.slice a236 gl c235)) _ (rangeW_blk K241.box) Try.underlying24 rfl (pmC_info _ _ _ _ _) ?_)
    | ((with_reducible refine wpList_store_blk u242 rfl 24 (.tmp 2) (.tmp 18) rfl a1.heap.size 24 (pmC 0 0 (.slice none 0 0) (.slice none 0 0) (.slice none 0 0)) (pmC o pe (Value.slice a228 rl c227) (Value.slice a232 ql c231) (Value.slice a236 gl c235)) K241.res rfl rfl rfl (pmC_info _ _ _ _ _) (pmC_one _ _ _ _ _ _ _ _ _ _ _) ?_); intro w9 hb hc hs; have H9 := Lib.hid (show Blk w9 a1.heap.size 24 (pmC o pe (Value.slice a228 rl c227) (Value.slice a232 ql c231) (Value.slice a236 gl c235)) ∧ Ch (· = a1.heap.size) u242 w9 from ⟨hb, hc⟩); clear hb hc hs))
      refine bodyPost_ret (results_blk Try.results14 _ _ a1.heap.size _ _ rfl H9.out.1 _ Try.underlying24 rfl (pmC_info _ _ _ _ _)) rfl ?_
      have k := K241.fin (o := o) (e := pe) rfl rfl rfl H9.out.2
      exact ⟨_, _, _, rfl, k.1, k.2.1, k.2.2⟩
  · skip
    refine wpList_slice_is0 v1 rfl rfl ?_
    intro u243 hown hbel hsz
    have K244 := HV2.built 2 hown hbel
    clear hown hbel hsz
    simp only [Act.put, List.setIfInBounds_toArray, List.set_cons_zero, List.set_cons_succ]
    refine QK.normal ⟨fun _ => ⟨K244.box.cell 2, K244.box.cell 3, K244.box.cell 4⟩, ?_⟩
    refine' wpAnyM_two 0 4 (by kernel_rfl) ?_ ?_ ?_ ?_; rotate_left 2; (simp only [List.getElem?_toArray, List.getElem?_cons_zero, List.getElem?_cons_succ]; rfl); (simp only [List.getElem?_toArray, List.getElem?_cons_zero, List.getElem?_cons_succ]; rfl)
    · skip
      refine wpList_slice_is0 u243 rfl rfl ?_
      intro u245 hown hbel hsz
      have K246 := K244.built 0 hown hbel
      clear hown hbel hsz
      simp only [Act.put, List.setIfInBounds_toArray, List.set_cons_zero, List.set_cons_succ]
      refine QK.normal ⟨fun _ => ⟨K246.box.cell 2, K246.box.cell 3, K246.box.cell 4⟩, ?_⟩
      refine' wpAnyM_two 3 4 (by kernel_rfl) ?_ ?_ ?_ ?_; rotate_left 2; (simp only [List.getElem?_toArray, List.getElem?_cons_zero, List.getElem?_cons_succ]; rfl); (simp only [List.getElem?_toArray, List.getElem?_cons_zero, List.getElem?_cons_succ]; rfl)
      · skip
        at_builtin
        refine wpList_append_is a2.heap.size (.tmp 3) (.tmp 5) rfl rfl (K246.pend 0 rfl) rfl rfl (HPS.out.below K246.bel).1 rl (by rw [HLrl.out]; omega) (by have := HLL.out; omega) K246.sz ?_
        intro a250 c249 u247 hown hgr hob
        have K248 := K246.appended 0 rfl hown hgr hob
        clear hown hgr hob
        try simp only [Act.put, List.setIfInBounds_toArray, List.set_cons_zero, List.set_cons_succ]
        refine QK.normal ⟨fun _ => ⟨K248.box.cell 2, K248.box.cell 3, K248.box.cell 4⟩, ?_⟩
        refine wpAnyM_takes (by kernel_rfl) noPanic_any (fuel := 8) ⟨K248.box.cell 2, K248.box.cell 3, K248.box.cell 4⟩ [12] _ _ (by kernel_rfl) ?_
        refine' HeldL.run ?_ ?_ ?_ ?_; rotate_left 2; (simp only [List.getElem?_toArray, List.getElem?_cons_zero, List.getElem?_cons_succ]; rfl); rfl; (rintro w' ⟨k0, k1, k2⟩; go_simp; with_reducible rfl); simp only [Act.put, List.setIfInBounds_toArray, List.set_cons_zero, List.set_cons_succ]
        refine' wpAnyM_one 4 (by kernel_rfl) ?_ ?_; rotate_left; (simp only [List.getElem?_toArray, List.getElem?_cons_zero, List.getElem?_cons_succ]; rfl)
        refine wpList_slice_is0 u247 rfl rfl ?_
        intro u251 hown hbel hsz
        have K252 := K248.built 1 hown hbel
        clear hown hbel hsz
        simp only [Act.put, List.setIfInBounds_toArray, List.set_cons_zero, List.set_cons_succ]
        refine QK.normal ⟨fun _ => ⟨K252.box.cell 2, K252.box.cell 3, K252.box.cell 4⟩, ?_⟩
        refine' wpAnyM_one 7 (by kernel_rfl) ?_ ?_; rotate_left; (simp only [List.getElem?_toArray, List.getElem?_cons_zero, List.getElem?_cons_succ]; rfl)
        at_builtin
        refine wpList_append_is a2.heap.size (.tmp 7) (.tmp 9) rfl rfl (K252.pend 1 rfl) rfl rfl (HPS.out.below K252.bel).2.1 ql (by rw [HLql.out]; omega) (by have := HLL.out; omega) K252.sz ?_
        intro a256 c255 u253 hown hgr hob
        have K254 := K252.appended 1 rfl hown hgr hob
        clear hown hgr hob
        try simp only [Act.put, List.setIfInBounds_toArray, List.set_cons_zero, List.set_cons_succ]
        refine QK.normal ⟨fun _ => ⟨K254.box.cell 2, K254.box.cell 3, K254.box.cell 4⟩, ?_⟩
        refine' wpAnyM_one 11 (by kernel_rfl) ?_ ?_; rotate_left; (simp only [List.getElem?_toArray, List.getElem?_cons_zero, List.getElem?_cons_succ]; rfl)
        at_builtin
        refine wpList_append_is a2.heap.size (.tmp 11) (.tmp 13) rfl rfl (K254.pend 2 rfl) rfl rfl (HPS.out.below K254.bel).2.2 gl (by rw [HLgl.out]; omega) (by have := HLL.out; omega) K254.sz ?_
        intro a260 c259 u257 hown hgr hob
        have K258 := K254.appended 2 rfl hown hgr hob
        clear hown hgr hob
        try simp only [Act.put, List.setIfInBounds_toArray, List.set_cons_zero, List.set_cons_succ]
        refine QK.normal ⟨fun _ => ⟨K258.box.cell 2, K258.box.cell 3, K258.box.cell 4⟩, ?_⟩
        refine' wpAnyM_one 13 (by kernel_rfl) ?_ ?_; rotate_left; (simp only [List.getElem?_toArray, List.getElem?_cons_zero, List.getElem?_cons_succ]; rfl)
        have c1 := K258.box.cell 2
        have f1 := K258.box.free 2
        simp only [pmC, List.getElem?_cons_zero, List.getElem?_cons_succ] at c1
        try simp only [Act.put]
        go_wp2_with fail
        clear c1 f1
        have K261 : CpI w a1.heap.size a2.heap.size (pmC o pe (Value.slice a250 rl c249) (Value.slice qa ql qc) (Value.slice ga gl gc)) _ _ (u257.setCell ⟨w.heap.size, 2, none⟩ (Value.slice a250 rl c249)) := K258.set 2 (Value.slice a250 rl c249)
        generalize (u257.setCell ⟨w.heap.size, 2, none⟩ (Value.slice a250 rl c249)) = u262 at K261 ⊢
        refine QK.normal ⟨fun h => absurd h (by decide), ?_⟩
        refine' wpAnyM_one 14 (by kernel_rfl) ?_ ?_; rotate_left; (simp only [List.getElem?_toArray, List.getElem?_cons_zero, List.getElem?_cons_succ]; rfl)
        try simp only [Act.put]
        go_wp2_with fail
        refine QK.normal ⟨fun h => absurd h (by decide), ?_⟩
        refine' wpAnyM_one 15 (by kernel_rfl) ?_ ?_; rotate_left; (simp only [List.getElem?_toArray, List.getElem?_cons_zero, List.getElem?_cons_succ]; rfl)
        have c1 := K261.box.cell 3
        have f1 := K261.box.free 3
        simp only [pmC, List.getElem?_cons_zero, List.getElem?_cons_succ] at c1
        try simp only [Act.put]
        go_wp2_with fail
        clear c1 f1
        have K263 : CpI w a1.heap.size a2.heap.size (pmC o pe (Value.slice a250 rl c249) (Value.slice a256 ql c255) (Value.slice ga gl gc)) _ _ (u262.setCell ⟨w.heap.size, 3, none⟩ (Value.slice a256 ql c255)) := K261.set 3 (Value.slice a256 ql c255)
        generalize (u262.setCell ⟨w.heap.size, 3, none⟩ (Value.slice a256 ql c255)) = u264 at K263 ⊢
        refine QK.normal ⟨fun h => absurd h (by decide), ?_⟩
        refine' wpAnyM_one 16 (by kernel_rfl) ?_ ?_; rotate_left; (simp only [List.getElem?_toArray, List.getElem?_cons_zero, List.getElem?_cons_succ]; rfl)
        try simp only [Act.put]
        go_wp2_with fail
        refine QK.normal ⟨fun h => absurd h (by decide), ?_⟩
        refine' wpAnyM_one 17 (by kernel_rfl) ?_ ?_; rotate_left; (simp only [List.getElem?_toArray, List.getElem?_cons_zero, List.getElem?_cons_succ]; rfl)
        have c1 := K263.box.cell 4
        have f1 := K263.box.free 4
        simp only [pmC, List.getElem?_cons_zero, List.getElem?_cons_succ] at c1
        try simp only [Act.put]
        go_wp2_with fail
        clear c1 f1
        have K265 : CpI w a1.heap.size a2.heap.size (pmC o pe (Value.slice a250 rl c249) (Value.slice a256 ql c255) (Value.slice a260 gl c259)) _ _ (u264.setCell ⟨w.heap.size, 4, none⟩ (Value.slice a260 gl c259)) := K263.set 4 (Value.slice a260 gl c259)
        generalize (u264.setCell ⟨w.heap.size, 4, none⟩ (Value.slice a260 gl c259)) = u266 at K265 ⊢
        refine QK.normal ⟨fun h => absurd h (by decide), ?_⟩
        refine wpAnyM_done (by kernel_rfl) ?_ _
        refine NoPanic.normal ?_
        go_wp2_with (first
    | (with_reducible refine wpList_load_any rfl 24 (.tmp 1) rfl w.heap.size 0 rfl (pmC o pe (Value.slice a250 rl c249) (Value.slice a256 ql c255) (Value.slice a260 gl c259)) _ (rangeW_blk K265.box) Try.underlying24 rfl (pmC_info _ _ _ _ _) ?_)
    | ((with_reducible refine wpList_store_blk u266 rfl 24 (.tmp 2) (.tmp 18) rfl a1.heap.size 24 (pmC 0 0 (.slice none 0 0) (.slice none 0 0) (.slice none 0 0)) (pmC o pe (Value.slice a250 rl c249) (Value.slice a256 ql c255) (Value.slice a260 gl c259)) K265.res rfl rfl rfl (pmC_info _ _ _ _ _) (pmC_one _ _ _ _ _ _ _ _ _ _ _) ?_); intro w9 hb hc hs; have H9 := Lib.hid (show Blk w9 a1.heap.size 24 (pmC o pe (Value.slice a250 rl c249) (Value.slice a256 ql c255) (Value.slice a260 gl c259)) ∧ Ch (· = a1.heap.size) u266 w9 from ⟨hb, hc⟩); clear hb hc hs))
        refine bodyPost_ret (results_blk Try.results14 _ _ a1.heap.size _ _ rfl H9.out.1 _ Try.underlying24 rfl (pmC_info _ _ _ _ _)) rfl ?_
        have k := K265.fin (o := o) (e := pe) rfl rfl rfl H9.out.2
        exact ⟨_, _, _, rfl, k.1, k.2.1, k.2.2⟩
      · skip
        refine wpList_slice_is0 u245 rfl rfl ?_
        intro u267 hown hbel hsz
        have K268 := K246.built 1 hown hbel
        clear hown hbel hsz
        simp only [Act.put, List.setIfInBounds_toArray, List.set_cons_zero, List.set_cons_succ]
        refine QK.normal ⟨fun _ => ⟨K268.box.cell 2, K268.box.cell 3, K268.box.cell 4⟩, ?_⟩
        refine' wpAnyM_one 3 (by kernel_rfl) ?_ ?_; rotate_left; (simp only [List.getElem?_toArray, List.getElem?_cons_zero, List.getElem?_cons_succ]; rfl)
        at_builtin
        refine wpList_append_is a2.heap.size (.tmp 3) (.tmp 5) rfl rfl (K268.pend 0 rfl) rfl rfl (HPS.out.below K268.bel).1 rl (by rw [HLrl.out]; omega) (by have := HLL.out; omega) K268.sz ?_
        intro a272 c271 u269 hown hgr hob
        have K270 := K268.appended 0 rfl hown hgr hob
        clear hown hgr hob
        try simp only [Act.put, List.setIfInBounds_toArray, List.set_cons_zero, List.set_cons_succ]
        refine QK.normal ⟨fun _ => ⟨K270.box.cell 2, K270.box.cell 3, K270.box.cell 4⟩, ?_⟩
        refine wpAnyM_takes (by kernel_rfl) noPanic_any (fuel := 7) ⟨K270.box.cell 2, K270.box.cell 3, K270.box.cell 4⟩ [12] _ _ (by kernel_rfl) ?_
        refine' HeldL.run ?_ ?_ ?_ ?_; rotate_left 2; (simp only [List.getElem?_toArray, List.getElem?_cons_zero, List.getElem?_cons_succ]; rfl); rfl; (rintro w' ⟨k0, k1, k2⟩; go_simp; with_reducible rfl); simp only [Act.put, List.setIfInBounds_toArray, List.set_cons_zero, List.set_cons_succ]
        refine' wpAnyM_one 7 (by kernel_rfl) ?_ ?_; rotate_left; (simp only [List.getElem?_toArray, List.getElem?_cons_zero, List.getElem?_cons_succ]; rfl)
        at_builtin
        refine wpList_append_is a2.heap.size (.tmp 7) (.tmp 9) rfl rfl (K270.pend 1 rfl) rfl rfl (HPS.out.below K270.bel).2.1 ql (by rw [HLql.out]; omega) (by have := HLL.out; omega) K270.sz ?_
        intro a276 c275 u273 hown hgr hob
        have K274 := K270.appended 1 rfl hown hgr hob
        clear hown hgr hob
        try simp only [Act.put, List.setIfInBounds_toArray, List.set_cons_zero, List.set_cons_succ]
        refine QK.normal ⟨fun _ => ⟨K274.box.cell 2, K274.box.cell 3, K274.box.cell 4⟩, ?_⟩
        refine' wpAnyM_one 11 (by kernel_rfl) ?_ ?_; rotate_left; (simp only [List.getElem?_toArray, List.getElem?_cons_zero, List.getElem?_cons_succ]; rfl)
        at_builtin
        refine wpList_append_is a2.heap.size (.tmp 11) (.tmp 13) rfl rfl (K274.pend 2 rfl) rfl rfl (HPS.out.below K274.bel).2.2 gl (by rw [HLgl.out]; omega) (by have := HLL.out; omega) K274.sz ?_
        intro a280 c279 u277 hown hgr hob
        have K278 := K274.appended 2 rfl hown hgr hob
        clear hown hgr hob
        try simp only [Act.put, List.setIfInBounds_toArray, List.set_cons_zero, List.set_cons_succ]
        refine QK.normal ⟨fun _ => ⟨K278.box.cell 2, K278.box.cell 3, K278.box.cell 4⟩, ?_⟩
        refine' wpAnyM_one 13 (by kernel_rfl) ?_ ?_; rotate_left; (simp only [List.getElem?_toArray, List.getElem?_cons_zero, List.getElem?_cons_succ]; rfl)
        have c1 := K278.box.cell 2
        have f1 := K278.box.free 2
        simp only [pmC, List.getElem?_cons_zero, List.getElem?_cons_succ] at c1
        try simp only [Act.put]
        go_wp2_with fail
        clear c1 f1
        have K281 : CpI w a1.heap.size a2.heap.size (pmC o pe (Value.slice a272 rl c271) (Value.slice qa ql qc) (Value.slice ga gl gc)) _ _ (u277.setCell ⟨w.heap.size, 2, none⟩ (Value.slice a272 rl c271)) := K278.set 2 (Value.slice a272 rl c271)
        generalize (u277.setCell ⟨w.heap.size, 2, none⟩ (Value.slice a272 rl c271)) = u282 at K281 ⊢
        refine QK.normal ⟨fun h => absurd h (by decide), ?_⟩
        refine' wpAnyM_one 14 (by kernel_rfl) ?_ ?_; rotate_left; (simp only [List.getElem?_toArray, List.getElem?_cons_zero, List.getElem?_cons_succ]; rfl)
        try simp only [Act.put]
        go_wp2_with fail
        refine QK.normal ⟨fun h => absurd h (by decide), ?_⟩
        refine' wpAnyM_one 15 (by kernel_rfl) ?_ ?_; rotate_left; (simp only [List.getElem?_toArray, List.getElem?_cons_zero, List.getElem?_cons_succ]; rfl)
        have c1 := K281.box.cell 3
        have f1 := K281.box.free 3
        simp only [pmC, List.getElem?_cons_zero, List.getElem?_cons_succ] at c1
        try simp only [Act.put]
        go_wp2_with fail
        clear c1 f1
        have K283 : CpI w a1.heap.size a2.heap.size (pmC o pe (Value.slice a272 rl c271) (Value.slice a276 ql c275) (Value.slice ga gl gc)) _ _ (u282.setCell ⟨w.heap.size, 3, none⟩ (Value.slice a276 ql c275)) := K281.set 3 (Value.slice a276 ql c275)
        generalize (u282.setCell ⟨w.heap.size, 3, none⟩ (Value.slice a276 ql c275)) = u284 at K283 ⊢
        refine QK.normal ⟨fun h => absurd h (by decide), ?_⟩
        refine' wpAnyM_one 16 (by kernel_rfl) ?_ ?_; rotate_left; (simp only [List.getElem?_toArray, List.getElem?_cons_zero, List.getElem?_cons_succ]; rfl)
        try simp only [Act.put]
        go_wp2_with fail
        refine QK.normal ⟨fun h => absurd h (by decide), ?_⟩
        refine' wpAnyM_one 17 (by kernel_rfl) ?_ ?_; rotate_left; (simp only [List.getElem?_toArray, List.getElem?_cons_zero, List.getElem?_cons_succ]; rfl)
        have c1 := K283.box.cell 4
        have f1 := K283.box.free 4
        simp only [pmC, List.getElem?_cons_zero, List.getElem?_cons_succ] at c1
        try simp only [Act.put]
        go_wp2_with fail
        clear c1 f1
        have K285 : CpI w a1.heap.size a2.heap.size (pmC o pe (Value.slice a272 rl c271) (Value.slice a276 ql c275) (Value.slice a280 gl c279)) _ _ (u284.setCell ⟨w.heap.size, 4, none⟩ (Value.slice a280 gl c279)) := K283.set 4 (Value.slice a280 gl c279)
        generalize (u284.setCell ⟨w.heap.size, 4, none⟩ (Value.slice a280 gl c279)) = u286 at K285 ⊢
        refine QK.normal ⟨fun h => absurd h (by decide), ?_⟩
        refine wpAnyM_done (by kernel_rfl) ?_ _
        refine NoPanic.normal ?_
        go_wp2_with (first
    | (with_reducible refine wpList_load_any rfl 24 (.tmp 1) rfl w.heap.size 0 rfl (pmC o pe (Value.slice a272 rl c271) (Value.slice a276 ql c275) (Value.slice a280 gl c279)) _ (rangeW_blk K285.box) Try.underlying24 rfl (pmC_info _ _ _ _ _) ?_)
    | ((with_reducible refine wpList_store_blk u286 rfl 24 (.tmp 2) (.tmp 18) rfl a1.heap.size 24 (pmC 0 0 (.slice none 0 0) (.slice none 0 0) (.slice none 0 0)) (pmC o pe (Value.slice a272 rl c271) (Value.slice a276 ql c275) (Value.slice a280 gl c279)) K285.res rfl rfl rfl (pmC_info _ _ _ _ _) (pmC_one _ _ _ _ _ _ _ _ _ _ _) ?_); intro w9 hb hc hs; have H9 := Lib.hid (show Blk w9 a1.heap.size 24 (pmC o pe (Value.slice a272 rl c271) (Value.slice a276 ql c275) (Value.slice a280 gl c279)) ∧ Ch (· = a1.heap.size) u286 w9 from ⟨hb, hc⟩); clear hb hc hs))
        refine bodyPost_ret (results_blk Try.results14 _ _ a1.heap.size _ _ rfl H9.out.1 _ Try.underlying24 rfl (pmC_info _ _ _ _ _)) rfl ?_
        have k := K285.fin (o := o) (e := pe) rfl rfl rfl H9.out.2
        exact ⟨_, _, _, rfl, k.1, k.2.1, k.2.2⟩
    · skip
      refine wpList_slice_is0 u243 rfl rfl ?_
      intro u287 hown hbel hsz
      have K288 := K244.built 1 hown hbel
      clear hown hbel hsz
      simp only [Act.put, List.setIfInBounds_toArray, List.set_cons_zero, List.set_cons_succ]
      refine QK.normal ⟨fun _ => ⟨K288.box.cell 2, K288.box.cell 3, K288.box.cell 4⟩, ?_⟩
      refine' wpAnyM_one 0 (by kernel_rfl) ?_ ?_; rotate_left; (simp only [List.getElem?_toArray, List.getElem?_cons_zero, List.getElem?_cons_succ]; rfl)
      refine wpList_slice_is0 u287 rfl rfl ?_
      intro u289 hown hbel hsz
      have K290 := K288.built 0 hown hbel
      clear hown hbel hsz
      simp only [Act.put, List.setIfInBounds_toArray, List.set_cons_zero, List.set_cons_succ]
      refine QK.normal ⟨fun _ => ⟨K290.box.cell 2, K290.box.cell 3, K290.box.cell 4⟩, ?_⟩
      refine' wpAnyM_one 3 (by kernel_rfl) ?_ ?_; rotate_left; (simp only [List.getElem?_toArray, List.getElem?_cons_zero, List.getElem?_cons_succ]; rfl)
      at_builtin
      refine wpList_append_is a2.heap.size (.tmp 3) (.tmp 5) rfl rfl (K290.pend 0 rfl) rfl rfl (HPS.out.below K290.bel).1 rl (by rw [HLrl.out]; omega) (by have := HLL.out; omega) K290.sz ?_
      intro a294 c293 u291 hown hgr hob
      have K292 := K290.appended 0 rfl hown hgr hob
      clear hown hgr hob
      try simp only [Act.put, List.setIfInBounds_toArray, List.set_cons_zero, List.set_cons_succ]
      refine QK.normal ⟨fun _ => ⟨K292.box.cell 2, K292.box.cell 3, K292.box.cell 4⟩, ?_⟩
      refine wpAnyM_takes (by kernel_rfl) noPanic_any (fuel := 7) ⟨K292.box.cell 2, K292.box.cell 3, K292.box.cell 4⟩ [12] _ _ (by kernel_rfl) ?_
      refine' HeldL.run ?_ ?_ ?_ ?_; rotate_left 2; (simp only [List.getElem?_toArray, List.getElem?_cons_zero, List.getElem?_cons_succ]; rfl); rfl; (rintro w' ⟨k0, k1, k2⟩; go_simp; with_reducible rfl); simp only [Act.put, List.setIfInBounds_toArray, List.set_cons_zero, List.set_cons_succ]
      refine' wpAnyM_one 7 (by kernel_rfl) ?_ ?_; rotate_left; (simp only [List.getElem?_toArray, List.getElem?_cons_zero, List.getElem?_cons_succ]; rfl)
      at_builtin
      refine wpList_append_is a2.heap.size (.tmp 7) (.tmp 9) rfl rfl (K292.pend 1 rfl) rfl rfl (HPS.out.below K292.bel).2.1 ql (by rw [HLql.out]; omega) (by have := HLL.out; omega) K292.sz ?_
      intro a298 c297 u295 hown hgr hob
      have K296 := K292.appended 1 rfl hown hgr hob
      clear hown hgr hob
      try simp only [Act.put, List.setIfInBounds_toArray, List.set_cons_zero, List.set_cons_succ]
      refine QK.normal ⟨fun _ => ⟨K296.box.cell 2, K296.box.cell 3, K296.box.cell 4⟩, ?_⟩
      refine' wpAnyM_one 11 (by kernel_rfl) ?_ ?_; rotate_left; (simp only [List.getElem?_toArray, List.getElem?_cons_zero, List.getElem?_cons_succ]; rfl)
      at_builtin
      refine wpList_append_is a2.heap.size (.tmp 11) (.tmp 13) rfl rfl (K296.pend 2 rfl) rfl rfl (HPS.out.below K296.bel).2.2 gl (by rw [HLgl.out]; omega) (by have := HLL.out; omega) K296.sz ?_
      intro a302 c301 u299 hown hgr hob
      have K300 := K296.appended 2 rfl hown hgr hob
      clear hown hgr hob
      try simp only [Act.put, List.setIfInBounds_toArray, List.set_cons_zero, List.set_cons_succ]
      refine QK.normal ⟨fun _ => ⟨K300.box.cell 2, K300.box.cell 3, K300.box.cell 4⟩, ?_⟩
      refine' wpAnyM_one 13 (by kernel_rfl) ?_ ?_; rotate_left; (simp only [List.getElem?_toArray, List.getElem?_cons_zero, List.getElem?_cons_succ]; rfl)
      have c1 := K300.box.cell 2
      have f1 := K300.box.free 2
      simp only [pmC, List.getElem?_cons_zero, List.getElem?_cons_succ] at c1
      try simp only [Act.put]
      go_wp2_with fail
      clear c1 f1
      have K303 : CpI w a1.heap.size a2.heap.size (pmC o pe (Value.slice a294 rl c293) (Value.slice qa ql qc) (Value.slice ga gl gc)) _ _ (u299.setCell ⟨w.heap.size, 2, none⟩ (Value.slice a294 rl c293)) := K300.set 2 (Value.slice a294 rl c293)
      generalize (u299.setCell ⟨w.heap.size, 2, none⟩ (Value.slice a294 rl c293)) = u304 at K303 ⊢
      refine QK.normal ⟨fun h => absurd h (by decide), ?_⟩
      refine' wpAnyM_one 14 (by kernel_rfl) ?_ ?_; rotate_left; (simp only [List.getElem?_toArray, List.getElem?_cons_zero, List.getElem?_cons_succ]; rfl)
      try simp only [Act.put]
      go_wp2_with fail
      refine QK.normal ⟨fun h => absurd h (by decide), ?_⟩
      refine' wpAnyM_one 15 (by kernel_rfl) ?_ ?_; rotate_left; (simp only [List.getElem?_toArray, List.getElem?_cons_zero, List.getElem?_cons_succ]; rfl)
      have c1 := K303.box.cell 3
      have f1 := K303.box.free 3
      simp only [pmC, List.getElem?_cons_zero, List.getElem?_cons_succ] at c1
      try simp only [Act.put]
      go_wp2_with fail
      clear c1 f1
      have K305 : CpI w a1.heap.size a2.heap.size (pmC o pe (Value.slice a294 rl c293) (Value.slice a298 ql c297) (Value.slice ga gl gc)) _ _ (u304.setCell ⟨w.heap.size, 3, none⟩ (Value.slice a298 ql c297)) := K303.set 3 (Value.slice a298 ql c297)
      generalize (u304.setCell ⟨w.heap.size, 3, none⟩ (Value.slice a298 ql c297)) = u306 at K305 ⊢
      refine QK.normal ⟨fun h => absurd h (by decide), ?_⟩
      refine' wpAnyM_one 16 (by kernel_rfl) ?_ ?_; rotate_left; (simp only [List.getElem?_toArray, List.getElem?_cons_zero, List.getElem?_cons_succ]; rfl)
      try simp only [Act.put]
      go_wp2_with fail
      refine QK.normal ⟨fun h => absurd h (by decide), ?_⟩
      refine' wpAnyM_one 17 (by kernel_rfl) ?_ ?_; rotate_left; (simp only [List.getElem?_toArray, List.getElem?_cons_zero, List.getElem?_cons_succ]; rfl)
      have c1 := K305.box.cell 4
      have f1 := K305.box.free 4
      simp only [pmC, List.getElem?_cons_zero, List.getElem?_cons_succ] at c1
      try simp only [Act.put]
      go_wp2_with fail
      clear c1 f1
      have K307 : CpI w a1.heap.size a2.heap.size (pmC o pe (Value.slice a294 rl c293) (Value.slice a298 ql c297) (Value.slice a302 gl c301)) _ _ (u306.setCell ⟨w.heap.size, 4, none⟩ (Value.slice a302 gl c301)) := K305.set 4 (Value.slice a302 gl c301)
      generalize (u306.setCell ⟨w.heap.size, 4, none⟩ (Value.slice a302 gl c301)) = u308 at K307 ⊢
      refine QK.normal ⟨fun h => absurd h (by decide), ?_⟩
      refine wpAnyM_done (by kernel_rfl) ?_ _
      refine NoPanic.normal ?_
      go_wp2_with (first
    | (with_reducible refine wpList_load_any rfl 24 (.tmp 1) rfl w.heap.size 0 rfl (pmC o pe (Value.slice a294 rl c293) (Value.slice a298 ql c297) (Value.slice a302 gl c301)) _ (rangeW_blk K307.box) Try.underlying24 rfl (pmC_info _ _ _ _ _) ?_)
    | ((with_reducible refine wpList_store_blk u308 rfl 24 (.tmp 2) (.tmp 18) rfl a1.heap.size 24 (pmC 0 0 (.slice none 0 0) (.slice none 0 0) (.slice none 0 0)) (pmC o pe (Value.slice a294 rl c293) (Value.slice a298 ql c297) (Value.slice a302 gl c301)) K307.res rfl rfl rfl (pmC_info _ _ _ _ _) (pmC_one _ _ _ _ _ _ _ _ _ _ _) ?_); intro w9 hb hc hs; have H9 := Lib.hid (show Blk w9 a1.heap.size 24 (pmC o pe (Value.slice a294 rl c293) (Value.slice a298 ql c297) (Value.slice a302 gl c301)) ∧ Ch (· = a1.heap.size) u308 w9 from ⟨hb, hc⟩); clear hb hc hs))
      refine bodyPost_ret (results_blk Try.results14 _ _ a1.heap.size _ _ rfl H9.out.1 _ Try.underlying24 rfl (pmC_info _ _ _ _ _)) rfl ?_
      have k := K307.fin (o := o) (e := pe) rfl rfl rfl H9.out.2
      exact ⟨_, _, _, rfl, k.1, k.2.1, k.2.2⟩


end Go.Proofs.Ytampheimonmggaa
