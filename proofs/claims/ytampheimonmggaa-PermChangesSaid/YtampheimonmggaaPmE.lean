/-
  slices.Insert at one int, perm.with, walked. Conditions: the slice is the call's own, the int lies in a block of its own.
-/
import Derived.Test.YtampheimonmggaaPmD
import Derived.Test.YtampheimonmggaaRg
import Derived.Lib.AppendZerosOnto
import Derived.Lib.Overlaps
import Derived.Laws.Externs
namespace Go.Proofs.Ytampheimonmggaa
open Go Go.RowKit Go.Sort
set_option linter.unusedSimpArgs false

/-- copy into a block known whole: as many as fit -/
theorem wpList_copy_cut {P : Program} (w : World) {ops : Array Oper} {rest : List Oper} {o : Oper} {a : Act} {Q : Exit → Act → World → Prop} (hgd : o.guard = none) (d s : Operand) (dT sT : TypeId)
    (ho : o.op = .call { callee := .builtin .copy, args := #[d, s], argTypes := #[dT, sT] }) (elem : TypeId) (hu : P.underlying dT = some (.slice elem)) (hsz : (P.info? elem).map (·.size) = some 1)
    (g off dLen dCap : Nat) (hd : a.eval d = .slice (some ⟨g, off, none⟩) dLen dCap) (ad : Addr) (sLen sCap : Nat) (hs : a.eval s = .slice (some ad) sLen sCap)
    (cur : List Value) (t : TypeId) (hg : Blk w g t cur) (cs : List Value) (hn : cs.length = min sLen dLen) (hsrc : ∀ j v, cs[j]? = some v → w.cell? (ad.add j) = some v) (hfit : off + cs.length ≤ cur.length) (h1 : ∀ v ∈ cs, v.oneCell' = true)
    (h : ∀ w', Blk w' g t (splice cur off cs) → Ch (· = g) w w' → w'.heap.size = w.heap.size → wpList P ops Q rest (a.put o.dst (goInt cs.length)) w') : wpList P ops Q (o :: rest) a w := by
  refine wpList_copy_own hgd d s dT sT ho elem hu hsz g off dLen dCap ad sLen sCap hd hs cur.toArray t hg cs hn hsrc (by simpa using hfit) h1 ?_
  refine h _ ?_ ⟨rfl, rfl, rfl, by simp [World.setRow], fun k hk hne => setRow_other w g k _ hne⟩ (by simp [World.setRow])
  unfold Blk
  simpa [splice] using setRow_heap w g _ _ t _ hg

theorem Blk.shape {w : World} {g : Nat} {t : TypeId} {cs : List Value} (h : Blk w g t cs) : w.shape? g = some (t, cs.length) := by
  unfold Blk at h; simp [World.shape?, h]

/-- a list with one put in -/
def insL (l : List Int) (i : Nat) (x : Int) : List Int := l.take i ++ x :: l.drop i
theorem insL_length {l : List Int} {i : Nat} {x : Int} (h : i ≤ l.length) : (insL l i x).length = l.length + 1 := by
  unfold insL; rw [List.length_append, List.length_take, List.length_cons, List.length_drop]; omega
theorem splice_at (L : List Value) (off : Nat) (cs : List Value) (j : Nat) (h : off + cs.length ≤ L.length) : (splice L off cs)[j]? = if j < off then L[j]? else if j < off + cs.length then cs[j - off]? else L[j]? := by
  unfold splice
  have ho : (L.take off).length = off := by rw [List.length_take]; omega
  split
  · rename_i hj
    rw [List.getElem?_append_left (by omega), List.getElem?_take, if_pos hj]
  · rename_i hj
    rw [List.getElem?_append_right (by omega), ho]
    split
    · rename_i hk
      rw [List.getElem?_append_left (by omega)]
    · rename_i hk
      rw [List.getElem?_append_right (by omega), List.getElem?_drop]
      congr 1; omega
theorem insL_at (l : List Int) (i : Nat) (x : Int) (h : i ≤ l.length) (j : Nat) : (ofK .i64 (insL l i x))[j]? = if j < i then (ofK .i64 l)[j]? else if j = i then some (.int .i64 x) else (ofK .i64 l)[j - 1]? := by
  unfold insL ofK
  have hl : (l.take i).length = i := by rw [List.length_take]; omega
  rw [List.getElem?_map, List.getElem?_map, List.getElem?_map]
  split
  · rename_i hj
    rw [List.getElem?_append_left (by omega), List.getElem?_take, if_pos hj]
  · rename_i hj
    rw [List.getElem?_append_right (by omega), hl]
    split
    · rename_i hk
      subst hk
      rw [Nat.sub_self]; rfl
    · rename_i hk
      rw [show j - i = (j - 1 - i) + 1 by omega, List.getElem?_cons_succ, List.getElem?_drop, show i + (j - 1 - i) = j - 1 by omega]
theorem drop_ofK_at (l : List Int) (i j : Nat) : (ofK .i64 (l.drop i))[j]? = (ofK .i64 l)[i + j]? := by
  unfold ofK
  rw [List.getElem?_map, List.getElem?_map, List.getElem?_drop]
theorem shift_at (l : List Int) (sp : List Value) (i : Nat) (x : Int) (h : i < l.length) (hs : 0 < sp.length) (j : Nat) (hj : j < l.length + 1) :
    (splice (splice (ofK .i64 l ++ sp) (i + 1) (ofK .i64 (l.drop i))) i [.int .i64 x])[j]? = (ofK .i64 (insL l i x))[j]? := by
  have hl : (ofK .i64 l).length = l.length := length_ofK _ _
  have hd : (ofK .i64 (l.drop i)).length = l.length - i := by rw [length_ofK, List.length_drop]
  have hsl : (splice (ofK .i64 l ++ sp) (i + 1) (ofK .i64 (l.drop i))).length = l.length + sp.length := by rw [length_splice _ _ _ (by rw [List.length_append]; omega), List.length_append, hl]
  rw [splice_at _ _ _ _ (by rw [hsl]; simp; omega), splice_at _ _ _ _ (by rw [List.length_append]; omega), insL_at _ _ _ (by omega), drop_ofK_at, hd]
  by_cases h1 : j < i
  · rw [if_pos h1, if_pos h1, if_pos (by omega), List.getElem?_append_left (by omega)]
  · rw [if_neg h1, if_neg h1]
    by_cases h2 : j = i
    · subst h2; simp
    · rw [if_neg (by simp; omega), if_neg (by omega), if_pos (by omega), if_neg h2]
      congr 1; omega
theorem grow_at (l : List Int) (Z : List Value) (i : Nat) (x : Int) (h : i < l.length) (hs : l.length + 1 - i ≤ Z.length) (j : Nat) (hj : j < l.length + 1) :
    (splice (splice ((ofK .i64 l).take i ++ Z) i [.int .i64 x]) (i + 1) (ofK .i64 (l.drop i)))[j]? = (ofK .i64 (insL l i x))[j]? := by
  have hl : (ofK .i64 l).length = l.length := length_ofK _ _
  have hd : (ofK .i64 (l.drop i)).length = l.length - i := by rw [length_ofK, List.length_drop]
  have ht : ((ofK .i64 l).take i).length = i := by rw [List.length_take]; omega
  have hsl : (splice ((ofK .i64 l).take i ++ Z) i [.int .i64 x]).length = i + Z.length := by rw [length_splice _ _ _ (by rw [List.length_append]; simp; omega), List.length_append, ht]
  rw [splice_at _ _ _ _ (by rw [hsl]; omega), splice_at _ _ _ _ (by rw [List.length_append]; simp; omega), insL_at _ _ _ (by omega), drop_ofK_at, hd]
  by_cases h1 : j < i
  · rw [if_pos (by omega), if_pos h1, if_pos h1, List.getElem?_append_left (by omega), List.getElem?_take, if_pos h1]
  · by_cases h2 : j = i
    · subst h2; simp
    · rw [if_neg (by omega), if_pos (by omega), if_neg h1, if_neg h2]
      congr 1; omega

/-- what a block that begins so reads -/
theorem Blk.sl_at {w : World} {g : Nat} {t : TypeId} {X : List Value} {xs : List Int} (h : Blk w g t X) (n c : Nat) (hn : xs.length = n) (hc : n ≤ c) (hm : c ≤ maxLen) (hx : ∀ j, j < n → X[j]? = (ofK .i64 xs)[j]?) : Sl w (.slice (some ⟨g, 0, none⟩) n c) (ofK .i64 xs) := by
  refine .inr ⟨⟨g, 0, none⟩, c, by rw [length_ofK, hn], by rw [length_ofK, hn]; exact hc, hm, fun j u hu => ?_⟩
  have hj : j < n := by have := (List.getElem?_eq_some_iff.1 hu).1; rwa [length_ofK, hn] at this
  have e : (Addr.add ⟨g, 0, none⟩ j) = ⟨g, j, none⟩ := by unfold Addr.add; split <;> simp_all
  rw [e, h.cell, hx j hj]; exact hu

/-- the slice's block is B or a later one -/
def Abv (B : Nat) (v : Value) : Prop := ∀ k, v.ownBlock = some k → B ≤ k
def InsP (base : Nat) (w : World) (xs : List Int) (e : Ending) (w' : World) : Prop := ∃ ao n c, e = .returned (.slice ao n c) ∧ Sl w' (.slice ao n c) (ofK .i64 xs) ∧ Below base w w' ∧ Abv base (.slice ao n c)

set_option maxRecDepth 100000 in
set_option maxHeartbeats 4000000 in
theorem insert_end (base vb : Nat) (x : Int) (v : Value) (l : List Int) (w : World) (hv : w.ownsRow base 3 1 v l.length (ofK .i64 l)) (hb : base ≤ w.heap.size) (hx : Blk w vb 3 [.int .i64 x]) (hl : l.length ≤ 1000000) :
    Calls Try.prog 49 #[v, .int .i64 l.length, .slice (some ⟨vb, 0, none⟩) 1 1] w (InsP base w (l ++ [x])) := by
  obtain ⟨ao, c, rfl⟩ := own_shape hv
  have hc : l.length ≤ c := by obtain ⟨ao2, c2, e, h, _⟩ := (Sl.of_owns hv).nums; cases e; exact h
  have hc2 : c ≤ 9223372036854775807 := by obtain ⟨ao2, c2, e, _, h, _⟩ := (Sl.of_owns hv).nums; cases e; exact h
  have HV := Lib.hid (And.intro hv (And.intro hb hx))
  obtain ⟨n, hn⟩ : ∃ n, l.length = n := ⟨_, rfl⟩
  rw [hn] at hc hl HV ⊢
  have HN := Lib.hid hn
  have hsx : Sl w (.slice (some ⟨vb, 0, none⟩) 1 1) (ofK .i64 [x]) := hx.sl_at 1 1 rfl (by omega) (by unfold maxLen; omega) (fun j hj => match j, hj with | 0, _ => rfl)
  have HX := Lib.hid hsx
  clear hv hb hx hsx hn
  by_cases hcn : c = n
  · subst hcn
    go_enter Try.func49, Try.ntmps49
    go_wp2_with (at_builtin; refine wpList_append_is base (.tmp 23) (.tmp 24) rfl rfl HV.out.1 rfl rfl HX.out (c + 1) rfl (by omega) HV.out.2.1 ?_)
    intro ao2 c2 w1 hown hgr _
    have H1 := Lib.hid (show Sl w1 (.slice ao2 (c + 1) c2) (ofK .i64 (l ++ [x])) ∧ Below base w w1 ∧ Abv base (.slice ao2 (c + 1) c2) from ⟨Sl.of_owns hown, (Below.refl _ _).grown hgr HV.out.2.1 (fun k hk => (HV.out.1.lt k hk).1), fun k hk => (hown.lt k hk).1⟩)
    clear hown hgr
    go_wp2_with fail
    go_ret
    exact ⟨_, _, _, rfl, H1.out.1, H1.out.2.1, H1.out.2.2⟩
  · skip
    go_enter Try.func49, Try.ntmps49
    go_wp2_with (at_builtin; refine wpList_append_is base (.tmp 23) (.tmp 24) rfl rfl HV.out.1 rfl rfl HX.out (n + 1) rfl (by omega) HV.out.2.1 ?_)
    intro ao2 c2 w1 hown hgr _
    have H1 := Lib.hid (show Sl w1 (.slice ao2 (n + 1) c2) (ofK .i64 (l ++ [x])) ∧ Below base w w1 ∧ Abv base (.slice ao2 (n + 1) c2) from ⟨Sl.of_owns hown, (Below.refl _ _).grown hgr HV.out.2.1 (fun k hk => (HV.out.1.lt k hk).1), fun k hk => (hown.lt k hk).1⟩)
    clear hown hgr
    go_wp2_with fail
    go_ret
    exact ⟨_, _, _, rfl, H1.out.1, H1.out.2.1, H1.out.2.2⟩

theorem Try.sizeInt1 : (Try.prog.info? 3).map (·.size) = some 1 := by kernel_rfl

set_option maxRecDepth 100000 in
set_option maxHeartbeats 4000000 in
theorem insert_mid (base vb i : Nat) (x : Int) (v : Value) (l : List Int) (w : World) (hv : w.ownsRow base 3 1 v l.length (ofK .i64 l)) (hb : base ≤ w.heap.size) (hx : Blk w vb 3 [.int .i64 x]) (hnv : ∀ k, v.ownBlock = some k → k ≠ vb) (hl : l.length ≤ 1000000) (hi : i < l.length) :
    Calls Try.prog 49 #[v, .int .i64 i, .slice (some ⟨vb, 0, none⟩) 1 1] w (InsP base w (insL l i x)) := by
  obtain ⟨h1, ⟨rfl, h2⟩ | ⟨g, c, C, rfl, hg, hh, hnc, hcm, hcs, htk⟩⟩ := hv
  · omega
  have hblk : Blk w g 3 C.toList := hh
  rw [Nat.mul_one] at hcs htk
  have hgv := hnv g rfl
  have hmx : c ≤ 9223372036854775807 := by unfold maxLen at hcm; omega
  obtain ⟨sp, hsp⟩ : ∃ sp, C.toList = ofK .i64 l ++ sp := ⟨C.toList.drop l.length, by rw [← htk, List.take_append_drop]⟩
  have hspl : l.length + sp.length = c := by have := congrArg List.length hsp; rw [List.length_append, length_ofK] at this; simp at this; omega
  rw [hsp] at hblk
  have hov : ∀ la ca, (callFunc 58 #[.slice (some ⟨vb, 0, none⟩) 1 1, .slice (some ⟨g, i + 1, none⟩) la ca]).run Try.prog w = .ok (.value (.bool false)) w := fun la ca => by
    rw [run_callFunc_extern Try.func58 (by kernel_rfl) (by kernel_rfl) (by kernel_rfl) (e := Extern.SlicesOverlaps.overlaps #[22, 22] #[4]) (by kernel_rfl),
      Lib.run_overlaps_apart w 22 4 3 Try.underlying22 1 (fun w => by kernel_rfl) ⟨vb, 0, none⟩ ⟨g, i + 1, none⟩ 1 1 la ca (fun e => hgv e.symm) _ _ _ _ hx.shape hblk.shape (by rw [List.length_append, length_ofK]; omega) (hx.free 0) (hx.free 1)]
    rfl
  have HB := Lib.hid (And.intro hblk (And.intro hx (And.intro hg (And.intro hb (And.intro hgv hov)))))
  have HSP := Lib.hid hspl
  have HI := Lib.hid hi
  obtain ⟨n, hn⟩ : ∃ n, l.length = n := ⟨_, rfl⟩
  have HN := Lib.hid hn
  rw [hn] at hi hl hnc ⊢
  have hne : ((i : Int) == (n : Int)) = false := by simp; omega
  have hin : (i : Int) ≤ (n : Int) := by omega
  have hic : (i : Int) ≤ (c : Int) := by omega
  have h0i : (0 : Int) ≤ (i : Int) := by omega
  have hxs : ∀ W : World, Blk W vb 3 [.int .i64 x] → ∀ j u, [Value.int .i64 x][j]? = some u → W.cell? (Addr.add ⟨vb, 0, none⟩ j) = some u := fun W hW j u hu => by
    have e : (Addr.add ⟨vb, 0, none⟩ j) = ⟨vb, j, none⟩ := by unfold Addr.add; split <;> simp_all
    rw [e, hW.cell]; exact hu
  have HXS := Lib.hid hxs
  have hdr : ∀ (W : World) (X : List Value), Blk W g 3 X → (∀ j, i ≤ j → j < n → X[j]? = (ofK .i64 l)[j]?) → ∀ j u, (ofK .i64 (l.drop i))[j]? = some u → W.cell? (Addr.add ⟨g, i, none⟩ j) = some u := fun W X hW hX j u hu => by
    have hj : j < n - i := by have := (List.getElem?_eq_some_iff.1 hu).1; rwa [length_ofK, List.length_drop, HN.out] at this
    have e : (Addr.add ⟨g, i, none⟩ j) = ⟨g, i + j, none⟩ := by unfold Addr.add; split <;> simp_all
    rw [e, hW.cell, hX _ (by omega) (by omega), ← drop_ofK_at]; exact hu
  have HDR := Lib.hid hdr
  have HDL := Lib.hid (show (ofK .i64 (l.drop i)).length = n - i by rw [length_ofK, List.length_drop, HN.out])
  have hgk : n + 1 ≤ grownCap w (n + 1) c 3 := grownCap_ge w _ _ _
  clear hblk hx hg hb hnv hcm hcs htk hh hsp hov hspl hn h1 hxs hdr
  have hw1 : IntKind.i64.wrap ((n : Int) + 1) = (n : Int) + 1 := by rw [IntKind.wrap_i64]; omega
  have hwi : IntKind.i64.wrap ((i : Int) + 1) = (i : Int) + 1 := by rw [IntKind.wrap_i64]; omega
  have hi1 : (0 : Int) ≤ (i : Int) + 1 := by omega
  have hti : ((i : Int) + 1).toNat = i + 1 := by omega
  by_cases hroom : c < n + 1
  · -- no room
    have hrz : (c : Int) < (n : Int) + 1 := by omega
    have hkk : (n : Int) + 1 - (i : Int) = ((n + 1 - i : Nat) : Int) := by omega
    have hwk : IntKind.i64.wrap ((n : Int) + 1 - (i : Int)) = ((n + 1 - i : Nat) : Int) := by rw [IntKind.wrap_i64]; omega
    obtain ⟨i0, hi0, hz0, hzs, hzb⟩ := info_parts Try.infoI
    have hold : (Builtin.firstCells i0.size i (.slice (some ⟨g, 0, none⟩) i c)).run Try.prog w.drew = .ok ((ofK .i64 l).take i).toArray w.drew := by
      rw [hzs]
      exact run_firstCells_some w.drew 1 i ⟨g, 0, none⟩ i c ((ofK .i64 l).take i) (by rw [List.length_take, length_ofK, HN.out]; omega) (fun j u hj => by
        have e : (Addr.add ⟨g, 0, none⟩ j) = ⟨g, j, none⟩ := by unfold Addr.add; split <;> simp_all
        rw [List.getElem?_take] at hj
        split at hj
        · rw [e]
          show w.cell? _ = _
          rw [HB.out.1.cell, List.getElem?_append_left (by rw [length_ofK, HN.out]; omega)]; exact hj
        · cases hj)
    have hrun : ∀ ty, (Builtin.append_ #[22, 3] ty #[.slice (some ⟨g, 0, none⟩) i c, .int .i64 ((n + 1 - i : Nat) : Int)]).run Try.prog w =
        .ok (.slice (some ⟨w.heap.size, 0, none⟩) (n + 1) (grownCap w (n + 1) c 3)) (w.drew.alloc (.cells (((ofK .i64 l).take i).toArray ++ Builtin.zeroCells (Value.int .i64 0).cells (n + 1 - i) ++ Builtin.zeroCells (Value.int .i64 0).cells (grownCap w (n + 1) c 3 - (n + 1))) 3)) := fun ty => by
      have h := Lib.run_append_grow_zeros w 22 3 ty 3 i0 _ .i64 .i64 Try.underlying22 Try.underlying3 hi0 hz0 (some ⟨g, 0, none⟩) i c _ hold (n + 1 - i) (by omega) (by omega) (by omega) (by omega) (by rw [hzb]; omega) (by rw [hzb]; exact growslice_fits (by omega) (by omega))
      rw [show i + (n + 1 - i) = n + 1 by omega] at h
      exact h
    obtain ⟨G, hG⟩ : ∃ G, grownCap w (n + 1) c 3 = G := ⟨_, rfl⟩
    have hGm : G ≤ 9223372036854775807 := by
      have := grownCap_le_maxLen w (n + 1) c 3 (by unfold maxLen; omega)
      rw [hG] at this
      unfold maxLen at this
      omega
    rw [hG] at hrun hgk
    obtain ⟨Z, hZ⟩ : ∃ Z : List Value, (((ofK .i64 l).take i).toArray ++ Builtin.zeroCells (Value.int .i64 0).cells (n + 1 - i) ++ Builtin.zeroCells (Value.int .i64 0).cells (G - (n + 1))) = ((ofK .i64 l).take i ++ Z).toArray ∧ Z.length = G - i := by
      refine ⟨(Builtin.zeroCells (Value.int .i64 0).cells (n + 1 - i)).toList ++ (Builtin.zeroCells (Value.int .i64 0).cells (G - (n + 1))).toList, ?_, ?_⟩
      · rw [← Array.toList_inj]; simp
      · simp [Builtin.zeroCells, Value.cells]; omega
    obtain ⟨W1, hW1⟩ : ∃ W1, w.drew.alloc (.cells ((ofK .i64 l).take i ++ Z).toArray 3) = W1 := ⟨_, rfl⟩
    have HZ := Lib.hid (show ∀ ty, (Builtin.append_ #[22, 3] ty #[.slice (some ⟨g, 0, none⟩) i c, .int .i64 ((n + 1 - i : Nat) : Int)]).run Try.prog w = .ok (.slice (some ⟨w.heap.size, 0, none⟩) (n + 1) G) W1 from fun ty => by rw [hrun ty, hZ.1, hW1])
    have HZL := Lib.hid hZ.2
    have HA1 := Lib.hid (show Blk W1 w.heap.size 3 ((ofK .i64 l).take i ++ Z) ∧ Below w.heap.size w W1 from by rw [← hW1]; exact ⟨Blk.new w.drew _ _, ((Below.refl w.heap.size w).drew).alloc (Nat.le_refl _) _⟩)
    have HT := Lib.hid (show ((ofK .i64 l).take i).length = i by rw [List.length_take, length_ofK, HN.out]; omega)
    have hGi : (i : Int) ≤ (G : Int) := by omega
    have hGi1 : (i : Int) + 1 ≤ (G : Int) := by omega
    have hi1n : (i : Int) + 1 ≤ (n : Int) + 1 := by omega
    have hci : ¬ (c = i) := by omega
    have hGi2 : ¬ (G = i) := by omega
    have hGi3 : ¬ (G = i + 1) := by omega
    clear hold hrun hG hZ hW1 hi0 hz0 hzs hzb
    go_enter Try.func49, Try.ntmps49
    go_wp2_with (first
      | (at_builtin; refine Lib.wpList_append_run _ rfl _ _ _ _ rfl _ _ rfl rfl _ _ (HZ.out _) ?_)
      | ((with_reducible refine wpList_copy_cut W1 rfl (.tmp 43) (.tmp 44) 22 22 rfl 3 Try.underlying22 Try.sizeInt1 w.heap.size i (n + 1 - i) (G - i) rfl ⟨vb, 0, none⟩ 1 1 rfl ((ofK .i64 l).take i ++ Z) 3 HA1.out.1 [.int .i64 x] ?_ ?_ ?_ ?_ ?_)))
    · rw [Nat.min_eq_left (by omega)]; rfl
    · exact fun j u hu => HXS.out _ (HB.out.2.1.below HA1.out.2 HB.out.2.1.lt) j u hu
    · rw [List.length_append, HT.out, HZL.out]; simp; omega
    · exact one_ofK .i64 [x]
    intro w2 hb2 hc2 hs2
    have H2 := Lib.hid (show Blk w2 w.heap.size 3 (splice ((ofK .i64 l).take i ++ Z) i [.int .i64 x]) ∧ Blk w2 g 3 (ofK .i64 l ++ sp) ∧ Below w.heap.size w w2 from
      ⟨hb2, (HB.out.1.below HA1.out.2 HB.out.1.lt).keep hc2 (fun e => by have := HB.out.1.lt; have e : g = w.heap.size := e; omega), below_ch HA1.out.2 hc2 (Nat.le_refl _) (fun k hk => by have e : k = w.heap.size := hk; omega)⟩)
    clear hb2 hc2 hs2
    go_wp2_with fail
    refine wp_region_takes (fun _ => True) [0, 1, 2, 3, 4, 5, 6, 7] 1 (by kernel_rfl) rfl (by kernel_rfl) (by kernel_rfl) trivial ?_
    iterate 8 (refine' HeldL.run ?_ ?_ ?_ ?_; rotate_left 2; (simp only [List.getElem?_toArray, List.getElem?_cons_zero, List.getElem?_cons_succ]; rfl); rfl; (rintro w' -; go_simp; with_reducible rfl); simp only [Act.put, List.setIfInBounds_toArray, List.set_cons_zero, List.set_cons_succ])
    refine' wpAnyH_one 8 (by kernel_rfl) ?_ ?_; rotate_left; (simp only [List.getElem?_toArray, List.getElem?_cons_zero, List.getElem?_cons_succ]; rfl)
    refine wpList_copy_cut w2.drew rfl (.tmp 50) (.tmp 53) 22 22 rfl 3 Try.underlying22 Try.sizeInt1 w.heap.size (i + 1) (n - i) (G - (i + 1)) rfl ⟨g, i, none⟩ (n - i) (c - i) rfl _ 3 H2.out.1 (ofK .i64 (l.drop i)) ?_ ?_ ?_ (one_ofK _ _) ?_
    · rw [HDL.out, Nat.min_self]
    · exact fun j u hu => HDR.out w2.drew _ H2.out.2.1 (fun k _ hk => by rw [List.getElem?_append_left (by rw [length_ofK, HN.out]; exact hk)]) j u hu
    · rw [length_splice _ _ _ (by rw [List.length_append, HT.out, HZL.out]; simp; omega), List.length_append, HT.out, HZL.out, HDL.out]; omega
    intro w3 hb3 hc3 _
    have H3 := Lib.hid (show Sl w3 (.slice (some ⟨w.heap.size, 0, none⟩) (n + 1) G) (ofK .i64 (insL l i x)) ∧ Below base w w3 from
      ⟨hb3.sl_at (n + 1) G (by rw [insL_length (by rw [HN.out]; omega), HN.out]) hgk (by unfold maxLen; omega) (fun j hj => grow_at l Z i x HI.out (by rw [HZL.out, HN.out]; omega) j (by rw [HN.out]; exact hj)),
        (below_ch (H2.out.2.2.drew) hc3 (Nat.le_refl _) (fun k hk => by have e : k = w.heap.size := hk; omega)).mono HB.out.2.2.2.1⟩)
    clear hb3 hc3
    refine QK.normal ⟨trivial, ?_⟩
    refine wpAnyH_done (by kernel_rfl) ?_ _
    refine NoPanic.normal ?_
    go_wp2_with fail
    go_ret
    exact ⟨_, _, _, rfl, H3.out.1, H3.out.2, fun k hk => by have e : some w.heap.size = some k := hk; cases e; exact HB.out.2.2.2.1⟩
  · -- there is room
    have hrn : n + 1 ≤ c := by omega
    have hrz : ¬ (c : Int) < (n : Int) + 1 := by omega
    have hrz2 : (n : Int) + 1 ≤ (c : Int) := by omega
    have hi1c : (i : Int) + 1 ≤ (c : Int) := by omega
    have hci : ¬ (c = i) := by omega
    have hci1 : ¬ (c = i + 1) := by omega
    have hi1n : (i : Int) + 1 ≤ (n : Int) + 1 := by omega
    have htn : ((n : Int) + 1).toNat = n + 1 := by omega
    have h0n : (0 : Int) ≤ (n : Int) + 1 := by omega
    have hin1 : (i : Int) ≤ (n : Int) + 1 := by omega
    have hov := HB.out.2.2.2.2.2
    clear hroom hgk
    go_enter Try.func49, Try.ntmps49
    go_wp2_with (simp only [hov])
    refine wp_region_takes (fun _ => True) [0, 1, 2, 3, 4, 5, 6, 7] 1 (by kernel_rfl) rfl (by kernel_rfl) (by kernel_rfl) trivial ?_
    iterate 8 (refine' HeldL.run ?_ ?_ ?_ ?_; rotate_left 2; (simp only [List.getElem?_toArray, List.getElem?_cons_zero, List.getElem?_cons_succ]; rfl); rfl; (rintro w' -; go_simp; with_reducible rfl); simp only [Act.put, List.setIfInBounds_toArray, List.set_cons_zero, List.set_cons_succ])
    refine' wpAnyH_one 8 (by kernel_rfl) ?_ ?_; rotate_left; (simp only [List.getElem?_toArray, List.getElem?_cons_zero, List.getElem?_cons_succ]; rfl)
    refine wpList_copy_cut w.drew rfl (.tmp 73) (.tmp 76) 22 22 rfl 3 Try.underlying22 Try.sizeInt1 g (i + 1) (n - i) (c - (i + 1)) rfl ⟨g, i, none⟩ (n + 1 - i) (c - i) rfl _ 3 HB.out.1 (ofK .i64 (l.drop i)) ?_ ?_ ?_ (one_ofK _ _) ?_
    · rw [HDL.out, Nat.min_eq_right (by omega)]
    · exact fun j u hu => HDR.out w.drew _ HB.out.1 (fun k _ hk => by rw [List.getElem?_append_left (by rw [length_ofK, HN.out]; exact hk)]) j u hu
    · rw [List.length_append, HDL.out, length_ofK, HSP.out]; omega
    intro w2 hb2 hc2 hs2
    have H2 := Lib.hid (show Blk w2 g 3 (splice (ofK .i64 l ++ sp) (i + 1) (ofK .i64 (l.drop i))) ∧ Blk w2 vb 3 [.int .i64 x] ∧ Below base w w2 from
      ⟨hb2, (show Blk w.drew vb 3 [.int .i64 x] from HB.out.2.1).keep hc2 (fun e => HB.out.2.2.2.2.1 e.symm), below_ch ((Below.refl base w).drew) hc2 HB.out.2.2.2.1 (fun k hk => by have e : k = g := hk; have := HB.out.2.2.1; omega)⟩)

    clear hb2 hc2 hs2 hov
    refine QK.normal ⟨trivial, ?_⟩
    refine wpAnyH_done (by kernel_rfl) ?_ _
    refine NoPanic.normal ?_
    go_wp2_with ((with_reducible refine wpList_copy_cut w2 rfl (.tmp 80) (.tmp 81) 22 22 rfl 3 Try.underlying22 Try.sizeInt1 g i (n + 1 - i) (c - i) rfl ⟨vb, 0, none⟩ 1 1 rfl _ 3 H2.out.1 [.int .i64 x] ?_ ?_ ?_ ?_ ?_))
    · rw [Nat.min_eq_left (by omega)]; rfl
    · exact fun j u hu => HXS.out _ H2.out.2.1 j u hu
    · rw [length_splice _ _ _ (by rw [List.length_append, HDL.out, length_ofK, HSP.out]; omega), List.length_append, length_ofK, HSP.out]; simp; omega
    · exact one_ofK .i64 [x]
    intro w3 hb3 hc3 _
    have H3 := Lib.hid (show Sl w3 (.slice (some ⟨g, 0, none⟩) (n + 1) c) (ofK .i64 (insL l i x)) ∧ Below base w w3 from
      ⟨hb3.sl_at (n + 1) c (by rw [insL_length (by rw [HN.out]; omega), HN.out]) hrn (by unfold maxLen; omega) (fun j hj => shift_at l sp i x HI.out (by have := HSP.out; rw [HN.out] at this; omega) j (by rw [HN.out]; exact hj)),
        below_ch H2.out.2.2 hc3 HB.out.2.2.2.1 (fun k hk => by have e : k = g := hk; have := HB.out.2.2.1; omega)⟩)
    clear hb3 hc3
    go_wp2_with fail
    go_ret
    exact ⟨_, _, _, rfl, H3.out.1, H3.out.2, fun k hk => by have e : some g = some k := hk; cases e; exact HB.out.2.2.1⟩

end Go.Proofs.Ytampheimonmggaa
