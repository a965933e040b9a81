/-
  holds, Read, walked. Conditions: at most 2^30 writes.
-/
import Derived.Test.YticcjaccpcnjhaaDkI
namespace Go.Proofs.Yticcjaccpcnjhaa
open Go Go.RowKit Go.Shelf
attribute [local go_sem] Oper.semAt_some

theorem exec_lookup_f {P : Program} {ev : Operand → Value} {o : Oper} {om ox : Operand} {t kt et : TypeId} {k : IntKind} (ho : o.op = Op.lookup t om ox false) (ht : P.underlying t = some (.map kt et)) (hk : P.underlying kt = some (.int k)) {m : Nat} {z : Value} {f : Int → Value} {w : World} (h : MapF w m k z f) (hz : (zeroValue et).run P w = .ok z w) (hm : ev om = .map (some m)) {x : Int} (hx : ev ox = .int k x) : (execOp ev o).run P w = .ok (.value (f x)) w := by
  simp [execOp, ho, hm, hx, run_lookup_f w ht hk h hz x, Result.andThen]

theorem Try.zeroBl : ∀ w, (zeroValue 39).run Try.prog w = .ok (.agg (ofK .u8 zer).toArray) w := fun w => by kernel_rfl

/-- the last of them that names the sector -/
theorem foldl_lay_none (i : Int) : ∀ (l : List Wr) (f : Int → List Int), (∀ e ∈ l, e.1 ≠ i) → l.foldl lay f i = f i
  | [], _, _ => rfl
  | e :: l, f, h => by
    rw [List.foldl_cons, foldl_lay_none i l _ (fun e' he => h e' (by simp [he]))]
    unfold lay
    rw [if_neg (fun e' => h e (by simp) e'.symm)]
theorem foldl_lay_last (i : Int) (a b : List Wr) (e : Wr) (f : Int → List Int) (he : e.1 = i) (hb : ∀ x ∈ b, x.1 ≠ i) : (a ++ e :: b).foldl lay f i = e.2 := by
  rw [List.foldl_append, List.foldl_cons, foldl_lay_none i b _ hb]
  unfold lay
  rw [if_pos he.symm]

def HoldP (w : World) (b : List Int) (e : Ending) (w' : World) : Prop := e = .returned (.agg (ofK .u8 b).toArray) ∧ Below w.heap.size w w'

theorem ch_below_eq {w w' : World} {S : Nat → Prop} (hc : Ch S w w') {B : Nat} (hB : B ≤ w.heap.size) (hS : ∀ k, S k → B ≤ k) : Below B w w' := ⟨hc.os, hc.tape, hc.output, hc.size, fun k hk => hc.block k (by omega) (fun s => by have := hS k s; omega)⟩

theorem keepsO_setCells (g : Nat) : ∀ (vs : List Value) (o : Nat) (W : World), KeepsOthers W (W.setCells g o vs) := by
  intro vs
  induction vs with
  | nil => intro o W; exact KeepsOthers.refl _
  | cons v r ih => intro o W; exact (KeepsOthers.setCell W ⟨g, o, none⟩ v).trans (ih (o + 1) _)

theorem holds_none {ls : List WrB} {x : Dk} {i : Int} (hl : x.loose = ls.map (·.1)) (h : ∀ y ∈ ls.reverse, y.1.1 ≠ i) : x.holds i = x.firm i := by
  unfold Dk.holds
  refine foldl_lay_none i _ _ (fun e he => ?_)
  rw [hl] at he
  obtain ⟨y, hy, rfl⟩ := List.mem_map.1 he
  exact h y (by simpa using hy)

theorem holds_some {ls : List WrB} {x : Dk} {i : Int} (hl : x.loose = ls.map (·.1)) {ini : List WrB} {last : WrB} (hp : ini ++ [last] <+: ls.reverse) (h : ∀ y ∈ ini, y.1.1 ≠ i) (hi : last.1.1 = i) : x.holds i = last.1.2 := by
  obtain ⟨t, ht⟩ := hp
  have e : ls = t.reverse ++ last :: ini.reverse := by
    have := congrArg List.reverse ht
    rw [List.reverse_reverse] at this
    rw [← this]; simp
  unfold Dk.holds
  rw [hl, e, List.map_append, List.map_cons]
  refine foldl_lay_last i _ _ _ _ hi (fun y hy => ?_)
  obtain ⟨z, hz, rfl⟩ := List.mem_map.1 hy
  exact h z (by simpa using hz)

theorem len_B {a b : List Int} (ha : IsB a) (hb : IsB b) : (ofK .u8 a).length = (ofK .u8 b).length := by rw [length_ofK, length_ofK, ha.1, hb.1]

theorem zip1 (q : Tmp) (v : Value) : (#[q] : Array Tmp).zip #[v] = #[(q, v)] := by simp
theorem foldl1 {α β : Type} (f : β → α → β) (b : β) (a : α) : (#[a] : Array α).foldl f b = f b a := by simp

/-- between two rounds -/
def HoldI (w : World) (i : Int) (bb : Nat) (b : List Int) (rb iB D0 : Nat) (pre : List WrB) (W : World) : Prop :=
  (∀ y ∈ pre, y.1.1 ≠ i) ∧ Blk W bb 39 (ofK .u8 b) ∧ Blk W rb 39 (ofK .u8 zer) ∧ Blk W iB 3 [.int .i64 i] ∧ Below w.heap.size w W ∧ D0 ≤ W.heap.size
/-- when it has been found -/
def HoldX (w : World) (i : Int) (bb rb : Nat) (c : Code) (pre : List WrB) (W : World) : Prop :=
  c = .exit 0 ∧ ∃ ini last, pre = ini ++ [last] ∧ (∀ y ∈ ini, y.1.1 ≠ i) ∧ last.1.1 = i ∧ Blk W bb 39 (ofK .u8 last.1.2) ∧ Blk W rb 39 (ofK .u8 zer) ∧ Below w.heap.size w W

theorem blk_own {X Y : World} {row : Option Nat} {g : Nat} {e : TypeId} {xs : List Value} (h : Blk X g e xs) (hg : X.grownBy Y row) (hr : ∀ r, row = some r → ∃ o : Obj, X.heap[r]? = some o ∧ o.isCells = false) : Blk Y g e xs := by
  unfold Blk at *
  rw [hg.block g (lt_of_block h) (fun e' => by
    obtain ⟨o, ho, hc⟩ := hr g e'.symm
    rw [h] at ho; cases ho; cases hc)]
  exact h

theorem holdI_own {w : World} {i : Int} {bb : Nat} {b : List Int} {rb iB D0 B : Nat} (hB : w.heap.size ≤ B) : OwnFrom B (HoldI w i bb b rb iB D0) := fun _ _ _ _ hs hg hr =>
  ⟨hs.1, blk_own hs.2.1 hg (fun r e => (hr r e).2), blk_own hs.2.2.1 hg (fun r e => (hr r e).2), blk_own hs.2.2.2.1 hg (fun r e => (hr r e).2), hs.2.2.2.2.1.grown hg hs.2.2.2.2.1.size (fun k e => Nat.le_trans hB (hr k e).1), Nat.le_trans hs.2.2.2.2.2 hg.size⟩

theorem holdX_own {w : World} {i : Int} {bb rb B : Nat} (hB : w.heap.size ≤ B) (c : Code) : OwnFrom B (HoldX w i bb rb c) := fun _ _ _ _ hs hg hr => by
  obtain ⟨h0, ini, last, h1, h2, h3, h4, h5, h6⟩ := hs
  exact ⟨h0, ini, last, h1, h2, h3, blk_own h4 hg (fun r e => (hr r e).2), blk_own h5 hg (fun r e => (hr r e).2), h6.grown hg h6.size (fun k e => Nat.le_trans hB (hr k e).1)⟩

set_option maxRecDepth 100000 in
set_option maxHeartbeats 4000000 in
theorem holds_go (p : Nat) (S : Nat → Prop) (x : Dk) (ls : List WrB) (i : Int) (n : Nat) (w : World) (m : Nat) (lv : Value) (al fl : Int) (h : DkAt' w p m lv al fl S x) (hx : x.Ok n) (hn : n ≤ 1073741824) (hls : x.loose = ls.map (·.1)) :
    Calls Try.prog 43 #[.pointer (some ⟨p, 0, none⟩), .int .i64 i] w (HoldP w (x.holds i)) := by
  obtain ⟨ao, cp, rfl, hrow⟩ := own_wr h.row hx.looseB
  have hlen : ls.length ≤ 1073741824 := by have := hx.len; rw [hls, List.length_map] at this; omega
  have hLl : x.loose.length = ls.length := by rw [hls, List.length_map]
  have hpl := Blk.lt h.blk
  have hb0 := (Below.refl w.heap.size w).alloc (Nat.le_refl _) (.cells #[.int .i64 i] 3)
  have hbx := Blk.new w [.int .i64 i] 3
  have H := Lib.hid (And.intro h (And.intro hx (And.intro hls (And.intro hrow (And.intro hLl (And.intro hpl hlen))))))
  have HB0 := Lib.hid (And.intro hb0 hbx)
  have hg := (by kernel_rfl : Try.prog.funcs[43]? = some Try.f43)
  refine callsIn_wide.1 (callsIn_of_wp_marks (F := Fence.wide) (n := 9) (fn := Try.f43) hg rfl trivial (wpIn_wide.2 ?_) rfl)
  simp only [Try.ntmps43, List.size_toArray, List.length_cons, List.length_nil, Nat.reduceAdd, Nat.reduceSub, Array.replicate_succ, Array.replicate_zero, List.push_toArray, List.append_toArray, List.nil_append, List.cons_append]
  clear h hx hn hls hrow hLl hpl hb0 hbx hlen hg
  go_wp2_with ((with_reducible refine wpList_alloc_blk _ rfl 39 rfl (ofK .u8 zer) Try.zeroBl ?_); intro w1 hb1 hbel1 hsz1; have HB1 := Lib.hid (And.intro hb1 (And.intro (below_thn HB0.out.1 hbel1 (Nat.le_refl _)) (And.intro (hsz1.trans (by rw [World.size_alloc])) (HB0.out.2.below hbel1 HB0.out.2.lt)))); clear hb1 hbel1 hsz1)
  have hm1 := H.out.1.firm.keep (Ch.of_below (S := fun _ => False) HB1.out.2.1 (Nat.le_refl _)) (fun h => h)
  have c1 : w1.cell? ⟨p, 0 + 1, none⟩ = some (.map (some m)) := (HB1.out.2.1.cell (p := ⟨p, 0 + 1, none⟩) H.out.2.2.2.2.2.1).trans H.out.1.blk.cs.c1
  have ci := HB1.out.2.2.2.cell 0
  have HM := Lib.hid hm1
  clear hm1
  go_step3
  go_wp2_with fail
  refine wp_region_takes (fun w' => w'.cell? ⟨p, 0 + 1, none⟩ = some (.map (some m)) ∧ w'.cell? ⟨w.heap.size, 0, none⟩ = some (.int .i64 i) ∧ MapF w' m .i64 (vB zer) (fun j => vB (x.firm j))) [0, 1, 2, 3, 4, 5] 2 (by kernel_rfl) rfl (by kernel_rfl) (by kernel_rfl) ⟨c1, ci, HM.out.keep ((Sm.refl w1).drew.ch (fun _ => False)) (fun h => h)⟩ ?_
  iterate 5 (refine' HeldL.run ?_ ?_ ?_ ?_; rotate_left 2; (simp only [List.getElem?_toArray, List.getElem?_cons_zero, List.getElem?_cons_succ]; rfl); rfl; (rintro w' ⟨k0, k1, -⟩; go_simp; with_reducible rfl); simp only [Act.put, List.setIfInBounds_toArray, List.set_cons_zero, List.set_cons_succ])
  refine' HeldL.run ?_ ?_ ?_ ?_
  rotate_left 2
  (simp only [List.getElem?_toArray, List.getElem?_cons_zero, List.getElem?_cons_succ]; rfl)
  rfl
  · rintro w' ⟨k0, k1, k2⟩
    exact exec_lookup_f rfl Try.underlying68 Try.underlying3 k2 (Try.zeroBl w') rfl rfl
  simp only [Act.put, List.setIfInBounds_toArray, List.set_cons_zero, List.set_cons_succ]
  refine' wpAnyH_one 6 (by kernel_rfl) ?_ ?_; rotate_left; (simp only [List.getElem?_toArray, List.getElem?_cons_zero, List.getElem?_cons_succ]; rfl)
  refine wpList_alloc_blk _ rfl 39 rfl (ofK .u8 zer) Try.zeroBl ?_
  intro w2 hb2 hbel2 hsz2
  have hbel2' := below_thn ((Sm.refl w1).drew.below w1.heap.size) hbel2 (Nat.le_refl _)
  have HB2 := Lib.hid (And.intro (show Blk w2 w1.heap.size 39 (ofK .u8 zer) from hb2) (And.intro hbel2' (show w2.heap.size = w1.heap.size + 1 from hsz2)))
  have c12 := (hbel2'.cell (p := ⟨p, 0 + 1, none⟩) (block_of_cell c1)).trans c1
  have ci2 := (hbel2'.cell (p := ⟨w.heap.size, 0, none⟩) (block_of_cell ci)).trans ci
  have HM2 := Lib.hid (HM.out.keep (Ch.of_below (S := fun _ => False) hbel2' (Nat.le_refl _)) (fun h => h))
  simp only [Act.put, List.setIfInBounds_toArray, List.set_cons_zero, List.set_cons_succ]
  refine QK.normal ⟨⟨c12, ci2, HM2.out⟩, ?_⟩
  refine' wpAnyH_one 7 (by kernel_rfl) ?_ ?_; rotate_left; (simp only [List.getElem?_toArray, List.getElem?_cons_zero, List.getElem?_cons_succ]; rfl)
  have hfB := H.out.2.1.firmB i
  have HF := Lib.hid (And.intro hfB (infoB hfB))
  refine wpList_store_blk _ rfl 39 _ _ rfl w1.heap.size 39 (ofK .u8 zer) (ofK .u8 (x.firm i)) HB2.out.1 rfl rfl (by rw [length_ofK, length_ofK, HF.out.1.1]; rfl) HF.out.2 (one_ofK _ _) ?_
  intro w3 hb3 hch3 hsz3
  have hbel3 : Below w1.heap.size w1 w3 := below_ch HB2.out.2.1 hch3 (Nat.le_refl _) (fun k hk => by have : k = w1.heap.size := hk; omega)
  have c13 := (hbel3.cell (p := ⟨p, 0 + 1, none⟩) (block_of_cell c1)).trans c1
  have ci3 := (hbel3.cell (p := ⟨w.heap.size, 0, none⟩) (block_of_cell ci)).trans ci
  have HM3 := HM.out.keep (Ch.of_below (S := fun _ => False) hbel3 (Nat.le_refl _)) (fun h => h)
  have HB3 := Lib.hid (And.intro hb3 (And.intro hbel3 (hsz3.trans HB2.out.2.2)))
  refine QK.normal ⟨⟨c13, ci3, HM3⟩, ?_⟩
  refine wpAnyH_done (by kernel_rfl) ?_ _
  refine NoPanic.normal ?_
  clear hb2 hbel2 hsz2 hbel2' c12 ci2 hb3 hch3 hsz3 hbel3 c13 ci3 HM3 c1 ci hfB
  simp only [Act.put]
  go_wp2_with fail
  go_step3
  go_wp2_with (go_at_call 51; refine (back_any _ _).mono ?_; rintro e w' ⟨rfl, rfl⟩)
  obtain ⟨bb, hbb⟩ : ∃ bb, bb = w1.heap.size := ⟨_, rfl⟩
  obtain ⟨Bs, hBs⟩ : ∃ Bs, Bs = w3.heap.size := ⟨_, rfl⟩
  obtain ⟨W0, hW0⟩ : ∃ W0, w3.alloc (.cells #[.pointer (some ⟨p, 0, none⟩)] 89) = W0 := ⟨_, rfl⟩
  have hz1 : w1.heap.size = w.heap.size + 2 := HB1.out.2.2.1
  have hz3 : w3.heap.size = w1.heap.size + 1 := HB3.out.2.2
  have hz0 : W0.heap.size = Bs + 1 := by rw [← hW0, World.size_alloc, hBs]
  have hch0 : Below w3.heap.size w3 W0 := by rw [← hW0]; exact (Below.refl _ _).alloc (Nat.le_refl _) _
  have hbs : Blk W0 Bs 89 [.pointer (some ⟨p, 0, none⟩)] := by rw [← hW0, hBs]; exact Blk.new _ _ _
  have hbB : Blk W0 bb 39 (ofK .u8 (x.firm i)) := by rw [hbb]; exact HB3.out.1.below hch0 HB3.out.1.lt
  have hbel0 : Below w.heap.size w W0 := below_thn (below_thn HB1.out.2.1 HB3.out.2.1 (Nat.le_refl _)) hch0 (Nat.le_refl _)
  have hrB : Blk W0 (w.heap.size + 1) 39 (ofK .u8 zer) := by
    have h1 : Blk w1 (w.heap.size + 1) 39 (ofK .u8 zer) := by have := HB1.out.1; rwa [World.size_alloc] at this
    exact (h1.below HB3.out.2.1 h1.lt).below hch0 (by omega)
  have hiB : Blk W0 w.heap.size 3 [.int .i64 i] := (HB1.out.2.2.2.below HB3.out.2.1 (by omega)).below hch0 (by omega)
  have hBW : BackW (Bs + 1) bb Bs p (.slice ao ls.length cp) ls W0 := by
    refine ⟨hbs.cell 0, (hbel0.cell (p := ⟨p, 0 + 2, none⟩) H.out.2.2.2.2.2.1).trans ?_, fun h0 => ?_, by omega, by have := H.out.2.2.2.2.2.1; omega⟩
    · have := H.out.1.blk.cs.c2
      rwa [H.out.2.2.2.2.1] at this
    · obtain ⟨g, rfl, hr⟩ := H.out.2.2.2.1 (by rw [H.out.2.2.2.2.1]; exact h0)
      have hE : ∀ k (hk : k < ls.length), w.rangeAt g (k * 65) (wrC ls[k].1) := fun k hk => by
        have hk' : k < x.loose.length := by rw [H.out.2.2.2.2.1]; exact hk
        have e : x.loose[k] = ls[k].1 := (List.getElem_of_eq H.out.2.2.1 hk').trans (by rw [List.getElem_map])
        rw [← e]; exact hr k hk'
      have hg : g < w.heap.size := block_of_cell (a := ⟨g, 0 * 65 + 0, none⟩) (hE 0 h0 0 _ rfl)
      exact ⟨g, cp, rfl, by omega, by omega, fun k hk => rangeW_below (hE k hk) hbel0⟩
  have HW0 := Lib.hid (And.intro hbB (And.intro hrB (And.intro hiB (And.intro hbel0 (And.intro hz0 (And.intro hBs (And.intro hbb (And.intro hz1 hz3))))))))
  have hlen := H.out.2.2.2.2.2.2
  rw [hW0, ← hbb, ← hBs]
  clear HB1 HM HB2 HM2 HF HB3 hz1 hz3 hz0 hch0 hbs hbB hbel0 hrB hiB hW0 hbb hBs HB0
  refine (wpIn_wide (n := 9)).1 ?_
  refine wpIn_rangeFunc_ownH (F := Fence.wide) rfl (by omega) (gf := 52) (lb := #[.pointer (some ⟨Bs, 0, none⟩)]) rfl trivial (enters_of Try.func52 (by kernel_rfl) rfl)
    (back_stops Fence.wide 8 trivial rfl (by omega) (Bs + 1) bb Bs p ao cp ls hlen W0 (by rw [HW0.out.2.2.2.2.1]; exact Nat.le_refl _) hBW) Kq.trans (fun W l o o' h1 h2 h3 h4 => Kq.putObj (w := W0) (by rw [HW0.out.2.2.2.2.1]; exact Nat.le_refl _) W l o o' h1 h2 h3 h4) (Below.refl _ _) (fun _ => rfl)
    (fun pre W => HoldI w i bb (x.firm i) (w.heap.size + 1) w.heap.size (Bs + 1) pre W) (fun c pre W => HoldX w i bb (w.heap.size + 1) c pre W) (holdI_own (by have := HW0.out; omega)) (holdX_own (by have := HW0.out; omega))
    ⟨by simp, HW0.out.1, HW0.out.2.1, HW0.out.2.2.1, HW0.out.2.2.2.1, by have := HW0.out.2.2.2.2.1; omega⟩
    (fun y a' W => ∃ Bx, Bs + 1 ≤ Bx ∧ Blk W Bx 84 (wrC y.1) ∧ a' = { tmps := #[.pointer (some ⟨p, 0, none⟩), .int .i64 i, undef, .pointer (some ⟨w.heap.size, 0, none⟩), .pointer (some ⟨w.heap.size + 1, 0, none⟩), .pointer (some ⟨bb, 0, none⟩), .pointer (some ⟨Bx, 0, none⟩), .pointer (some ⟨p, 0, none⟩), .pointer (some ⟨p, 0, none⟩), .pointer (some ⟨p, 1, none⟩), .map (some m), .int .i64 i, vB (x.firm i), .pointer (some ⟨p, 0, none⟩), .func (.func 52) #[] #[.pointer (some ⟨Bs, 0, none⟩)], .agg (wrC y.1).toArray, undef, undef, undef, undef, undef, undef, undef], defers := [] })
    (fun x a' _ X Y row hs hg hr => by obtain ⟨Bx, h1, h2, h3⟩ := hs; exact ⟨Bx, h1, blk_own h2 hg (fun r e => (hr r e).2), h3⟩)
    ?assign ?body ?done ?stop
  case assign =>
    rintro l pre y W K hI hK
    have HW := Lib.hid (show (Try.prog.info? 84).map (·.size) = some (wrC y.1).length from by rw [wrC_len y.2]; kernel_rfl)
    have HLn := Lib.hid (show (wrC y.1).length = ((.int .i64 0 :: ofK .u8 zer) : List Value).length from by rw [wrC_len y.2]; rfl)
    have HI := Lib.hid hI
    clear hI
    rw [show ((#[15] : Array Tmp).zip ((fun x : WrB => #[Value.agg (wrC x.1).toArray]) y)) = #[(15, .agg (wrC y.1).toArray)] from zip1 _ _, foldl1]
    simp only [List.setIfInBounds_toArray, List.set_cons_zero, List.set_cons_succ]
    gi_wp2_with (first
      | ((with_reducible refine wpListIn_alloc_blk _ rfl 84 rfl (.int .i64 0 :: ofK .u8 zer) Try.zeroWr ?_); intro W1 hb1 he1; have HB1 := Lib.hid (And.intro hb1 he1); clear hb1 he1)
      | ((refine wpListIn_store_blk _ rfl 84 (.tmp 6) (.tmp 15) rfl W.heap.size 84 (.int .i64 0 :: ofK .u8 zer) (wrC y.1) HB1.out.1 rfl rfl HLn.out HW.out (one_wrC y.1) ?_); intro W2 hb2 he2; have HB2 := Lib.hid (And.intro hb2 he2); clear hb2 he2))
    have h1 : Below W.heap.size W W1 := by rw [HB1.out.2]; exact (Below.refl _ _).alloc (Nat.le_refl _) _
    have h2 : Ch (· = W.heap.size) W1 W2 := by rw [HB2.out.2]; exact ch_setCells _ _ _ _
    have h3 : Below W.heap.size W W2 := below_ch h1 h2 (Nat.le_refl _) (fun k hk => by have : k = W.heap.size := hk; omega)
    have h4 : Ch (fun _ => False) W W2 := Ch.of_below h3 (Nat.le_refl _)
    have hD := HI.out.2.2.2.2.2
    refine hK _ _ ?_ (fun k hk _ => h4.block k (by omega) id) ⟨HI.out.1, HI.out.2.1.keep h4 id, HI.out.2.2.1.keep h4 id, HI.out.2.2.2.1.keep h4 id, below_thn HI.out.2.2.2.2.1 h3 (Nat.le_refl _), by have := h4.size; omega⟩ ⟨W.heap.size, hD, HB2.out.1, rfl⟩
    rw [HB2.out.2, HB1.out.2]
    exact ((KeepsOthers.alloc _ _).trans (keepsO_setCells _ _ _ _)).from _
  case body =>
    rintro l pre y a' W hl ⟨r, hr⟩ hI ⟨Bx, hBx, bX, rfl⟩ hlt
    have c0 : W.cell? ⟨Bx, 0, none⟩ = some (.int .i64 y.1.1) := bX.cell 0
    have ci : W.cell? ⟨w.heap.size, 0, none⟩ = some (.int .i64 i) := hI.2.2.2.1.cell 0
    have hr1 : W.rangeAt Bx 1 (ofK .u8 y.1.2) := fun j v hv => by rw [bX.cell, Nat.add_comm 1 j]; exact hv
    have HBb := Lib.hid hI.2.1
    have HLb := Lib.hid (len_B y.2 (H.out.2.1.firmB i))
    have HI := Lib.hid (And.intro hI (And.intro hr1 (infoB y.2)))
    clear hI hr hr1 bX hlt
    by_cases hi : y.1.1 = i
    · have hb : (y.1.1 == i) = true := by simpa using hi
      have HE := Lib.hid hi
      clear hi
      gi_wp2_with (first
        | (with_reducible refine wpListIn_load_any _ rfl 39 (.tmp 20) rfl Bx 1 rfl (ofK .u8 y.1.2) _ HI.out.2.1 Try.underlying39 rfl HI.out.2.2 ?_)
        | ((with_reducible refine wpListIn_store_blk _ rfl 39 (.tmp 5) (.tmp 21) rfl bb 39 (ofK .u8 (x.firm i)) (ofK .u8 y.1.2) HBb.out rfl rfl HLb.out HI.out.2.2 (one_ofK _ _) ?_); intro W2 hb2 he2; have HB2 := Lib.hid (And.intro hb2 he2); clear hb2 he2))
      have h2 : Ch (· = bb) W W2 := by rw [HB2.out.2]; exact ch_setCells _ _ _ _
      have hz := HW0.out.2.2.2.2
      refine ⟨by rw [HB2.out.2]; exact (keepsO_setCells _ _ _ _).from _, rfl, pre, y, rfl, HI.out.1.1, HE.out, HB2.out.1, HI.out.1.2.2.1.keep h2 (by omega), ?_⟩
      exact below_ch HI.out.1.2.2.2.2.1 h2 (Nat.le_refl _) (fun k hk => by have : k = bb := hk; omega)
    · have hb : (y.1.1 == i) = false := by simpa using hi
      have HE := Lib.hid hi
      clear hi
      gi_wp2
      refine ⟨KeepsFrom.refl _ _, fun _ _ _ => rfl, fun z hz => ?_, HI.out.1.2⟩
      rcases List.mem_append.1 hz with hz | hz
      · exact HI.out.1.1 z hz
      · obtain rfl : z = y := by simpa using hz
        exact HE.out
  case done =>
    rintro D xs W hD rfl hI hK
    have HE := Lib.hid (holds_none H.out.2.2.1 hI.1)
    have HI := Lib.hid (And.intro hI (And.intro hK (And.intro (H.out.2.1.firmB i) (infoB (H.out.2.1.firmB i)))))
    have HR := Lib.hid (rangeW_blk hI.2.1)
    have HRb := Lib.hid hI.2.2.1
    have HLb := Lib.hid (len_B (H.out.2.1.firmB i) isB_zer)
    have HBl := Lib.hid hI.2.2.2.2.1
    clear hI hK
    go_wp2_with (first
      | (with_reducible refine wpList_load_any rfl 39 (.tmp 5) rfl bb 0 rfl (ofK .u8 (x.firm i)) _ HR.out Try.underlying39 rfl HI.out.2.2.2 ?_)
      | ((with_reducible refine wpList_store_blk _ rfl 39 (.tmp 4) (.tmp 22) rfl (w.heap.size + 1) 39 (ofK .u8 zer) (ofK .u8 (x.firm i)) HRb.out rfl rfl HLb.out HI.out.2.2.2 (one_ofK _ _) ?_); intro W2 hb2 hc2 hs2; have HB2 := Lib.hid (And.intro hb2 hc2); clear hb2 hc2 hs2))
    have hz := HW0.out.2.2.2.2
    have hK2 : W2.heap[D]? = some (.deferred (some [])) := (HB2.out.2.block D (lt_of_block HI.out.2.1) (fun e => by have : D = w.heap.size + 1 := e; omega)).trans HI.out.2.1
    rw [Exit.noGoto_ret]
    refine ⟨by simp, .inl ⟨_, _, rfl, run_takeDeferred hK2, ?_⟩⟩
    have hb5 := blk_own HB2.out.1 (grownBy_putObj' W2 D (.deferred none)) (fun r e => by cases e; exact ⟨_, hK2, rfl⟩)
    refine ⟨_, results_blk Try.results43 _ _ (w.heap.size + 1) _ _ rfl hb5 _ Try.underlying39 rfl HI.out.2.2.2, by rw [HE.out], ?_⟩
    have hb6 : Below w.heap.size w W2 := below_ch HBl.out HB2.out.2 (Nat.le_refl _) (fun k hk => by have : k = w.heap.size + 1 := hk; omega)
    exact hb6.grown (grownBy_putObj' W2 D (.deferred none)) hb6.size (fun k e => by cases e; omega)
  case stop =>
    rintro D c pre W hD hSp ⟨rfl, ini, last, rfl, hini, hlast, hbb, hrb, hbl⟩ hK
    have HE := Lib.hid (holds_some H.out.2.2.1 hSp hini hlast)
    have HI := Lib.hid (And.intro trivial (And.intro hK (And.intro last.2 (infoB last.2))))
    have HR := Lib.hid (rangeW_blk hbb)
    have HRb := Lib.hid hrb
    have HLb := Lib.hid (len_B last.2 isB_zer)
    have HBl := Lib.hid hbl
    clear hSp hini hlast hbb hrb hbl hK
    refine wpIn_wide.2 ?_
    go_wp2_with (first
      | (with_reducible refine wpList_load_any rfl 39 (.tmp 5) rfl bb 0 rfl (ofK .u8 last.1.2) _ HR.out Try.underlying39 rfl HI.out.2.2.2 ?_)
      | ((with_reducible refine wpList_store_blk _ rfl 39 (.tmp 4) (.tmp 22) rfl (w.heap.size + 1) 39 (ofK .u8 zer) (ofK .u8 last.1.2) HRb.out rfl rfl HLb.out HI.out.2.2.2 (one_ofK _ _) ?_); intro W2 hb2 hc2 hs2; have HB2 := Lib.hid (And.intro hb2 hc2); clear hb2 hc2 hs2))
    have hz := HW0.out.2.2.2.2
    have hK2 : W2.heap[D]? = some (.deferred (some [])) := (HB2.out.2.block D (lt_of_block HI.out.2.1) (fun e => by have : D = w.heap.size + 1 := e; omega)).trans HI.out.2.1
    rw [Exit.noGoto_ret]
    refine ⟨by simp, .inl ⟨_, _, rfl, run_takeDeferred hK2, ?_⟩⟩
    have hb5 := blk_own HB2.out.1 (grownBy_putObj' W2 D (.deferred none)) (fun r e => by cases e; exact ⟨_, hK2, rfl⟩)
    refine ⟨_, results_blk Try.results43 _ _ (w.heap.size + 1) _ _ rfl hb5 _ Try.underlying39 rfl HI.out.2.2.2, by rw [HE.out], ?_⟩
    have hb6 : Below w.heap.size w W2 := below_ch HBl.out HB2.out.2 (Nat.le_refl _) (fun k hk => by have : k = w.heap.size + 1 := hk; omega)
    exact hb6.grown (grownBy_putObj' W2 D (.deferred none)) hb6.size (fun k e => by cases e; omega)

theorem holds_any (p : Nat) (S : Nat → Prop) (x : Dk) (i : Int) (n : Nat) (w : World) (h : DkAt w p S x) (hx : x.Ok n) (hn : n ≤ 1073741824) :
    Calls Try.prog 43 #[.pointer (some ⟨p, 0, none⟩), .int .i64 i] w (HoldP w (x.holds i)) := by
  obtain ⟨m, lv, al, fl, h⟩ := h
  exact holds_go p S x (x.loose.attach.map fun e => ⟨e.1, hx.looseB e.1 e.2⟩) i n w m lv al fl h hx hn (by rw [List.map_map]; exact (List.attach_map_subtype_val x.loose).symm)

end Go.Proofs.Yticcjaccpcnjhaa
