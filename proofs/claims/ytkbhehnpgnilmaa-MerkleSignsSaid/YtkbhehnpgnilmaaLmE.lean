/-
  Pairs of digests, and rows of changes, that come in; law 08: MerkleSigns, walked. Conditions: bytes.
-/
import Derived.Test.YtkbhehnpgnilmaaMkK

import Derived.Deep.CutRange
namespace Go.Proofs.Ytkbhehnpgnilmaa
open Go Go.RowKit Go.ChangeShapes Go.WideShapes Go.ChangeAt
set_option linter.unusedSimpArgs false
set_option linter.unusedVariables false

section
variable {H : Type} {enc : TypeId × Value → H} {W : World}
set_option maxRecDepth 100000 in
theorem open_id2 {t e b : TypeId} {v : Value} {d : DataW H} {p : List MemPlace} {r : Reach} {b0 : Nat} (ht : Try.prog.underlying t = some (.array 2 e)) (he : Try.prog.underlying e = some (.array 32 b)) (hb : Try.prog.underlying b = some (.int .u8)) (hcb : Try.prog.cellsOf b = 1) (hce : Try.prog.cellsOf e = 32) (hct : Try.prog.cellsOf t = 64)
    (hv : Value.okWide Try.prog W r b0 t v) (h : DataW.Trod enc Try.prog W 0 (fun _ => true) true t v d p) : ∃ x y : List Int, v = .agg (ofK .u8 (x ++ y)).toArray ∧ IsD x ∧ IsD y := by
  simp only [Value.okWide, ht] at hv
  obtain ⟨cs, h1, h2, _⟩ := hv
  subst h1
  obtain ⟨fuel, hf⟩ := h
  obtain ⟨xs, m, _, hx, hl, hxl, hall⟩ := DataW.trod_array ht hf
  simp only [Value.cells] at hl hall
  rw [hct] at hl
  have h0 := hall 0 (by omega)
  have h1 := hall 1 (by omega)
  rw [List.getElem?_eq_getElem (by omega)] at h0 h1
  rw [hce] at h0 h1
  obtain ⟨x, e0, d0⟩ := read_id he hb hcb hce h0
  obtain ⟨y, e1, d1⟩ := read_id he hb hcb hce h1
  refine ⟨x, y, ?_, d0, d1⟩
  congr 1
  have e2 : cs.toList = ofK .u8 (x ++ y) := by
    have e3 : ofK .u8 (x ++ y) = ofK .u8 x ++ ofK .u8 y := by simp [ofK]
    rw [e3, ← e0, ← e1, Nat.zero_mul, List.drop_zero, Nat.one_mul]
    have e4 : (cs.toList.drop 32).take 32 = cs.toList.drop 32 := List.take_of_length_le (by rw [List.length_drop]; omega)
    rw [e4, List.take_append_drop]
  rw [← e2]
theorem head2 {α : Type} : ∀ {l : List α}, 2 ≤ l.length → ∃ a b r, l = a :: b :: r
  | a :: b :: r, _ => ⟨a, b, r, rfl⟩
def Turn8Ok (q : Turn8D) : Prop := IsD q.y ∧ -9223372036854775808 ≤ q.i ∧ q.i ≤ 9223372036854775807
theorem read_turn8 {t b : TypeId} {f0 f1 f2 : Field} {fuel : Nat} {cs : List Value} {x : DataW H × List MemPlace} (hs : Try.prog.underlying t = some (.struct #[f0, f1, f2])) (hC : Try.prog.cellsOf t = 34)
    (o0 : f0.offset = 0) (o1 : f1.offset = 1) (o2 : f2.offset = 2) (c0 : Try.prog.cellsOf f0.type = 1) (c1 : Try.prog.cellsOf f1.type = 1) (c2 : Try.prog.cellsOf f2.type = 32) (u0 : Try.prog.underlying f0.type = some (.int .i64)) (u1 : Try.prog.underlying f1.type = some (.int .i64)) (u2 : Try.prog.underlying f2.type = some (.array 32 b)) (ub : Try.prog.underlying b = some (.int .u8)) (cb : Try.prog.cellsOf b = 1)
    (h : DataW.trod enc Try.prog W 0 (fun _ => true) true fuel t cs = some x) : ∃ q, cs = turn8C q ∧ Turn8Ok q := by
  obtain ⟨xs, n, _, hx, hlen, hxl, hfd⟩ := DataW.trod_struct hs h
  rw [hC] at hlen
  obtain ⟨v0, v1, A, rfl⟩ : ∃ v0 v1 A, cs = v0 :: v1 :: A := head2 (by omega)
  have hA : A.length = 32 := by simpa using hlen
  have hx3 : xs.length = 3 := hxl
  have g0 := hfd 0 f0 rfl
  have g1 := hfd 1 f1 rfl
  have g2 := hfd 2 f2 rfl
  rw [List.getElem?_eq_getElem (by omega)] at g0 g1 g2
  rw [o0, c0] at g0
  rw [o1, c1] at g1
  rw [o2, c2, List.drop_succ_cons, List.drop_succ_cons, List.drop_zero, List.take_of_length_le (by omega)] at g2
  obtain ⟨n0, e0, -, w0⟩ := DataW.trod_int u0 g0
  obtain ⟨n1, e1, -, w1⟩ := DataW.trod_int u1 g1
  obtain ⟨y, rfl, hy⟩ := read_id u2 ub cb c2 g2
  simp at e0 e1
  subst e0 e1
  exact ⟨⟨n0, n1, y⟩, rfl, hy, wf_i64 w1⟩
theorem read_turn8s {t e b : TypeId} {f0 f1 f2 : Field} {v : Value} {d : DataW H} {p : List MemPlace} (ht : Try.prog.underlying t = some (.slice e)) (hs : Try.prog.underlying e = some (.struct #[f0, f1, f2])) (hC : Try.prog.cellsOf e = 34)
    (o0 : f0.offset = 0) (o1 : f1.offset = 1) (o2 : f2.offset = 2) (c0 : Try.prog.cellsOf f0.type = 1) (c1 : Try.prog.cellsOf f1.type = 1) (c2 : Try.prog.cellsOf f2.type = 32) (u0 : Try.prog.underlying f0.type = some (.int .i64)) (u1 : Try.prog.underlying f1.type = some (.int .i64)) (u2 : Try.prog.underlying f2.type = some (.array 32 b)) (ub : Try.prog.underlying b = some (.int .u8)) (cb : Try.prog.cellsOf b = 1)
    (hv : ∃ a len cap, v = .slice a len cap) (h : DataW.Trod enc Try.prog W 0 (fun _ => true) true t v d p) : ∃ l : List Turn8D, SlF W v 34 turn8C l ∧ NilC v ∧ ∀ a ∈ l, Turn8Ok a :=
  read_fixed 34 (by omega) turn8C Turn8Ok ht hC (fun a h => turn8_len h.1) (fun _ _ _ h => read_turn8 hs hC o0 o1 o2 c0 c1 c2 u0 u1 u2 ub cb h) hv h
end
/-- where a row's block lies -/
def Lies (v : Value) (lo hi : Nat) : Prop := ∀ k, v.ownBlock = some k → lo ≤ k ∧ k < hi
theorem SlD.off {w w' : World} {ao : Option Addr} {n c g lo hi : Nat} {l : List (List Int)} (h : SlD w (.slice ao n c) l) (hl : Lies (.slice ao n c) lo hi) (hc : Ch (· = g) w w') (hg : g < lo ∨ hi ≤ g) : SlD w' (.slice ao n c) l := by
  obtain ⟨ao', c', e, h2, h3, h4⟩ := h
  refine ⟨ao', c', e, h2, h3, fun h0 => ?_⟩
  obtain ⟨g', o', h5, h6⟩ := h4 h0
  subst h5
  simp only [Value.slice.injEq] at e
  refine ⟨g', o', rfl, fun k hk => rangeW_ch (h6 k hk) hc (fun hs => ?_)⟩
  have h7 := hl g' (by rw [e.1]; rfl)
  have hs : g' = g := hs
  omega
def zerT8 : List Value := turn8C ⟨0, 0, zer32⟩
theorem Try.zeroT8 : ∀ w, (zeroValue 100).run Try.prog w = .ok (.agg zerT8.toArray) w := fun w => by kernel_rfl
theorem id2_parts {w : World} {g : Nat} {e : TypeId} {x y : List Int} (h : Blk w g e (ofK .u8 (x ++ y))) (hx : IsD x) : w.rangeAt g 0 (ofK .u8 x) ∧ w.rangeAt g 32 (ofK .u8 y) := by
  have e1 : ofK .u8 (x ++ y) = ofK .u8 x ++ ofK .u8 y := by simp [ofK]
  have hl : (ofK .u8 x).length = 32 := by rw [length_ofK, hx.1]
  rw [e1] at h
  refine ⟨fun j v hv => ?_, fun j v hv => ?_⟩
  · have := rangeW_blk h j v (by rw [List.getElem?_append_left (List.getElem?_eq_some_iff.1 hv).1]; exact hv)
    exact this
  · have := rangeW_blk h (32 + j) v (by rw [List.getElem?_append_right (by omega), hl, show 32 + j - 32 = j by omega]; exact hv)
    rwa [Nat.zero_add] at this


set_option maxRecDepth 100000 in
set_option maxHeartbeats 16000000 in
theorem merkleSigns_walk (x y : List Int) (leaf : Int) (v : Value) (r : List Turn8D) (w : World) (hx : IsD x) (hy : IsD y) (hleaf : -9223372036854775808 ≤ leaf ∧ leaf ≤ 9223372036854775807) (hv : SlF w v 34 turn8C r) (hr : NilC v ∧ ∀ q ∈ r, Turn8Ok q) : Calls Try.prog 19 #[.agg (ofK .u8 (x ++ y)).toArray, .int .i64 leaf, v] w (TrueP w) := by
  obtain ⟨ao, cp, rfl, hcp, hcp2, hcell⟩ := hv
  have HV := Lib.hid (And.intro hcell hr.2)
  obtain ⟨nt, hnl⟩ : ∃ n, r.length = n := ⟨_, rfl⟩
  rw [hnl] at hcp ⊢
  have HN := Lib.hid hnl
  have hn63 : nt ≤ 9223372036854775807 := by omega
  have HX := Lib.hid hx
  have HY := Lib.hid hy
  have HXI := Lib.hid (infoD hx)
  have HYI := Lib.hid (infoD hy)
  obtain ⟨Z2, hZ2⟩ : ∃ Z, (x ++ y) = Z := ⟨_, rfl⟩
  have HZ2 := Lib.hid hZ2
  rw [hZ2]
  clear hr hcell hnl hx hy hZ2
  go_enter Try.func19, Try.ntmps19
  go_wp2_with (first
    | ((with_reducible refine wpList_box_blk w rfl 87 (.tmp 0) rfl (ofK .u8 Z2) rfl ?_); intro w1 hb hbel hsz; have H1 := Lib.hid (show Below w.heap.size w w1 ∧ w1.rangeAt w.heap.size 0 (ofK .u8 x) ∧ w1.rangeAt w.heap.size 32 (ofK .u8 y) from ⟨hbel, (id2_parts (by rw [HZ2.out]; exact hb) HX.out).1, (id2_parts (by rw [HZ2.out]; exact hb) HX.out).2⟩); clear hb hbel hsz))
  have hx := wakes8_any w1
  refine Calls.mono hx ?_
  clear hx
  rintro e' y1 ⟨rfl, hb⟩
  have HY2 := Lib.hid (show Below w.heap.size w y1 ∧ y1.rangeAt w.heap.size 0 (ofK .u8 x) ∧ y1.rangeAt w.heap.size 32 (ofK .u8 y) from ⟨below_thn H1.out.1 hb (Nat.le_refl _), rangeW_below H1.out.2.1 hb, rangeW_below H1.out.2.2 hb⟩)
  clear hb
  go_wp2_with (first
    | (with_reducible refine wpList_load_any rfl 23 (.tmp 18) rfl w.heap.size 0 rfl (ofK .u8 x) _ HY2.out.2.1 Try.underlying23 rfl HXI.out ?_)
    | (with_reducible refine wpList_load_any rfl 23 (.tmp 20) rfl w.heap.size 32 rfl (ofK .u8 y) _ HY2.out.2.2 Try.underlying23 rfl HYI.out ?_))
  by_cases hl : 0 ≤ leaf ∧ leaf < 8
  rotate_left
  · skip
    have hx := sign8_bad x y leaf y1 HX.out hl
    refine Calls.mono hx ?_
    clear hx
    rintro e' y3 ⟨rfl, hb⟩
    have HY4 := Lib.hid (show Below w.heap.size w y3 ∧ y3.rangeAt w.heap.size 0 (ofK .u8 x) ∧ y3.rangeAt w.heap.size 32 (ofK .u8 y) from ⟨below_thn HY2.out.1 hb (Nat.le_refl _), rangeW_below HY2.out.2.1 hb, rangeW_below HY2.out.2.2 hb⟩)
    clear hb
    by_cases h0 : leaf < 0
    · skip
      have h9 : decide (leaf < 0) = true := by simpa using h0
      go_wp2_with (first
    | ((with_reducible refine wpList_alloc_blk y3 rfl 90 rfl (sgC 0 (.slice none 0 0) (.slice none 0 0)) Try.zeroSg ?_); intro b5 hb hbel hsz; have HB7 := Lib.hid (And.intro hb hbel); clear hb hbel hsz)
    | ((with_reducible refine wpList_store_blk b5 rfl 90 (.tmp 7) (.tmp 24) rfl y3.heap.size 90 (sgC 0 (.slice none 0 0) (.slice none 0 0)) (sgC 0 (.slice none 0 0) (.slice none 0 0)) HB7.out.1 rfl rfl rfl (sgC_info _ _ _) (sgC_one _ _ _ _ _ _ _) ?_); intro b6 hb hc hs; have hb3 := below_ch HB7.out.2 hc (Nat.le_refl _) (fun k hk => Nat.le_of_eq (Eq.symm hk)); have HY8 := Lib.hid (show Below w.heap.size w b6 ∧ b6.rangeAt w.heap.size 0 (ofK .u8 x) ∧ b6.rangeAt w.heap.size 32 (ofK .u8 y) ∧ Blk b6 y3.heap.size 90 (sgC 0 (.slice none 0 0) (.slice none 0 0)) from ⟨below_thn HY4.out.1 hb3 (Nat.le_refl _), rangeW_below HY4.out.2.1 hb3, rangeW_below HY4.out.2.2 hb3, hb⟩); clear hb hc hs hb3 HB7)
    | (with_reducible refine wpList_load_any rfl 90 (.tmp 7) rfl y3.heap.size 0 rfl (sgC 0 (.slice none 0 0) (.slice none 0 0)) _ (rangeW_blk HY8.out.2.2.2) Try.underlying90 rfl (sgC_info _ _ _) ?_)
    | ((with_reducible refine wpList_load_want ?_ 90 (.tmp 7) rfl y3.heap.size 0 rfl (sgC 0 (.slice none 0 0) (.slice none 0 0)) _ (rangeW_blk HY8.out.2.2.2) Try.underlying90 rfl (sgC_info _ _ _) ?_); focus rfl)
    | ((with_reducible refine wpList_build_zeroSg rfl rfl ?_)))
      have hx := same8_any 0 0 none none none none 0 0 0 0 0 0 0 0 [] [] [] [] b6 (SlD.nil _) (SlD.nil _) (SlD.nil _) (SlD.nil _) (fun _ h => nomatch h) (fun _ h => nomatch h) (fun _ h => nomatch h) (fun _ h => nomatch h)
      rw [show (decide ((0 : Int) = 0) && decide (([] : List (List Int)) = []) && decide (([] : List (List Int)) = [])) = true from rfl] at hx
      refine Calls.mono hx ?_
      clear hx
      rintro e' y9 ⟨rfl, hb⟩
      have HY10 := Lib.hid (show Below w.heap.size w y9 ∧ y9.rangeAt w.heap.size 0 (ofK .u8 x) ∧ y9.rangeAt w.heap.size 32 (ofK .u8 y) ∧ Blk y9 y3.heap.size 90 (sgC 0 (.slice none 0 0) (.slice none 0 0)) from ⟨below_thn HY8.out.1 hb (Nat.le_refl _), rangeW_below HY8.out.2.1 hb, rangeW_below HY8.out.2.2.1 hb, HY8.out.2.2.2.below hb HY8.out.2.2.2.lt⟩)
      clear hb
      go_wp2_with fail
      go_ret
      exact ⟨rfl, HY10.out.1⟩
    · skip
      have h9 : decide (leaf < 0) = false := by simpa using h0
      have h8 : decide (8 ≤ leaf) = true := by simp; omega
      go_wp2_with (first
    | ((with_reducible refine wpList_alloc_blk y3 rfl 90 rfl (sgC 0 (.slice none 0 0) (.slice none 0 0)) Try.zeroSg ?_); intro b11 hb hbel hsz; have HB13 := Lib.hid (And.intro hb hbel); clear hb hbel hsz)
    | ((with_reducible refine wpList_store_blk b11 rfl 90 (.tmp 7) (.tmp 24) rfl y3.heap.size 90 (sgC 0 (.slice none 0 0) (.slice none 0 0)) (sgC 0 (.slice none 0 0) (.slice none 0 0)) HB13.out.1 rfl rfl rfl (sgC_info _ _ _) (sgC_one _ _ _ _ _ _ _) ?_); intro b12 hb hc hs; have hb3 := below_ch HB13.out.2 hc (Nat.le_refl _) (fun k hk => Nat.le_of_eq (Eq.symm hk)); have HY14 := Lib.hid (show Below w.heap.size w b12 ∧ b12.rangeAt w.heap.size 0 (ofK .u8 x) ∧ b12.rangeAt w.heap.size 32 (ofK .u8 y) ∧ Blk b12 y3.heap.size 90 (sgC 0 (.slice none 0 0) (.slice none 0 0)) from ⟨below_thn HY4.out.1 hb3 (Nat.le_refl _), rangeW_below HY4.out.2.1 hb3, rangeW_below HY4.out.2.2 hb3, hb⟩); clear hb hc hs hb3 HB13)
    | (with_reducible refine wpList_load_any rfl 90 (.tmp 7) rfl y3.heap.size 0 rfl (sgC 0 (.slice none 0 0) (.slice none 0 0)) _ (rangeW_blk HY14.out.2.2.2) Try.underlying90 rfl (sgC_info _ _ _) ?_)
    | ((with_reducible refine wpList_load_want ?_ 90 (.tmp 7) rfl y3.heap.size 0 rfl (sgC 0 (.slice none 0 0) (.slice none 0 0)) _ (rangeW_blk HY14.out.2.2.2) Try.underlying90 rfl (sgC_info _ _ _) ?_); focus rfl)
    | ((with_reducible refine wpList_build_zeroSg rfl rfl ?_)))
      have hx := same8_any 0 0 none none none none 0 0 0 0 0 0 0 0 [] [] [] [] b12 (SlD.nil _) (SlD.nil _) (SlD.nil _) (SlD.nil _) (fun _ h => nomatch h) (fun _ h => nomatch h) (fun _ h => nomatch h) (fun _ h => nomatch h)
      rw [show (decide ((0 : Int) = 0) && decide (([] : List (List Int)) = []) && decide (([] : List (List Int)) = [])) = true from rfl] at hx
      refine Calls.mono hx ?_
      clear hx
      rintro e' y15 ⟨rfl, hb⟩
      have HY16 := Lib.hid (show Below w.heap.size w y15 ∧ y15.rangeAt w.heap.size 0 (ofK .u8 x) ∧ y15.rangeAt w.heap.size 32 (ofK .u8 y) ∧ Blk y15 y3.heap.size 90 (sgC 0 (.slice none 0 0) (.slice none 0 0)) from ⟨below_thn HY14.out.1 hb (Nat.le_refl _), rangeW_below HY14.out.2.1 hb, rangeW_below HY14.out.2.2.1 hb, HY14.out.2.2.2.below hb HY14.out.2.2.2.lt⟩)
      clear hb
      go_wp2_with fail
      go_ret
      exact ⟨rfl, HY16.out.1⟩
  obtain ⟨n, rfl⟩ : ∃ n : Nat, leaf = n := ⟨leaf.toNat, by omega⟩
  have hn8 : n < 8 := by omega
  have hd1 : decide ((n : Int) < 0) = false := by simp
  have hd2 : decide (8 ≤ (n : Int)) = false := by simp; omega
  obtain ⟨SG, hSG⟩ : ∃ S, sigOf (leafS x n) y = S := ⟨_, rfl⟩
  obtain ⟨PT, hPT⟩ : ∃ S, pathM x n = S := ⟨_, rfl⟩
  obtain ⟨RT, hRT⟩ : ∃ S, rootM x = S := ⟨_, rfl⟩
  obtain ⟨KK, hKK⟩ : ∃ S, (rowM x 0).flatten = S := ⟨_, rfl⟩
  have DSG := Lib.hid (show SG.length = 67 ∧ (∀ c ∈ SG, IsD c) from ⟨by rw [← hSG]; exact sigOf_length _ _, by rw [← hSG]; exact sigOf_D (isD_leafS HX.out n) y⟩)
  have DPT := Lib.hid (show PT.length = 3 ∧ (∀ c ∈ PT, IsD c) from ⟨by rw [← hPT]; rfl, by rw [← hPT]; exact isD_pathM HX.out hn8⟩)
  have DRT := Lib.hid (show IsD RT from by rw [← hRT]; exact isD_rootM HX.out)
  have DKK := Lib.hid (show (Try.prog.info? 94).map (·.size) = some (ofK .u8 KK).length ∧ (ofK .u8 KK).length = zerK.length from by
    have h : KK.length = 256 := by rw [← hKK, ← keyC_all]; exact keyC_len HX.out (Nat.le_refl _)
    exact ⟨infoK h, by unfold zerK; rw [length_ofK, length_ofK, h, List.length_replicate]⟩)
  have HVT := Lib.hid (show verM RT y n SG PT = true from by rw [← hRT, ← hSG, ← hPT]; exact verM_sign HY.out n hn8)
  have ESG := Lib.hid hSG
  have EPT := Lib.hid hPT
  have ERT := Lib.hid hRT
  have EKK := Lib.hid hKK
  clear hSG hPT hRT hKK hl
  have hx := sign8_ok x y n y1 HX.out HY.out hn8
  unfold Sign8P at hx
  rw [ESG.out, EPT.out, DSG.out.1, DPT.out.1] at hx
  refine Calls.mono hx ?_
  clear hx
  rintro e' y17 ⟨so, sc, po, pc, rfl, hs1, hs2, hb⟩
  have HY18 := Lib.hid (show Below w.heap.size w y17 ∧ y17.rangeAt w.heap.size 0 (ofK .u8 x) ∧ y17.rangeAt w.heap.size 32 (ofK .u8 y) ∧ SlD y17 (.slice so 67 sc) SG ∧ SlD y17 (.slice po 3 pc) PT from ⟨below_thn HY2.out.1 hb (Nat.le_refl _), rangeW_below HY2.out.2.1 hb, rangeW_below HY2.out.2.2 hb, hs1, hs2⟩)
  clear hs1 hs2 hb
  go_wp2_with (first
    | ((with_reducible refine wpList_alloc_blk y17 rfl 90 rfl (sgC 0 (.slice none 0 0) (.slice none 0 0)) Try.zeroSg ?_); intro b19 hb hbel hsz; have HB21 := Lib.hid (And.intro hb hbel); clear hb hbel hsz)
    | ((with_reducible refine wpList_store_blk b19 rfl 90 (.tmp 7) (.tmp 24) rfl y17.heap.size 90 (sgC 0 (.slice none 0 0) (.slice none 0 0)) (sgC n (.slice so 67 sc) (.slice po 3 pc)) HB21.out.1 rfl rfl rfl (sgC_info _ _ _) (sgC_one _ _ _ _ _ _ _) ?_); intro b20 hb hc hs; have hb3 := below_ch HB21.out.2 hc (Nat.le_refl _) (fun k hk => Nat.le_of_eq (Eq.symm hk)); have HY22 := Lib.hid (show Below w.heap.size w b20 ∧ b20.rangeAt w.heap.size 0 (ofK .u8 x) ∧ b20.rangeAt w.heap.size 32 (ofK .u8 y) ∧ SlD b20 (.slice so 67 sc) SG ∧ SlD b20 (.slice po 3 pc) PT ∧ Blk b20 y17.heap.size 90 (sgC n (.slice so 67 sc) (.slice po 3 pc)) from ⟨below_thn HY18.out.1 hb3 (Nat.le_refl _), rangeW_below HY18.out.2.1 hb3, rangeW_below HY18.out.2.2.1 hb3, HY18.out.2.2.2.1.below hb3, HY18.out.2.2.2.2.below hb3, hb⟩); clear hb hc hs hb3 HB21)
    | (with_reducible refine wpList_load_any rfl 23 (.tmp 39) rfl w.heap.size 0 rfl (ofK .u8 x) _ HY22.out.2.1 Try.underlying23 rfl HXI.out ?_))
  have hx := keys8_any x b20 HX.out
  rw [EKK.out] at hx
  refine Calls.mono hx ?_
  clear hx
  rintro e' y23 ⟨rfl, hb⟩
  have HY24 := Lib.hid (show Below w.heap.size w y23 ∧ y23.rangeAt w.heap.size 0 (ofK .u8 x) ∧ y23.rangeAt w.heap.size 32 (ofK .u8 y) ∧ SlD y23 (.slice so 67 sc) SG ∧ SlD y23 (.slice po 3 pc) PT ∧ Blk y23 y17.heap.size 90 (sgC n (.slice so 67 sc) (.slice po 3 pc)) from ⟨below_thn HY22.out.1 hb (Nat.le_refl _), rangeW_below HY22.out.2.1 hb, rangeW_below HY22.out.2.2.1 hb, HY22.out.2.2.2.1.below hb, HY22.out.2.2.2.2.1.below hb, HY22.out.2.2.2.2.2.below hb HY22.out.2.2.2.2.2.lt⟩)
  clear hb
  go_upto_region 7 with (first
    | ((with_reducible refine wpList_alloc_blk y23 rfl 94 rfl zerK Try.zeroK8 ?_); intro b25 hb hbel hsz; have HB27 := Lib.hid (And.intro hb hbel); clear hb hbel hsz)
    | ((with_reducible refine wpList_store_blk b25 rfl 94 (.tmp 9) (.tmp 41) rfl y23.heap.size 94 zerK (ofK .u8 KK) HB27.out.1 rfl rfl DKK.out.2 DKK.out.1 (one_ofK _ _) ?_); intro b26 hb hc hs; have hb3 := below_ch HB27.out.2 hc (Nat.le_refl _) (fun k hk => Nat.le_of_eq (Eq.symm hk)); have HY28 := Lib.hid (show Below w.heap.size w b26 ∧ b26.rangeAt w.heap.size 0 (ofK .u8 x) ∧ b26.rangeAt w.heap.size 32 (ofK .u8 y) ∧ SlD b26 (.slice so 67 sc) SG ∧ SlD b26 (.slice po 3 pc) PT ∧ Blk b26 y17.heap.size 90 (sgC n (.slice so 67 sc) (.slice po 3 pc)) ∧ Blk b26 y23.heap.size 94 (ofK .u8 KK) from ⟨below_thn HY24.out.1 hb3 (Nat.le_refl _), rangeW_below HY24.out.2.1 hb3, rangeW_below HY24.out.2.2.1 hb3, HY24.out.2.2.2.1.below hb3, HY24.out.2.2.2.2.1.below hb3, HY24.out.2.2.2.2.2.below hb3 HY24.out.2.2.2.2.2.lt, hb⟩); clear hb hc hs hb3 HB27))
  try simp only [Act.put, List.setIfInBounds_toArray, List.set_cons_zero, List.set_cons_succ]
  go_cut [10] from 42 to 53 (fun c wc => ∃ (g10 : Nat) (so2 : Option Addr) (sc2 b2 : Nat), c = .pointer (some ⟨g10, 0, none⟩) ∧ Hid (Below w.heap.size w wc ∧ wc.rangeAt w.heap.size 0 (ofK .u8 x) ∧ wc.rangeAt w.heap.size 32 (ofK .u8 y) ∧ SlD wc (.slice so 67 sc) SG ∧ SlD wc (.slice po 3 pc) PT ∧ Blk wc y17.heap.size 90 (sgC n (.slice so 67 sc) (.slice po 3 pc)) ∧ Blk wc y23.heap.size 94 (ofK .u8 KK) ∧ Blk wc g10 90 (sgC n (.slice so2 67 sc2) (.slice (some ⟨b2, 0, none⟩) 3 3)) ∧ SlD wc (.slice so2 67 sc2) SG ∧ SlD wc (.slice (some ⟨b2, 0, none⟩) 3 3) PT))
  case first =>
    go_wp2_with fail
    refine wp_region_takes (fun w' => w'.rangeAt w.heap.size 0 (ofK .u8 x) ∧ w'.rangeAt w.heap.size 32 (ofK .u8 y) ∧ w'.rangeAt y23.heap.size 0 (ofK .u8 KK)) [0, 1, 2, 3, 5, 6, 8, 9] 6 (by kernel_rfl) rfl (by kernel_rfl) (by kernel_rfl) (⟨rangeW_below HY28.out.2.1 ((Sm.refl b26).drew.below _), rangeW_below HY28.out.2.2.1 ((Sm.refl b26).drew.below _), rangeW_below (rangeW_blk HY28.out.2.2.2.2.2.2) ((Sm.refl b26).drew.below _)⟩) ?_
    iterate 8 (refine' HeldL.run ?_ ?_ ?_ ?_; rotate_left 2; (simp only [List.getElem?_toArray, List.getElem?_cons_zero, List.getElem?_cons_succ]; rfl); rfl; (rintro w' ⟨k0, k1, k2⟩; first | exact exec_load_mid rfl rfl k0 Try.underlying23 rfl HXI.out | exact exec_load_mid rfl rfl k1 Try.underlying23 rfl HYI.out | exact exec_load_mid rfl rfl k2 Try.underlying94 rfl DKK.out.1 | (go_simp; with_reducible rfl)); simp only [Act.put, List.setIfInBounds_toArray, List.set_cons_zero, List.set_cons_succ])
    have HB0 := Lib.hid (show Below b26.heap.size b26 b26.drew from (Sm.refl b26).drew.below _)
    have hz0 := HB0.out.size
    generalize b26.drew = v0 at HB0 hz0 ⊢
    refine' wpAnyH_two 4 12 (by kernel_rfl) ?_ ?_ ?_ ?_; rotate_left 2; (simp only [List.getElem?_toArray, List.getElem?_cons_zero, List.getElem?_cons_succ]; rfl); (simp only [List.getElem?_toArray, List.getElem?_cons_zero, List.getElem?_cons_succ]; rfl)
    · skip
      try simp only [Act.put]
      go_wp2_with fail
      refine (lseed_any x n v0 HX.out (by omega) (by omega)).mono ?_
      rintro e' u29 ⟨rfl, hb⟩
      have HB30 := Lib.hid (below_thn HB0.out hb (Nat.le_refl _))
      have hz31 := (hb).size
      clear hb
      try simp only [Act.put, List.setIfInBounds_toArray, List.set_cons_zero, List.set_cons_succ]
      try go_wp2_with fail
      refine QK.normal ⟨⟨rangeW_below HY28.out.2.1 HB30.out, rangeW_below HY28.out.2.2.1 HB30.out, rangeW_below (rangeW_blk HY28.out.2.2.2.2.2.2) HB30.out⟩, ?_⟩
      refine' wpAnyH_two 7 12 (by kernel_rfl) ?_ ?_ ?_ ?_; rotate_left 2; (simp only [List.getElem?_toArray, List.getElem?_cons_zero, List.getElem?_cons_succ]; rfl); (simp only [List.getElem?_toArray, List.getElem?_cons_zero, List.getElem?_cons_succ]; rfl)
      · skip
        try simp only [Act.put]
        go_wp2_with fail
        have hx := sign_any (leafS x n) y u29 (isD_leafS HX.out n) HY.out
        rw [ESG.out] at hx
        refine Calls.mono hx ?_
        clear hx
        rintro e' u32 ⟨so2, sc2, rfl, hown, hb⟩
        have HB34 := Lib.hid (below_thn HB30.out hb (Nat.le_refl _))
        have hz35 := (hb).size
        have HT33 := Lib.hid (show SlD u32 (.slice so2 67 sc2) SG ∧ Lies (.slice so2 67 sc2) u29.heap.size u32.heap.size from ⟨SlD.of_owns hown DSG.out.1.symm DSG.out.2, fun k hk => hown.lt k hk⟩)
        clear hown hb
        try simp only [Act.put, List.setIfInBounds_toArray, List.set_cons_zero, List.set_cons_succ]
        try go_wp2_with fail
        refine QK.normal ⟨⟨rangeW_below HY28.out.2.1 HB34.out, rangeW_below HY28.out.2.2.1 HB34.out, rangeW_below (rangeW_blk HY28.out.2.2.2.2.2.2) HB34.out⟩, ?_⟩
        refine' wpAnyH_two 10 12 (by kernel_rfl) ?_ ?_ ?_ ?_; rotate_left 2; (simp only [List.getElem?_toArray, List.getElem?_cons_zero, List.getElem?_cons_succ]; rfl); (simp only [List.getElem?_toArray, List.getElem?_cons_zero, List.getElem?_cons_succ]; rfl)
        · skip
          try simp only [Act.put]
          go_wp2_with fail
          have hx := path8_any x n u32 HX.out hn8
          rw [EKK.out, EPT.out] at hx
          refine Calls.mono hx ?_
          clear hx
          rintro e' u36 ⟨b2, rfl, hsl, hlo, hhi, hb⟩
          have HB38 := Lib.hid (below_thn HB34.out hb (Nat.le_refl _))
          have hz39 := (hb).size
          have HT40 := Lib.hid (And.intro (HT33.out.1.below hb) HT33.out.2)
          have HT37 := Lib.hid (show SlD u36 (.slice (some ⟨b2, 0, none⟩) 3 3) PT ∧ Lies (.slice (some ⟨b2, 0, none⟩) 3 3) u32.heap.size u36.heap.size from ⟨hsl, fun k hk => by have hk : some b2 = some k := hk; simp only [Option.some.injEq] at hk; omega⟩)
          clear hsl hlo hhi hb
          try simp only [Act.put, List.setIfInBounds_toArray, List.set_cons_zero, List.set_cons_succ]
          try go_wp2_with fail
          refine QK.normal ⟨⟨rangeW_below HY28.out.2.1 HB38.out, rangeW_below HY28.out.2.2.1 HB38.out, rangeW_below (rangeW_blk HY28.out.2.2.2.2.2.2) HB38.out⟩, ?_⟩
          refine' wpAnyH_two 11 12 (by kernel_rfl) ?_ ?_ ?_ ?_; rotate_left 2; (simp only [List.getElem?_toArray, List.getElem?_cons_zero, List.getElem?_cons_succ]; rfl); (simp only [List.getElem?_toArray, List.getElem?_cons_zero, List.getElem?_cons_succ]; rfl)
          · skip
            refine wpList_buildSg3 rfl (.tmp 42) (.tmp 49) (.tmp 52) rfl n (.slice so2 67 sc2) (.slice (some ⟨b2, 0, none⟩) 3 3) ⟨_, _, _, rfl⟩ ⟨_, _, _, rfl⟩ rfl rfl rfl ?_
            simp only [Act.put, List.setIfInBounds_toArray, List.set_cons_zero, List.set_cons_succ]
            refine QK.normal ⟨⟨rangeW_below HY28.out.2.1 HB38.out, rangeW_below HY28.out.2.2.1 HB38.out, rangeW_below (rangeW_blk HY28.out.2.2.2.2.2.2) HB38.out⟩, ?_⟩
            refine' wpAnyH_one 12 (by kernel_rfl) ?_ ?_; rotate_left; (simp only [List.getElem?_toArray, List.getElem?_cons_zero, List.getElem?_cons_succ]; rfl)
            refine wpList_alloc_blk u36 rfl 90 rfl (sgC 0 (.slice none 0 0) (.slice none 0 0)) Try.zeroSg ?_
            intro u41 hb0 hb hsz
            have HB44 := Lib.hid (below_thn HB38.out hb (Nat.le_refl _))
            have hz45 := (hb).size
            have HT46 := Lib.hid (And.intro (HT40.out.1.below hb) HT40.out.2)
            have HT47 := Lib.hid (And.intro (HT37.out.1.below hb) HT37.out.2)
            have HG42 := Lib.hid hb0
            have hz43 : u41.heap.size = u36.heap.size + 1 := hsz
            clear hb0 hb hsz
            try simp only [Act.put, List.setIfInBounds_toArray, List.set_cons_zero, List.set_cons_succ]
            refine QK.normal ⟨⟨rangeW_below HY28.out.2.1 HB44.out, rangeW_below HY28.out.2.2.1 HB44.out, rangeW_below (rangeW_blk HY28.out.2.2.2.2.2.2) HB44.out⟩, ?_⟩
            refine' wpAnyH_one 13 (by kernel_rfl) ?_ ?_; rotate_left; (simp only [List.getElem?_toArray, List.getElem?_cons_zero, List.getElem?_cons_succ]; rfl)
            refine wpList_store_blk u41 rfl 90 (.tmp 10) (.tmp 53) rfl u36.heap.size 90 (sgC 0 (.slice none 0 0) (.slice none 0 0)) (sgC n (.slice so2 67 sc2) (.slice (some ⟨b2, 0, none⟩) 3 3)) HG42.out rfl rfl rfl (sgC_info _ _ _) (sgC_one _ _ _ _ _ _ _) ?_
            intro u48 hb hc hs
            have HB49 := Lib.hid (show Below b26.heap.size b26 u48 from below_ch HB44.out hc (Nat.le_refl _) (fun k hk => by have e : k = u36.heap.size := hk; omega))
            have HQ50 := Lib.hid (show Blk u48 u36.heap.size 90 (sgC n (.slice so2 67 sc2) (.slice (some ⟨b2, 0, none⟩) 3 3)) ∧ SlD u48 (.slice so2 67 sc2) SG ∧ SlD u48 (.slice (some ⟨b2, 0, none⟩) 3 3) PT from ⟨hb, HT46.out.1.off HT46.out.2 hc (by omega), HT47.out.1.off HT47.out.2 hc (by omega)⟩)
            clear hb hc hs
            try simp only [Act.put, List.setIfInBounds_toArray, List.set_cons_zero, List.set_cons_succ]
            refine QK.normal ⟨⟨rangeW_below HY28.out.2.1 HB49.out, rangeW_below HY28.out.2.2.1 HB49.out, rangeW_below (rangeW_blk HY28.out.2.2.2.2.2.2) HB49.out⟩, ?_⟩
            refine wpAnyH_done (by kernel_rfl) ?_ _
            refine NoPanic.normal ?_
            have HF51 := Lib.hid (show Below w.heap.size w u48 ∧ u48.rangeAt w.heap.size 0 (ofK .u8 x) ∧ u48.rangeAt w.heap.size 32 (ofK .u8 y) ∧ SlD u48 (.slice so 67 sc) SG ∧ SlD u48 (.slice po 3 pc) PT ∧ Blk u48 y17.heap.size 90 (sgC n (.slice so 67 sc) (.slice po 3 pc)) ∧ Blk u48 y23.heap.size 94 (ofK .u8 KK) from ⟨below_thn HY28.out.1 HB49.out (Nat.le_refl _), rangeW_below HY28.out.2.1 HB49.out, rangeW_below HY28.out.2.2.1 HB49.out, HY28.out.2.2.2.1.below HB49.out, HY28.out.2.2.2.2.1.below HB49.out, HY28.out.2.2.2.2.2.1.below HB49.out HY28.out.2.2.2.2.2.1.lt, HY28.out.2.2.2.2.2.2.below HB49.out HY28.out.2.2.2.2.2.2.lt⟩)
            go_wp2_with fail
            go_meet
            case rel => exact ⟨u36.heap.size, so2, sc2, b2, rfl, Lib.hid ⟨HF51.out.1, HF51.out.2.1, HF51.out.2.2.1, HF51.out.2.2.2.1, HF51.out.2.2.2.2.1, HF51.out.2.2.2.2.2.1, HF51.out.2.2.2.2.2.2, HQ50.out.1, HQ50.out.2.1, HQ50.out.2.2⟩⟩
          · skip
            refine wpList_alloc_blk u36 rfl 90 rfl (sgC 0 (.slice none 0 0) (.slice none 0 0)) Try.zeroSg ?_
            intro u52 hb0 hb hsz
            have HB55 := Lib.hid (below_thn HB38.out hb (Nat.le_refl _))
            have hz56 := (hb).size
            have HT57 := Lib.hid (And.intro (HT40.out.1.below hb) HT40.out.2)
            have HT58 := Lib.hid (And.intro (HT37.out.1.below hb) HT37.out.2)
            have HG53 := Lib.hid hb0
            have hz54 : u52.heap.size = u36.heap.size + 1 := hsz
            clear hb0 hb hsz
            try simp only [Act.put, List.setIfInBounds_toArray, List.set_cons_zero, List.set_cons_succ]
            refine QK.normal ⟨⟨rangeW_below HY28.out.2.1 HB55.out, rangeW_below HY28.out.2.2.1 HB55.out, rangeW_below (rangeW_blk HY28.out.2.2.2.2.2.2) HB55.out⟩, ?_⟩
            refine' wpAnyH_one 11 (by kernel_rfl) ?_ ?_; rotate_left; (simp only [List.getElem?_toArray, List.getElem?_cons_zero, List.getElem?_cons_succ]; rfl)
            refine wpList_buildSg3 rfl (.tmp 42) (.tmp 49) (.tmp 52) rfl n (.slice so2 67 sc2) (.slice (some ⟨b2, 0, none⟩) 3 3) ⟨_, _, _, rfl⟩ ⟨_, _, _, rfl⟩ rfl rfl rfl ?_
            simp only [Act.put, List.setIfInBounds_toArray, List.set_cons_zero, List.set_cons_succ]
            refine QK.normal ⟨⟨rangeW_below HY28.out.2.1 HB55.out, rangeW_below HY28.out.2.2.1 HB55.out, rangeW_below (rangeW_blk HY28.out.2.2.2.2.2.2) HB55.out⟩, ?_⟩
            refine' wpAnyH_one 13 (by kernel_rfl) ?_ ?_; rotate_left; (simp only [List.getElem?_toArray, List.getElem?_cons_zero, List.getElem?_cons_succ]; rfl)
            refine wpList_store_blk u52 rfl 90 (.tmp 10) (.tmp 53) rfl u36.heap.size 90 (sgC 0 (.slice none 0 0) (.slice none 0 0)) (sgC n (.slice so2 67 sc2) (.slice (some ⟨b2, 0, none⟩) 3 3)) HG53.out rfl rfl rfl (sgC_info _ _ _) (sgC_one _ _ _ _ _ _ _) ?_
            intro u59 hb hc hs
            have HB60 := Lib.hid (show Below b26.heap.size b26 u59 from below_ch HB55.out hc (Nat.le_refl _) (fun k hk => by have e : k = u36.heap.size := hk; omega))
            have HQ61 := Lib.hid (show Blk u59 u36.heap.size 90 (sgC n (.slice so2 67 sc2) (.slice (some ⟨b2, 0, none⟩) 3 3)) ∧ SlD u59 (.slice so2 67 sc2) SG ∧ SlD u59 (.slice (some ⟨b2, 0, none⟩) 3 3) PT from ⟨hb, HT57.out.1.off HT57.out.2 hc (by omega), HT58.out.1.off HT58.out.2 hc (by omega)⟩)
            clear hb hc hs
            try simp only [Act.put, List.setIfInBounds_toArray, List.set_cons_zero, List.set_cons_succ]
            refine QK.normal ⟨⟨rangeW_below HY28.out.2.1 HB60.out, rangeW_below HY28.out.2.2.1 HB60.out, rangeW_below (rangeW_blk HY28.out.2.2.2.2.2.2) HB60.out⟩, ?_⟩
            refine wpAnyH_done (by kernel_rfl) ?_ _
            refine NoPanic.normal ?_
            have HF62 := Lib.hid (show Below w.heap.size w u59 ∧ u59.rangeAt w.heap.size 0 (ofK .u8 x) ∧ u59.rangeAt w.heap.size 32 (ofK .u8 y) ∧ SlD u59 (.slice so 67 sc) SG ∧ SlD u59 (.slice po 3 pc) PT ∧ Blk u59 y17.heap.size 90 (sgC n (.slice so 67 sc) (.slice po 3 pc)) ∧ Blk u59 y23.heap.size 94 (ofK .u8 KK) from ⟨below_thn HY28.out.1 HB60.out (Nat.le_refl _), rangeW_below HY28.out.2.1 HB60.out, rangeW_below HY28.out.2.2.1 HB60.out, HY28.out.2.2.2.1.below HB60.out, HY28.out.2.2.2.2.1.below HB60.out, HY28.out.2.2.2.2.2.1.below HB60.out HY28.out.2.2.2.2.2.1.lt, HY28.out.2.2.2.2.2.2.below HB60.out HY28.out.2.2.2.2.2.2.lt⟩)
            go_wp2_with fail
            go_meet
            case rel => exact ⟨u36.heap.size, so2, sc2, b2, rfl, Lib.hid ⟨HF62.out.1, HF62.out.2.1, HF62.out.2.2.1, HF62.out.2.2.2.1, HF62.out.2.2.2.2.1, HF62.out.2.2.2.2.2.1, HF62.out.2.2.2.2.2.2, HQ61.out.1, HQ61.out.2.1, HQ61.out.2.2⟩⟩
        · skip
          refine wpList_alloc_blk u32 rfl 90 rfl (sgC 0 (.slice none 0 0) (.slice none 0 0)) Try.zeroSg ?_
          intro u63 hb0 hb hsz
          have HB66 := Lib.hid (below_thn HB34.out hb (Nat.le_refl _))
          have hz67 := (hb).size
          have HT68 := Lib.hid (And.intro (HT33.out.1.below hb) HT33.out.2)
          have HG64 := Lib.hid hb0
          have hz65 : u63.heap.size = u32.heap.size + 1 := hsz
          clear hb0 hb hsz
          try simp only [Act.put, List.setIfInBounds_toArray, List.set_cons_zero, List.set_cons_succ]
          refine QK.normal ⟨⟨rangeW_below HY28.out.2.1 HB66.out, rangeW_below HY28.out.2.2.1 HB66.out, rangeW_below (rangeW_blk HY28.out.2.2.2.2.2.2) HB66.out⟩, ?_⟩
          refine' wpAnyH_one 10 (by kernel_rfl) ?_ ?_; rotate_left; (simp only [List.getElem?_toArray, List.getElem?_cons_zero, List.getElem?_cons_succ]; rfl)
          try simp only [Act.put]
          go_wp2_with fail
          have hx := path8_any x n u63 HX.out hn8
          rw [EKK.out, EPT.out] at hx
          refine Calls.mono hx ?_
          clear hx
          rintro e' u69 ⟨b2, rfl, hsl, hlo, hhi, hb⟩
          have HB71 := Lib.hid (below_thn HB66.out hb (Nat.le_refl _))
          have hz72 := (hb).size
          have HT73 := Lib.hid (And.intro (HT68.out.1.below hb) HT68.out.2)
          have HG74 := Lib.hid (HG64.out.below hb HG64.out.lt)
          have HT70 := Lib.hid (show SlD u69 (.slice (some ⟨b2, 0, none⟩) 3 3) PT ∧ Lies (.slice (some ⟨b2, 0, none⟩) 3 3) u63.heap.size u69.heap.size from ⟨hsl, fun k hk => by have hk : some b2 = some k := hk; simp only [Option.some.injEq] at hk; omega⟩)
          clear hsl hlo hhi hb
          try simp only [Act.put, List.setIfInBounds_toArray, List.set_cons_zero, List.set_cons_succ]
          try go_wp2_with fail
          refine QK.normal ⟨⟨rangeW_below HY28.out.2.1 HB71.out, rangeW_below HY28.out.2.2.1 HB71.out, rangeW_below (rangeW_blk HY28.out.2.2.2.2.2.2) HB71.out⟩, ?_⟩
          refine' wpAnyH_one 11 (by kernel_rfl) ?_ ?_; rotate_left; (simp only [List.getElem?_toArray, List.getElem?_cons_zero, List.getElem?_cons_succ]; rfl)
          refine wpList_buildSg3 rfl (.tmp 42) (.tmp 49) (.tmp 52) rfl n (.slice so2 67 sc2) (.slice (some ⟨b2, 0, none⟩) 3 3) ⟨_, _, _, rfl⟩ ⟨_, _, _, rfl⟩ rfl rfl rfl ?_
          simp only [Act.put, List.setIfInBounds_toArray, List.set_cons_zero, List.set_cons_succ]
          refine QK.normal ⟨⟨rangeW_below HY28.out.2.1 HB71.out, rangeW_below HY28.out.2.2.1 HB71.out, rangeW_below (rangeW_blk HY28.out.2.2.2.2.2.2) HB71.out⟩, ?_⟩
          refine' wpAnyH_one 13 (by kernel_rfl) ?_ ?_; rotate_left; (simp only [List.getElem?_toArray, List.getElem?_cons_zero, List.getElem?_cons_succ]; rfl)
          refine wpList_store_blk u69 rfl 90 (.tmp 10) (.tmp 53) rfl u32.heap.size 90 (sgC 0 (.slice none 0 0) (.slice none 0 0)) (sgC n (.slice so2 67 sc2) (.slice (some ⟨b2, 0, none⟩) 3 3)) HG74.out rfl rfl rfl (sgC_info _ _ _) (sgC_one _ _ _ _ _ _ _) ?_
          intro u75 hb hc hs
          have HB76 := Lib.hid (show Below b26.heap.size b26 u75 from below_ch HB71.out hc (Nat.le_refl _) (fun k hk => by have e : k = u32.heap.size := hk; omega))
          have HQ77 := Lib.hid (show Blk u75 u32.heap.size 90 (sgC n (.slice so2 67 sc2) (.slice (some ⟨b2, 0, none⟩) 3 3)) ∧ SlD u75 (.slice so2 67 sc2) SG ∧ SlD u75 (.slice (some ⟨b2, 0, none⟩) 3 3) PT from ⟨hb, HT73.out.1.off HT73.out.2 hc (by omega), HT70.out.1.off HT70.out.2 hc (by omega)⟩)
          clear hb hc hs
          try simp only [Act.put, List.setIfInBounds_toArray, List.set_cons_zero, List.set_cons_succ]
          refine QK.normal ⟨⟨rangeW_below HY28.out.2.1 HB76.out, rangeW_below HY28.out.2.2.1 HB76.out, rangeW_below (rangeW_blk HY28.out.2.2.2.2.2.2) HB76.out⟩, ?_⟩
          refine wpAnyH_done (by kernel_rfl) ?_ _
          refine NoPanic.normal ?_
          have HF78 := Lib.hid (show Below w.heap.size w u75 ∧ u75.rangeAt w.heap.size 0 (ofK .u8 x) ∧ u75.rangeAt w.heap.size 32 (ofK .u8 y) ∧ SlD u75 (.slice so 67 sc) SG ∧ SlD u75 (.slice po 3 pc) PT ∧ Blk u75 y17.heap.size 90 (sgC n (.slice so 67 sc) (.slice po 3 pc)) ∧ Blk u75 y23.heap.size 94 (ofK .u8 KK) from ⟨below_thn HY28.out.1 HB76.out (Nat.le_refl _), rangeW_below HY28.out.2.1 HB76.out, rangeW_below HY28.out.2.2.1 HB76.out, HY28.out.2.2.2.1.below HB76.out, HY28.out.2.2.2.2.1.below HB76.out, HY28.out.2.2.2.2.2.1.below HB76.out HY28.out.2.2.2.2.2.1.lt, HY28.out.2.2.2.2.2.2.below HB76.out HY28.out.2.2.2.2.2.2.lt⟩)
          go_wp2_with fail
          go_meet
          case rel => exact ⟨u32.heap.size, so2, sc2, b2, rfl, Lib.hid ⟨HF78.out.1, HF78.out.2.1, HF78.out.2.2.1, HF78.out.2.2.2.1, HF78.out.2.2.2.2.1, HF78.out.2.2.2.2.2.1, HF78.out.2.2.2.2.2.2, HQ77.out.1, HQ77.out.2.1, HQ77.out.2.2⟩⟩
      · skip
        refine wpList_alloc_blk u29 rfl 90 rfl (sgC 0 (.slice none 0 0) (.slice none 0 0)) Try.zeroSg ?_
        intro u79 hb0 hb hsz
        have HB82 := Lib.hid (below_thn HB30.out hb (Nat.le_refl _))
        have hz83 := (hb).size
        have HG80 := Lib.hid hb0
        have hz81 : u79.heap.size = u29.heap.size + 1 := hsz
        clear hb0 hb hsz
        try simp only [Act.put, List.setIfInBounds_toArray, List.set_cons_zero, List.set_cons_succ]
        refine QK.normal ⟨⟨rangeW_below HY28.out.2.1 HB82.out, rangeW_below HY28.out.2.2.1 HB82.out, rangeW_below (rangeW_blk HY28.out.2.2.2.2.2.2) HB82.out⟩, ?_⟩
        refine' wpAnyH_one 7 (by kernel_rfl) ?_ ?_; rotate_left; (simp only [List.getElem?_toArray, List.getElem?_cons_zero, List.getElem?_cons_succ]; rfl)
        try simp only [Act.put]
        go_wp2_with fail
        have hx := sign_any (leafS x n) y u79 (isD_leafS HX.out n) HY.out
        rw [ESG.out] at hx
        refine Calls.mono hx ?_
        clear hx
        rintro e' u84 ⟨so2, sc2, rfl, hown, hb⟩
        have HB86 := Lib.hid (below_thn HB82.out hb (Nat.le_refl _))
        have hz87 := (hb).size
        have HG88 := Lib.hid (HG80.out.below hb HG80.out.lt)
        have HT85 := Lib.hid (show SlD u84 (.slice so2 67 sc2) SG ∧ Lies (.slice so2 67 sc2) u79.heap.size u84.heap.size from ⟨SlD.of_owns hown DSG.out.1.symm DSG.out.2, fun k hk => hown.lt k hk⟩)
        clear hown hb
        try simp only [Act.put, List.setIfInBounds_toArray, List.set_cons_zero, List.set_cons_succ]
        try go_wp2_with fail
        refine QK.normal ⟨⟨rangeW_below HY28.out.2.1 HB86.out, rangeW_below HY28.out.2.2.1 HB86.out, rangeW_below (rangeW_blk HY28.out.2.2.2.2.2.2) HB86.out⟩, ?_⟩
        refine' wpAnyH_one 10 (by kernel_rfl) ?_ ?_; rotate_left; (simp only [List.getElem?_toArray, List.getElem?_cons_zero, List.getElem?_cons_succ]; rfl)
        try simp only [Act.put]
        go_wp2_with fail
        have hx := path8_any x n u84 HX.out hn8
        rw [EKK.out, EPT.out] at hx
        refine Calls.mono hx ?_
        clear hx
        rintro e' u89 ⟨b2, rfl, hsl, hlo, hhi, hb⟩
        have HB91 := Lib.hid (below_thn HB86.out hb (Nat.le_refl _))
        have hz92 := (hb).size
        have HT93 := Lib.hid (And.intro (HT85.out.1.below hb) HT85.out.2)
        have HG94 := Lib.hid (HG88.out.below hb HG88.out.lt)
        have HT90 := Lib.hid (show SlD u89 (.slice (some ⟨b2, 0, none⟩) 3 3) PT ∧ Lies (.slice (some ⟨b2, 0, none⟩) 3 3) u84.heap.size u89.heap.size from ⟨hsl, fun k hk => by have hk : some b2 = some k := hk; simp only [Option.some.injEq] at hk; omega⟩)
        clear hsl hlo hhi hb
        try simp only [Act.put, List.setIfInBounds_toArray, List.set_cons_zero, List.set_cons_succ]
        try go_wp2_with fail
        refine QK.normal ⟨⟨rangeW_below HY28.out.2.1 HB91.out, rangeW_below HY28.out.2.2.1 HB91.out, rangeW_below (rangeW_blk HY28.out.2.2.2.2.2.2) HB91.out⟩, ?_⟩
        refine' wpAnyH_one 11 (by kernel_rfl) ?_ ?_; rotate_left; (simp only [List.getElem?_toArray, List.getElem?_cons_zero, List.getElem?_cons_succ]; rfl)
        refine wpList_buildSg3 rfl (.tmp 42) (.tmp 49) (.tmp 52) rfl n (.slice so2 67 sc2) (.slice (some ⟨b2, 0, none⟩) 3 3) ⟨_, _, _, rfl⟩ ⟨_, _, _, rfl⟩ rfl rfl rfl ?_
        simp only [Act.put, List.setIfInBounds_toArray, List.set_cons_zero, List.set_cons_succ]
        refine QK.normal ⟨⟨rangeW_below HY28.out.2.1 HB91.out, rangeW_below HY28.out.2.2.1 HB91.out, rangeW_below (rangeW_blk HY28.out.2.2.2.2.2.2) HB91.out⟩, ?_⟩
        refine' wpAnyH_one 13 (by kernel_rfl) ?_ ?_; rotate_left; (simp only [List.getElem?_toArray, List.getElem?_cons_zero, List.getElem?_cons_succ]; rfl)
        refine wpList_store_blk u89 rfl 90 (.tmp 10) (.tmp 53) rfl u29.heap.size 90 (sgC 0 (.slice none 0 0) (.slice none 0 0)) (sgC n (.slice so2 67 sc2) (.slice (some ⟨b2, 0, none⟩) 3 3)) HG94.out rfl rfl rfl (sgC_info _ _ _) (sgC_one _ _ _ _ _ _ _) ?_
        intro u95 hb hc hs
        have HB96 := Lib.hid (show Below b26.heap.size b26 u95 from below_ch HB91.out hc (Nat.le_refl _) (fun k hk => by have e : k = u29.heap.size := hk; omega))
        have HQ97 := Lib.hid (show Blk u95 u29.heap.size 90 (sgC n (.slice so2 67 sc2) (.slice (some ⟨b2, 0, none⟩) 3 3)) ∧ SlD u95 (.slice so2 67 sc2) SG ∧ SlD u95 (.slice (some ⟨b2, 0, none⟩) 3 3) PT from ⟨hb, HT93.out.1.off HT93.out.2 hc (by omega), HT90.out.1.off HT90.out.2 hc (by omega)⟩)
        clear hb hc hs
        try simp only [Act.put, List.setIfInBounds_toArray, List.set_cons_zero, List.set_cons_succ]
        refine QK.normal ⟨⟨rangeW_below HY28.out.2.1 HB96.out, rangeW_below HY28.out.2.2.1 HB96.out, rangeW_below (rangeW_blk HY28.out.2.2.2.2.2.2) HB96.out⟩, ?_⟩
        refine wpAnyH_done (by kernel_rfl) ?_ _
        refine NoPanic.normal ?_
        have HF98 := Lib.hid (show Below w.heap.size w u95 ∧ u95.rangeAt w.heap.size 0 (ofK .u8 x) ∧ u95.rangeAt w.heap.size 32 (ofK .u8 y) ∧ SlD u95 (.slice so 67 sc) SG ∧ SlD u95 (.slice po 3 pc) PT ∧ Blk u95 y17.heap.size 90 (sgC n (.slice so 67 sc) (.slice po 3 pc)) ∧ Blk u95 y23.heap.size 94 (ofK .u8 KK) from ⟨below_thn HY28.out.1 HB96.out (Nat.le_refl _), rangeW_below HY28.out.2.1 HB96.out, rangeW_below HY28.out.2.2.1 HB96.out, HY28.out.2.2.2.1.below HB96.out, HY28.out.2.2.2.2.1.below HB96.out, HY28.out.2.2.2.2.2.1.below HB96.out HY28.out.2.2.2.2.2.1.lt, HY28.out.2.2.2.2.2.2.below HB96.out HY28.out.2.2.2.2.2.2.lt⟩)
        go_wp2_with fail
        go_meet
        case rel => exact ⟨u29.heap.size, so2, sc2, b2, rfl, Lib.hid ⟨HF98.out.1, HF98.out.2.1, HF98.out.2.2.1, HF98.out.2.2.2.1, HF98.out.2.2.2.2.1, HF98.out.2.2.2.2.2.1, HF98.out.2.2.2.2.2.2, HQ97.out.1, HQ97.out.2.1, HQ97.out.2.2⟩⟩
    · skip
      refine wpList_alloc_blk v0 rfl 90 rfl (sgC 0 (.slice none 0 0) (.slice none 0 0)) Try.zeroSg ?_
      intro u99 hb0 hb hsz
      have HB102 := Lib.hid (below_thn HB0.out hb (Nat.le_refl _))
      have hz103 := (hb).size
      have HG100 := Lib.hid hb0
      have hz101 : u99.heap.size = v0.heap.size + 1 := hsz
      clear hb0 hb hsz
      try simp only [Act.put, List.setIfInBounds_toArray, List.set_cons_zero, List.set_cons_succ]
      refine QK.normal ⟨⟨rangeW_below HY28.out.2.1 HB102.out, rangeW_below HY28.out.2.2.1 HB102.out, rangeW_below (rangeW_blk HY28.out.2.2.2.2.2.2) HB102.out⟩, ?_⟩
      refine' wpAnyH_one 4 (by kernel_rfl) ?_ ?_; rotate_left; (simp only [List.getElem?_toArray, List.getElem?_cons_zero, List.getElem?_cons_succ]; rfl)
      try simp only [Act.put]
      go_wp2_with fail
      refine (lseed_any x n u99 HX.out (by omega) (by omega)).mono ?_
      rintro e' u104 ⟨rfl, hb⟩
      have HB105 := Lib.hid (below_thn HB102.out hb (Nat.le_refl _))
      have hz106 := (hb).size
      have HG107 := Lib.hid (HG100.out.below hb HG100.out.lt)
      clear hb
      try simp only [Act.put, List.setIfInBounds_toArray, List.set_cons_zero, List.set_cons_succ]
      try go_wp2_with fail
      refine QK.normal ⟨⟨rangeW_below HY28.out.2.1 HB105.out, rangeW_below HY28.out.2.2.1 HB105.out, rangeW_below (rangeW_blk HY28.out.2.2.2.2.2.2) HB105.out⟩, ?_⟩
      refine' wpAnyH_one 7 (by kernel_rfl) ?_ ?_; rotate_left; (simp only [List.getElem?_toArray, List.getElem?_cons_zero, List.getElem?_cons_succ]; rfl)
      try simp only [Act.put]
      go_wp2_with fail
      have hx := sign_any (leafS x n) y u104 (isD_leafS HX.out n) HY.out
      rw [ESG.out] at hx
      refine Calls.mono hx ?_
      clear hx
      rintro e' u108 ⟨so2, sc2, rfl, hown, hb⟩
      have HB110 := Lib.hid (below_thn HB105.out hb (Nat.le_refl _))
      have hz111 := (hb).size
      have HG112 := Lib.hid (HG107.out.below hb HG107.out.lt)
      have HT109 := Lib.hid (show SlD u108 (.slice so2 67 sc2) SG ∧ Lies (.slice so2 67 sc2) u104.heap.size u108.heap.size from ⟨SlD.of_owns hown DSG.out.1.symm DSG.out.2, fun k hk => hown.lt k hk⟩)
      clear hown hb
      try simp only [Act.put, List.setIfInBounds_toArray, List.set_cons_zero, List.set_cons_succ]
      try go_wp2_with fail
      refine QK.normal ⟨⟨rangeW_below HY28.out.2.1 HB110.out, rangeW_below HY28.out.2.2.1 HB110.out, rangeW_below (rangeW_blk HY28.out.2.2.2.2.2.2) HB110.out⟩, ?_⟩
      refine' wpAnyH_one 10 (by kernel_rfl) ?_ ?_; rotate_left; (simp only [List.getElem?_toArray, List.getElem?_cons_zero, List.getElem?_cons_succ]; rfl)
      try simp only [Act.put]
      go_wp2_with fail
      have hx := path8_any x n u108 HX.out hn8
      rw [EKK.out, EPT.out] at hx
      refine Calls.mono hx ?_
      clear hx
      rintro e' u113 ⟨b2, rfl, hsl, hlo, hhi, hb⟩
      have HB115 := Lib.hid (below_thn HB110.out hb (Nat.le_refl _))
      have hz116 := (hb).size
      have HT117 := Lib.hid (And.intro (HT109.out.1.below hb) HT109.out.2)
      have HG118 := Lib.hid (HG112.out.below hb HG112.out.lt)
      have HT114 := Lib.hid (show SlD u113 (.slice (some ⟨b2, 0, none⟩) 3 3) PT ∧ Lies (.slice (some ⟨b2, 0, none⟩) 3 3) u108.heap.size u113.heap.size from ⟨hsl, fun k hk => by have hk : some b2 = some k := hk; simp only [Option.some.injEq] at hk; omega⟩)
      clear hsl hlo hhi hb
      try simp only [Act.put, List.setIfInBounds_toArray, List.set_cons_zero, List.set_cons_succ]
      try go_wp2_with fail
      refine QK.normal ⟨⟨rangeW_below HY28.out.2.1 HB115.out, rangeW_below HY28.out.2.2.1 HB115.out, rangeW_below (rangeW_blk HY28.out.2.2.2.2.2.2) HB115.out⟩, ?_⟩
      refine' wpAnyH_one 11 (by kernel_rfl) ?_ ?_; rotate_left; (simp only [List.getElem?_toArray, List.getElem?_cons_zero, List.getElem?_cons_succ]; rfl)
      refine wpList_buildSg3 rfl (.tmp 42) (.tmp 49) (.tmp 52) rfl n (.slice so2 67 sc2) (.slice (some ⟨b2, 0, none⟩) 3 3) ⟨_, _, _, rfl⟩ ⟨_, _, _, rfl⟩ rfl rfl rfl ?_
      simp only [Act.put, List.setIfInBounds_toArray, List.set_cons_zero, List.set_cons_succ]
      refine QK.normal ⟨⟨rangeW_below HY28.out.2.1 HB115.out, rangeW_below HY28.out.2.2.1 HB115.out, rangeW_below (rangeW_blk HY28.out.2.2.2.2.2.2) HB115.out⟩, ?_⟩
      refine' wpAnyH_one 13 (by kernel_rfl) ?_ ?_; rotate_left; (simp only [List.getElem?_toArray, List.getElem?_cons_zero, List.getElem?_cons_succ]; rfl)
      refine wpList_store_blk u113 rfl 90 (.tmp 10) (.tmp 53) rfl v0.heap.size 90 (sgC 0 (.slice none 0 0) (.slice none 0 0)) (sgC n (.slice so2 67 sc2) (.slice (some ⟨b2, 0, none⟩) 3 3)) HG118.out rfl rfl rfl (sgC_info _ _ _) (sgC_one _ _ _ _ _ _ _) ?_
      intro u119 hb hc hs
      have HB120 := Lib.hid (show Below b26.heap.size b26 u119 from below_ch HB115.out hc (Nat.le_refl _) (fun k hk => by have e : k = v0.heap.size := hk; omega))
      have HQ121 := Lib.hid (show Blk u119 v0.heap.size 90 (sgC n (.slice so2 67 sc2) (.slice (some ⟨b2, 0, none⟩) 3 3)) ∧ SlD u119 (.slice so2 67 sc2) SG ∧ SlD u119 (.slice (some ⟨b2, 0, none⟩) 3 3) PT from ⟨hb, HT117.out.1.off HT117.out.2 hc (by omega), HT114.out.1.off HT114.out.2 hc (by omega)⟩)
      clear hb hc hs
      try simp only [Act.put, List.setIfInBounds_toArray, List.set_cons_zero, List.set_cons_succ]
      refine QK.normal ⟨⟨rangeW_below HY28.out.2.1 HB120.out, rangeW_below HY28.out.2.2.1 HB120.out, rangeW_below (rangeW_blk HY28.out.2.2.2.2.2.2) HB120.out⟩, ?_⟩
      refine wpAnyH_done (by kernel_rfl) ?_ _
      refine NoPanic.normal ?_
      have HF122 := Lib.hid (show Below w.heap.size w u119 ∧ u119.rangeAt w.heap.size 0 (ofK .u8 x) ∧ u119.rangeAt w.heap.size 32 (ofK .u8 y) ∧ SlD u119 (.slice so 67 sc) SG ∧ SlD u119 (.slice po 3 pc) PT ∧ Blk u119 y17.heap.size 90 (sgC n (.slice so 67 sc) (.slice po 3 pc)) ∧ Blk u119 y23.heap.size 94 (ofK .u8 KK) from ⟨below_thn HY28.out.1 HB120.out (Nat.le_refl _), rangeW_below HY28.out.2.1 HB120.out, rangeW_below HY28.out.2.2.1 HB120.out, HY28.out.2.2.2.1.below HB120.out, HY28.out.2.2.2.2.1.below HB120.out, HY28.out.2.2.2.2.2.1.below HB120.out HY28.out.2.2.2.2.2.1.lt, HY28.out.2.2.2.2.2.2.below HB120.out HY28.out.2.2.2.2.2.2.lt⟩)
      go_wp2_with fail
      go_meet
      case rel => exact ⟨v0.heap.size, so2, sc2, b2, rfl, Lib.hid ⟨HF122.out.1, HF122.out.2.1, HF122.out.2.2.1, HF122.out.2.2.2.1, HF122.out.2.2.2.2.1, HF122.out.2.2.2.2.2.1, HF122.out.2.2.2.2.2.2, HQ121.out.1, HQ121.out.2.1, HQ121.out.2.2⟩⟩
  case rest =>
  obtain ⟨g10, so2, sc2, b2, rfl, HC9⟩ := hcut
  have NIL1 := Lib.hid (show NilC (.slice so2 67 sc2) from fun c h => by simp only [Value.slice.injEq] at h; omega)
  go_wp2_with fail
  refine wp_region_takes (fun w' => w'.rangeAt y17.heap.size 0 (sgC n (.slice so 67 sc) (.slice po 3 pc)) ∧ w'.rangeAt g10 0 (sgC n (.slice so2 67 sc2) (.slice (some ⟨b2, 0, none⟩) 3 3)) ∧ w'.rangeAt y23.heap.size 0 (ofK .u8 KK) ∧ w'.rangeAt w.heap.size 32 (ofK .u8 y)) [0, 1, 2, 3, 4] 12 (by kernel_rfl) rfl (by kernel_rfl) (by kernel_rfl) ⟨rangeW_blk HC9.out.2.2.2.2.2.1, rangeW_blk HC9.out.2.2.2.2.2.2.2.1, rangeW_blk HC9.out.2.2.2.2.2.2.1, HC9.out.2.2.1⟩ ?_
  iterate 5 (refine' HeldL.run ?_ ?_ ?_ ?_; rotate_left 2; (simp only [List.getElem?_toArray, List.getElem?_cons_zero, List.getElem?_cons_succ]; rfl); rfl; (rintro w' ⟨k0, k1, k2, k3⟩; first | exact exec_load_mid rfl rfl k0 Try.underlying90 rfl (sgC_info _ _ _) | exact exec_load_mid rfl rfl k1 Try.underlying90 rfl (sgC_info _ _ _) | exact exec_load_mid rfl rfl k2 Try.underlying94 rfl DKK.out.1 | exact exec_load_mid rfl rfl k3 Try.underlying23 rfl HYI.out | (go_simp; with_reducible rfl)); simp only [Act.put, List.setIfInBounds_toArray, List.set_cons_zero, List.set_cons_succ])
  have sm := (Sm.refl wc).drew
  have HV124 := Lib.hid (show Below w.heap.size w wc.drew ∧ wc.drew.rangeAt w.heap.size 0 (ofK .u8 x) ∧ wc.drew.rangeAt w.heap.size 32 (ofK .u8 y) ∧ SlD wc.drew (.slice so 67 sc) SG ∧ SlD wc.drew (.slice po 3 pc) PT ∧ Blk wc.drew y17.heap.size 90 (sgC n (.slice so 67 sc) (.slice po 3 pc)) ∧ Blk wc.drew y23.heap.size 94 (ofK .u8 KK) ∧ Blk wc.drew g10 90 (sgC n (.slice so2 67 sc2) (.slice (some ⟨b2, 0, none⟩) 3 3)) ∧ SlD wc.drew (.slice so2 67 sc2) SG ∧ SlD wc.drew (.slice (some ⟨b2, 0, none⟩) 3 3) PT from ⟨below_thn HC9.out.1 (sm.below _) (Nat.le_refl _), rangeW_below HC9.out.2.1 (sm.below _), rangeW_below HC9.out.2.2.1 (sm.below _), HC9.out.2.2.2.1.below (sm.below _), HC9.out.2.2.2.2.1.below (sm.below _), HC9.out.2.2.2.2.2.1.below (sm.below _) HC9.out.2.2.2.2.2.1.lt, HC9.out.2.2.2.2.2.2.1.below (sm.below _) HC9.out.2.2.2.2.2.2.1.lt, HC9.out.2.2.2.2.2.2.2.1.below (sm.below _) HC9.out.2.2.2.2.2.2.2.1.lt, HC9.out.2.2.2.2.2.2.2.2.1.below (sm.below _), HC9.out.2.2.2.2.2.2.2.2.2.below (sm.below _)⟩)
  clear sm
  generalize wc.drew = v123 at HV124 ⊢
  refine' wpAnyH_one 5 (by kernel_rfl) ?_ ?_; rotate_left; (simp only [List.getElem?_toArray, List.getElem?_cons_zero, List.getElem?_cons_succ]; rfl)
  try simp only [Act.put]
  go_wp2_with fail
  have hx := same8_any n n so po so2 (some ⟨b2, 0, none⟩) 67 sc 3 pc 67 sc2 3 3 SG PT SG PT v123 HV124.out.2.2.2.1 HV124.out.2.2.2.2.1 HV124.out.2.2.2.2.2.2.2.2.1 HV124.out.2.2.2.2.2.2.2.2.2 DSG.out.2 DPT.out.2 DSG.out.2 DPT.out.2
  rw [decide_eq_true (Eq.refl (n : Int)), decide_eq_true (Eq.refl SG), decide_eq_true (Eq.refl PT), show (true && true && true) = true from rfl] at hx
  refine Calls.mono hx ?_
  clear hx
  rintro e' y125 ⟨rfl, hb⟩
  have HY126 := Lib.hid (show Below w.heap.size w y125 ∧ y125.rangeAt w.heap.size 0 (ofK .u8 x) ∧ y125.rangeAt w.heap.size 32 (ofK .u8 y) ∧ SlD y125 (.slice so 67 sc) SG ∧ SlD y125 (.slice po 3 pc) PT ∧ Blk y125 y17.heap.size 90 (sgC n (.slice so 67 sc) (.slice po 3 pc)) ∧ Blk y125 y23.heap.size 94 (ofK .u8 KK) ∧ Blk y125 g10 90 (sgC n (.slice so2 67 sc2) (.slice (some ⟨b2, 0, none⟩) 3 3)) ∧ SlD y125 (.slice so2 67 sc2) SG ∧ SlD y125 (.slice (some ⟨b2, 0, none⟩) 3 3) PT from ⟨below_thn HV124.out.1 hb (Nat.le_refl _), rangeW_below HV124.out.2.1 hb, rangeW_below HV124.out.2.2.1 hb, HV124.out.2.2.2.1.below hb, HV124.out.2.2.2.2.1.below hb, HV124.out.2.2.2.2.2.1.below hb HV124.out.2.2.2.2.2.1.lt, HV124.out.2.2.2.2.2.2.1.below hb HV124.out.2.2.2.2.2.2.1.lt, HV124.out.2.2.2.2.2.2.2.1.below hb HV124.out.2.2.2.2.2.2.2.1.lt, HV124.out.2.2.2.2.2.2.2.2.1.below hb, HV124.out.2.2.2.2.2.2.2.2.2.below hb⟩)
  clear hb
  go_wp2_with fail
  refine QK.normal ⟨⟨rangeW_blk HY126.out.2.2.2.2.2.1, rangeW_blk HY126.out.2.2.2.2.2.2.2.1, rangeW_blk HY126.out.2.2.2.2.2.2.1, HY126.out.2.2.1⟩, ?_⟩
  refine' wpAnyH_one 6 (by kernel_rfl) ?_ ?_; rotate_left; (simp only [List.getElem?_toArray, List.getElem?_cons_zero, List.getElem?_cons_succ]; rfl)
  try simp only [Act.put]
  go_wp2_with fail
  refine QK.normal ⟨⟨rangeW_blk HY126.out.2.2.2.2.2.1, rangeW_blk HY126.out.2.2.2.2.2.2.2.1, rangeW_blk HY126.out.2.2.2.2.2.2.1, HY126.out.2.2.1⟩, ?_⟩
  refine' wpAnyH_one 7 (by kernel_rfl) ?_ ?_; rotate_left; (simp only [List.getElem?_toArray, List.getElem?_cons_zero, List.getElem?_cons_succ]; rfl)
  try simp only [Act.put]
  go_wp2_with fail
  refine QK.normal ⟨⟨rangeW_blk HY126.out.2.2.2.2.2.1, rangeW_blk HY126.out.2.2.2.2.2.2.2.1, rangeW_blk HY126.out.2.2.2.2.2.2.1, HY126.out.2.2.1⟩, ?_⟩
  refine' wpAnyH_one 8 (by kernel_rfl) ?_ ?_; rotate_left; (simp only [List.getElem?_toArray, List.getElem?_cons_zero, List.getElem?_cons_succ]; rfl)
  try simp only [Act.put]
  go_wp2_with fail
  refine QK.normal ⟨⟨rangeW_blk HY126.out.2.2.2.2.2.1, rangeW_blk HY126.out.2.2.2.2.2.2.2.1, rangeW_blk HY126.out.2.2.2.2.2.2.1, HY126.out.2.2.1⟩, ?_⟩
  refine wpAnyH_takes (fuel := 4) (by kernel_rfl) noPanic_any ⟨rangeW_blk HY126.out.2.2.2.2.2.1, rangeW_blk HY126.out.2.2.2.2.2.2.2.1, rangeW_blk HY126.out.2.2.2.2.2.2.1, HY126.out.2.2.1⟩ [9, 11, 13, 12] _ _ (by kernel_rfl) ?_
  try simp only [Act.put]
  iterate 4 (refine' HeldL.run ?_ ?_ ?_ ?_; rotate_left 2; (simp only [List.getElem?_toArray, List.getElem?_cons_zero, List.getElem?_cons_succ]; rfl); rfl; (rintro w' ⟨k0, k1, k2, k3⟩; first | exact exec_load_mid rfl rfl k0 Try.underlying90 rfl (sgC_info _ _ _) | exact exec_load_mid rfl rfl k1 Try.underlying90 rfl (sgC_info _ _ _) | exact exec_load_mid rfl rfl k2 Try.underlying94 rfl DKK.out.1 | exact exec_load_mid rfl rfl k3 Try.underlying23 rfl HYI.out | (go_simp; with_reducible rfl)); simp only [Act.put, List.setIfInBounds_toArray, List.set_cons_zero, List.set_cons_succ])
  refine' wpAnyH_one 10 (by kernel_rfl) ?_ ?_; rotate_left; (simp only [List.getElem?_toArray, List.getElem?_cons_zero, List.getElem?_cons_succ]; rfl)
  try simp only [Act.put]
  go_wp2_with fail
  have hx := root8_any x y125 HX.out
  rw [EKK.out, ERT.out] at hx
  refine Calls.mono hx ?_
  clear hx
  rintro e' y127 ⟨rfl, hb⟩
  have HY128 := Lib.hid (show Below w.heap.size w y127 ∧ y127.rangeAt w.heap.size 0 (ofK .u8 x) ∧ y127.rangeAt w.heap.size 32 (ofK .u8 y) ∧ SlD y127 (.slice so 67 sc) SG ∧ SlD y127 (.slice po 3 pc) PT ∧ Blk y127 y17.heap.size 90 (sgC n (.slice so 67 sc) (.slice po 3 pc)) ∧ Blk y127 y23.heap.size 94 (ofK .u8 KK) ∧ Blk y127 g10 90 (sgC n (.slice so2 67 sc2) (.slice (some ⟨b2, 0, none⟩) 3 3)) ∧ SlD y127 (.slice so2 67 sc2) SG ∧ SlD y127 (.slice (some ⟨b2, 0, none⟩) 3 3) PT from ⟨below_thn HY126.out.1 hb (Nat.le_refl _), rangeW_below HY126.out.2.1 hb, rangeW_below HY126.out.2.2.1 hb, HY126.out.2.2.2.1.below hb, HY126.out.2.2.2.2.1.below hb, HY126.out.2.2.2.2.2.1.below hb HY126.out.2.2.2.2.2.1.lt, HY126.out.2.2.2.2.2.2.1.below hb HY126.out.2.2.2.2.2.2.1.lt, HY126.out.2.2.2.2.2.2.2.1.below hb HY126.out.2.2.2.2.2.2.2.1.lt, HY126.out.2.2.2.2.2.2.2.2.1.below hb, HY126.out.2.2.2.2.2.2.2.2.2.below hb⟩)
  clear hb
  go_wp2_with fail
  refine QK.normal ⟨⟨rangeW_blk HY128.out.2.2.2.2.2.1, rangeW_blk HY128.out.2.2.2.2.2.2.2.1, rangeW_blk HY128.out.2.2.2.2.2.2.1, HY128.out.2.2.1⟩, ?_⟩
  refine' wpAnyH_one 14 (by kernel_rfl) ?_ ?_; rotate_left; (simp only [List.getElem?_toArray, List.getElem?_cons_zero, List.getElem?_cons_succ]; rfl)
  try simp only [Act.put]
  go_wp2_with fail
  have hx := verify8_any RT y n so2 (some ⟨b2, 0, none⟩) sc2 3 SG PT y127 DRT.out HY.out (by rw [DSG.out.1]; exact HY128.out.2.2.2.2.2.2.2.2.1) (by rw [DPT.out.1]; exact HY128.out.2.2.2.2.2.2.2.2.2) DSG.out.2 DPT.out.2
  rw [DSG.out.1, DPT.out.1, HVT.out] at hx
  refine Calls.mono hx ?_
  clear hx
  rintro e' y129 ⟨rfl, hb⟩
  have HY130 := Lib.hid (show Below w.heap.size w y129 ∧ y129.rangeAt w.heap.size 0 (ofK .u8 x) ∧ y129.rangeAt w.heap.size 32 (ofK .u8 y) ∧ SlD y129 (.slice so 67 sc) SG ∧ SlD y129 (.slice po 3 pc) PT ∧ Blk y129 y17.heap.size 90 (sgC n (.slice so 67 sc) (.slice po 3 pc)) ∧ Blk y129 y23.heap.size 94 (ofK .u8 KK) ∧ Blk y129 g10 90 (sgC n (.slice so2 67 sc2) (.slice (some ⟨b2, 0, none⟩) 3 3)) ∧ SlD y129 (.slice so2 67 sc2) SG ∧ SlD y129 (.slice (some ⟨b2, 0, none⟩) 3 3) PT from ⟨below_thn HY128.out.1 hb (Nat.le_refl _), rangeW_below HY128.out.2.1 hb, rangeW_below HY128.out.2.2.1 hb, HY128.out.2.2.2.1.below hb, HY128.out.2.2.2.2.1.below hb, HY128.out.2.2.2.2.2.1.below hb HY128.out.2.2.2.2.2.1.lt, HY128.out.2.2.2.2.2.2.1.below hb HY128.out.2.2.2.2.2.2.1.lt, HY128.out.2.2.2.2.2.2.2.1.below hb HY128.out.2.2.2.2.2.2.2.1.lt, HY128.out.2.2.2.2.2.2.2.2.1.below hb, HY128.out.2.2.2.2.2.2.2.2.2.below hb⟩)
  clear hb
  go_wp2_with fail
  refine QK.normal ⟨⟨rangeW_blk HY130.out.2.2.2.2.2.1, rangeW_blk HY130.out.2.2.2.2.2.2.2.1, rangeW_blk HY130.out.2.2.2.2.2.2.1, HY130.out.2.2.1⟩, ?_⟩
  refine' wpAnyH_one 15 (by kernel_rfl) ?_ ?_; rotate_left; (simp only [List.getElem?_toArray, List.getElem?_cons_zero, List.getElem?_cons_succ]; rfl)
  try simp only [Act.put]
  go_wp2_with fail
  refine QK.normal ⟨⟨rangeW_blk HY130.out.2.2.2.2.2.1, rangeW_blk HY130.out.2.2.2.2.2.2.2.1, rangeW_blk HY130.out.2.2.2.2.2.2.1, HY130.out.2.2.1⟩, ?_⟩
  refine' wpAnyH_one 16 (by kernel_rfl) ?_ ?_; rotate_left; (simp only [List.getElem?_toArray, List.getElem?_cons_zero, List.getElem?_cons_succ]; rfl)
  try simp only [Act.put]
  go_wp2_with fail
  refine QK.normal ⟨⟨rangeW_blk HY130.out.2.2.2.2.2.1, rangeW_blk HY130.out.2.2.2.2.2.2.2.1, rangeW_blk HY130.out.2.2.2.2.2.2.1, HY130.out.2.2.1⟩, ?_⟩
  refine wpAnyH_done (by kernel_rfl) ?_ _
  refine NoPanic.normal ?_
  have HL131 := Lib.hid (show Below w.heap.size w y129 ∧ y129.rangeAt w.heap.size 32 (ofK .u8 y) ∧ Blk y129 y23.heap.size 94 (ofK .u8 KK) ∧ Blk y129 g10 90 (sgC n (.slice so2 67 sc2) (.slice (some ⟨b2, 0, none⟩) 3 3)) ∧ SlD y129 (.slice so2 67 sc2) SG ∧ SlD y129 (.slice (some ⟨b2, 0, none⟩) 3 3) PT from ⟨HY130.out.1, HY130.out.2.2.1, HY130.out.2.2.2.2.2.2.1, HY130.out.2.2.2.2.2.2.2.1, HY130.out.2.2.2.2.2.2.2.2.1, HY130.out.2.2.2.2.2.2.2.2.2⟩)
  go_wp2_with fail
  go_loopw [73] (fun c wr => ∃ k : Nat, k ≤ nt ∧ k ≤ 4 ∧ c = .int .i64 k ∧ Hid (Below w.heap.size w wr ∧ wr.rangeAt w.heap.size 32 (ofK .u8 y) ∧ Blk wr y23.heap.size 94 (ofK .u8 KK) ∧ Blk wr g10 90 (sgC n (.slice so2 67 sc2) (.slice (some ⟨b2, 0, none⟩) 3 3)) ∧ SlD wr (.slice so2 67 sc2) SG ∧ SlD wr (.slice (some ⟨b2, 0, none⟩) 3 3) PT)) (fun c _ => nt - (intOf c).toNat)
  case atStart => exact ⟨0, Nat.zero_le _, by omega, rfl, HL131⟩
  case round =>
    obtain ⟨k, hk, hk4, rfl, HR⟩ := hrel
    by_cases hlt : k < nt
    rotate_left
    · obtain rfl : k = nt := by omega
      go_wp2_with fail
      go_ret
      exact ⟨rfl, HR.out.1⟩
    have hk32 : (k : Int) < nt := by omega
    have hk0 : (0 : Int) ≤ (k : Int) := by omega
    have hka : k < r.length := by rw [HN.out]; exact hlt
    obtain ⟨ag, ago, rfl, hca⟩ := HV.out.1 (by omega)
    have HCT := Lib.hid (rangeW_below (hca k hka) HR.out.1)
    have hq := HV.out.2 _ (List.getElem_mem hka)
    generalize r[k] = q at HCT hq
    have HQ := Lib.hid hq
    have HQI := Lib.hid (info8 hq.1)
    have HQL := Lib.hid (show (turn8C q).length = zerT8.length by rw [turn8_len hq.1]; rfl)
    clear hca hka hq
    by_cases h4 : k = 4
    · subst h4
      go_wp2_with (first
    | (with_reducible refine wpList_load_any rfl 100 (.tmp 76) rfl ag (ago + 4 * 34) rfl (turn8C q) _ HCT.out Try.underlying100 rfl HQI.out ?_)
    | ((with_reducible refine wpList_alloc_blk wr rfl 100 rfl zerT8 Try.zeroT8 ?_); intro b132 hb hbel hsz; have HB134 := Lib.hid (And.intro hb hbel); clear hb hbel hsz)
    | ((with_reducible refine wpList_store_blk b132 rfl 100 (.tmp 12) (.tmp 77) rfl wr.heap.size 100 zerT8 (turn8C q) HB134.out.1 rfl rfl HQL.out HQI.out (turn8_one q) ?_); intro b133 hb hc hs; have hb3 := below_ch HB134.out.2 hc (Nat.le_refl _) (fun k hk => Nat.le_of_eq (Eq.symm hk)); have HY135 := Lib.hid (show Below w.heap.size w b133 ∧ b133.rangeAt w.heap.size 32 (ofK .u8 y) ∧ Blk b133 y23.heap.size 94 (ofK .u8 KK) ∧ Blk b133 g10 90 (sgC n (.slice so2 67 sc2) (.slice (some ⟨b2, 0, none⟩) 3 3)) ∧ SlD b133 (.slice so2 67 sc2) SG ∧ SlD b133 (.slice (some ⟨b2, 0, none⟩) 3 3) PT ∧ Blk b133 wr.heap.size 100 (turn8C q) from ⟨below_thn HR.out.1 hb3 (Nat.le_refl _), rangeW_below HR.out.2.1 hb3, HR.out.2.2.1.below hb3 HR.out.2.2.1.lt, HR.out.2.2.2.1.below hb3 HR.out.2.2.2.1.lt, HR.out.2.2.2.2.1.below hb3, HR.out.2.2.2.2.2.below hb3, hb⟩); clear hb hc hs hb3 HB134))
      go_ret
      exact ⟨rfl, HY135.out.1⟩
    have hk4' : ((k : Int) == 4) = false := by simp; omega
    have hk3 : k < 4 := by omega
    clear h4
    go_wp2_with (first
    | (with_reducible refine wpList_load_any rfl 100 (.tmp 76) rfl ag (ago + k * 34) rfl (turn8C q) _ HCT.out Try.underlying100 rfl HQI.out ?_)
    | ((with_reducible refine wpList_alloc_blk wr rfl 100 rfl zerT8 Try.zeroT8 ?_); intro b136 hb hbel hsz; have HB138 := Lib.hid (And.intro hb hbel); clear hb hbel hsz)
    | ((with_reducible refine wpList_store_blk b136 rfl 100 (.tmp 12) (.tmp 77) rfl wr.heap.size 100 zerT8 (turn8C q) HB138.out.1 rfl rfl HQL.out HQI.out (turn8_one q) ?_); intro b137 hb hc hs; have hb3 := below_ch HB138.out.2 hc (Nat.le_refl _) (fun k hk => Nat.le_of_eq (Eq.symm hk)); have HY139 := Lib.hid (show Below w.heap.size w b137 ∧ b137.rangeAt w.heap.size 32 (ofK .u8 y) ∧ Blk b137 y23.heap.size 94 (ofK .u8 KK) ∧ Blk b137 g10 90 (sgC n (.slice so2 67 sc2) (.slice (some ⟨b2, 0, none⟩) 3 3)) ∧ SlD b137 (.slice so2 67 sc2) SG ∧ SlD b137 (.slice (some ⟨b2, 0, none⟩) 3 3) PT ∧ Blk b137 wr.heap.size 100 (turn8C q) from ⟨below_thn HR.out.1 hb3 (Nat.le_refl _), rangeW_below HR.out.2.1 hb3, HR.out.2.2.1.below hb3 HR.out.2.2.1.lt, HR.out.2.2.2.1.below hb3 HR.out.2.2.2.1.lt, HR.out.2.2.2.2.1.below hb3, HR.out.2.2.2.2.2.below hb3, hb⟩); clear hb hc hs hb3 HB138)
    | (with_reducible refine wpList_load_any rfl 90 (.tmp 10) rfl g10 0 rfl (sgC n (.slice so2 67 sc2) (.slice (some ⟨b2, 0, none⟩) 3 3)) _ (rangeW_blk HY139.out.2.2.2.1) Try.underlying90 rfl (sgC_info _ _ _) ?_)
    | (with_reducible refine wpList_load_any rfl 23 (.tmp 82) rfl w.heap.size 32 rfl (ofK .u8 y) _ HY139.out.2.1 Try.underlying23 rfl HYI.out ?_)
    | (with_reducible refine wpList_load_any rfl 100 (.tmp 12) rfl wr.heap.size 0 rfl (turn8C q) _ (rangeW_blk HY139.out.2.2.2.2.2.2) Try.underlying100 rfl HQI.out ?_))
    refine (turned8_any n so2 (some ⟨b2, 0, none⟩) sc2 3 SG PT y q b137 HY139.out.2.2.2.2.1 HY139.out.2.2.2.2.2.1 NIL1.out (fun c h => by cases h) DSG.out.2 DPT.out.2 HY.out HQ.out).mono ?_
    rintro e' y140 ⟨n1, o1, c1, o2, c2, C1, P1, m1, rfl, hs1, hs2, hd1, hd2, hd3, hb⟩
    have HY141 := Lib.hid (show Below w.heap.size w y140 ∧ y140.rangeAt w.heap.size 32 (ofK .u8 y) ∧ Blk y140 y23.heap.size 94 (ofK .u8 KK) ∧ Blk y140 g10 90 (sgC n (.slice so2 67 sc2) (.slice (some ⟨b2, 0, none⟩) 3 3)) ∧ SlD y140 (.slice so2 67 sc2) SG ∧ SlD y140 (.slice (some ⟨b2, 0, none⟩) 3 3) PT ∧ SlD y140 (.slice o1 C1.length c1) C1 ∧ SlD y140 (.slice o2 P1.length c2) P1 from ⟨below_thn HY139.out.1 hb (Nat.le_refl _), rangeW_below HY139.out.2.1 hb, HY139.out.2.2.1.below hb HY139.out.2.2.1.lt, HY139.out.2.2.2.1.below hb HY139.out.2.2.2.1.lt, HY139.out.2.2.2.2.1.below hb, HY139.out.2.2.2.2.2.1.below hb, hs1, hs2⟩)
    have HD1 := Lib.hid (And.intro hd1 (And.intro hd2 hd3))
    have HMI := Lib.hid (infoD hd3)
    have HML := Lib.hid (lenD hd3 isD_zer)
    clear hs1 hs2 hb hd1 hd2 hd3
    go_wp2_with (first
    | ((with_reducible refine wpList_alloc_blk y140 rfl 90 rfl (sgC 0 (.slice none 0 0) (.slice none 0 0)) Try.zeroSg ?_); intro b142 hb hbel hsz; have HA1 := Lib.hid (And.intro hb (And.intro hbel hsz)); clear hb hbel hsz)
    | ((with_reducible refine wpList_alloc_blk b142 rfl 23 rfl (ofK .u8 zer32) Try.zeroId ?_); intro b143 hb hbel hsz; have HA2 := Lib.hid (show Blk b143 y140.heap.size 90 (sgC 0 (.slice none 0 0) (.slice none 0 0)) ∧ Blk b143 b142.heap.size 23 (ofK .u8 zer32) ∧ Below y140.heap.size y140 b143 ∧ y140.heap.size < b142.heap.size from ⟨HA1.out.1.below hbel HA1.out.1.lt, hb, below_thn HA1.out.2.1 hbel (Nat.le_refl _), HA1.out.1.lt⟩); clear hb hbel hsz)
    | ((with_reducible refine wpList_store_blk b143 rfl 90 (.tmp 13) (.tmp 86) rfl y140.heap.size 90 (sgC 0 (.slice none 0 0) (.slice none 0 0)) (sgC n1 (.slice o1 C1.length c1) (.slice o2 P1.length c2)) HA2.out.1 rfl rfl rfl (sgC_info _ _ _) (sgC_one _ _ _ _ _ _ _) ?_); intro b144 hb hc hs; have HA3 := Lib.hid (show Blk b144 y140.heap.size 90 (sgC n1 (.slice o1 C1.length c1) (.slice o2 P1.length c2)) ∧ Blk b144 b142.heap.size 23 (ofK .u8 zer32) ∧ Below y140.heap.size y140 b144 from ⟨hb, HA2.out.2.1.keep hc (fun e => by have e : b142.heap.size = y140.heap.size := e; have := HA2.out.2.2.2; omega), below_ch HA2.out.2.2.1 hc (Nat.le_refl _) (fun k hk => Nat.le_of_eq (Eq.symm hk))⟩); clear hb hc hs)
    | ((with_reducible refine wpList_store_blk b144 rfl 23 (.tmp 14) (.tmp 87) rfl b142.heap.size 23 (ofK .u8 zer32) (ofK .u8 m1) HA3.out.2.1 rfl rfl HML.out HMI.out (one_ofK _ _) ?_); intro b145 hb hc hs; have ha := HA3.out.1.keep hc (fun e => by have e : y140.heap.size = b142.heap.size := e; have := HA2.out.2.2.2; omega); have hb4 := below_ch HA3.out.2.2 hc (Nat.le_refl _) (fun k hk => by have e : k = b142.heap.size := hk; have := HA2.out.2.2.2; omega); have HY146 := Lib.hid (show Below w.heap.size w b145 ∧ b145.rangeAt w.heap.size 32 (ofK .u8 y) ∧ Blk b145 y23.heap.size 94 (ofK .u8 KK) ∧ Blk b145 g10 90 (sgC n (.slice so2 67 sc2) (.slice (some ⟨b2, 0, none⟩) 3 3)) ∧ SlD b145 (.slice so2 67 sc2) SG ∧ SlD b145 (.slice (some ⟨b2, 0, none⟩) 3 3) PT ∧ SlD b145 (.slice o1 C1.length c1) C1 ∧ SlD b145 (.slice o2 P1.length c2) P1 ∧ Blk b145 y140.heap.size 90 (sgC n1 (.slice o1 C1.length c1) (.slice o2 P1.length c2)) ∧ Blk b145 b142.heap.size 23 (ofK .u8 m1) from ⟨below_thn HY141.out.1 hb4 (Nat.le_refl _), rangeW_below HY141.out.2.1 hb4, HY141.out.2.2.1.below hb4 HY141.out.2.2.1.lt, HY141.out.2.2.2.1.below hb4 HY141.out.2.2.2.1.lt, HY141.out.2.2.2.2.1.below hb4, HY141.out.2.2.2.2.2.1.below hb4, HY141.out.2.2.2.2.2.2.1.below hb4, HY141.out.2.2.2.2.2.2.2.below hb4, ha, hb⟩); clear hb hc hs ha hb4))
    clear HA1 HA2 HA3
    obtain ⟨vb, hvb⟩ : ∃ b, verM RT m1 n1 C1 P1 = b := ⟨_, rfl⟩
    have EVB := Lib.hid hvb
    clear hvb
    have hnn : (vb != vb) = false := by simp
    go_wp2_with fail
    refine wp_region_takes (fun w' => w'.rangeAt y23.heap.size 0 (ofK .u8 KK) ∧ w'.rangeAt b142.heap.size 0 (ofK .u8 m1) ∧ w'.rangeAt y140.heap.size 0 (sgC n1 (.slice o1 C1.length c1) (.slice o2 P1.length c2))) [0, 2, 3, 5, 7, 8] 5 (by kernel_rfl) rfl (by kernel_rfl) (by kernel_rfl) ⟨rangeW_blk HY146.out.2.2.1, rangeW_blk HY146.out.2.2.2.2.2.2.2.2.2, rangeW_blk HY146.out.2.2.2.2.2.2.2.2.1⟩ ?_
    iterate 6 (refine' HeldL.run ?_ ?_ ?_ ?_; rotate_left 2; (simp only [List.getElem?_toArray, List.getElem?_cons_zero, List.getElem?_cons_succ]; rfl); rfl; (rintro w' ⟨k0, k1, k2⟩; first | exact exec_load_mid rfl rfl k0 Try.underlying94 rfl DKK.out.1 | exact exec_load_mid rfl rfl k1 Try.underlying23 rfl HMI.out | exact exec_load_mid rfl rfl k2 Try.underlying90 rfl (sgC_info _ _ _)); simp only [Act.put, List.setIfInBounds_toArray, List.set_cons_zero, List.set_cons_succ])
    have sm := (Sm.refl b145).drew
    have HV148 := Lib.hid (show Below w.heap.size w b145.drew ∧ b145.drew.rangeAt w.heap.size 32 (ofK .u8 y) ∧ Blk b145.drew y23.heap.size 94 (ofK .u8 KK) ∧ Blk b145.drew g10 90 (sgC n (.slice so2 67 sc2) (.slice (some ⟨b2, 0, none⟩) 3 3)) ∧ SlD b145.drew (.slice so2 67 sc2) SG ∧ SlD b145.drew (.slice (some ⟨b2, 0, none⟩) 3 3) PT ∧ SlD b145.drew (.slice o1 C1.length c1) C1 ∧ SlD b145.drew (.slice o2 P1.length c2) P1 ∧ Blk b145.drew y140.heap.size 90 (sgC n1 (.slice o1 C1.length c1) (.slice o2 P1.length c2)) ∧ Blk b145.drew b142.heap.size 23 (ofK .u8 m1) from ⟨below_thn HY146.out.1 (sm.below _) (Nat.le_refl _), rangeW_below HY146.out.2.1 (sm.below _), HY146.out.2.2.1.below (sm.below _) HY146.out.2.2.1.lt, HY146.out.2.2.2.1.below (sm.below _) HY146.out.2.2.2.1.lt, HY146.out.2.2.2.2.1.below (sm.below _), HY146.out.2.2.2.2.2.1.below (sm.below _), HY146.out.2.2.2.2.2.2.1.below (sm.below _), HY146.out.2.2.2.2.2.2.2.1.below (sm.below _), HY146.out.2.2.2.2.2.2.2.2.1.below (sm.below _) HY146.out.2.2.2.2.2.2.2.2.1.lt, HY146.out.2.2.2.2.2.2.2.2.2.below (sm.below _) HY146.out.2.2.2.2.2.2.2.2.2.lt⟩)
    clear sm
    generalize b145.drew = v147 at HV148 ⊢
    refine' wpAnyH_one 1 (by kernel_rfl) ?_ ?_; rotate_left; (simp only [List.getElem?_toArray, List.getElem?_cons_zero, List.getElem?_cons_succ]; rfl)
    try simp only [Act.put]
    go_wp2_with fail
    have hx := root8_any x v147 HX.out
    rw [EKK.out, ERT.out] at hx
    refine Calls.mono hx ?_
    clear hx
    rintro e' y149 ⟨rfl, hb⟩
    have HY150 := Lib.hid (show Below w.heap.size w y149 ∧ y149.rangeAt w.heap.size 32 (ofK .u8 y) ∧ Blk y149 y23.heap.size 94 (ofK .u8 KK) ∧ Blk y149 g10 90 (sgC n (.slice so2 67 sc2) (.slice (some ⟨b2, 0, none⟩) 3 3)) ∧ SlD y149 (.slice so2 67 sc2) SG ∧ SlD y149 (.slice (some ⟨b2, 0, none⟩) 3 3) PT ∧ SlD y149 (.slice o1 C1.length c1) C1 ∧ SlD y149 (.slice o2 P1.length c2) P1 ∧ Blk y149 y140.heap.size 90 (sgC n1 (.slice o1 C1.length c1) (.slice o2 P1.length c2)) ∧ Blk y149 b142.heap.size 23 (ofK .u8 m1) from ⟨below_thn HV148.out.1 hb (Nat.le_refl _), rangeW_below HV148.out.2.1 hb, HV148.out.2.2.1.below hb HV148.out.2.2.1.lt, HV148.out.2.2.2.1.below hb HV148.out.2.2.2.1.lt, HV148.out.2.2.2.2.1.below hb, HV148.out.2.2.2.2.2.1.below hb, HV148.out.2.2.2.2.2.2.1.below hb, HV148.out.2.2.2.2.2.2.2.1.below hb, HV148.out.2.2.2.2.2.2.2.2.1.below hb HV148.out.2.2.2.2.2.2.2.2.1.lt, HV148.out.2.2.2.2.2.2.2.2.2.below hb HV148.out.2.2.2.2.2.2.2.2.2.lt⟩)
    clear hb
    go_wp2_with fail
    refine QK.normal ⟨⟨rangeW_blk HY150.out.2.2.1, rangeW_blk HY150.out.2.2.2.2.2.2.2.2.2, rangeW_blk HY150.out.2.2.2.2.2.2.2.2.1⟩, ?_⟩
    refine' wpAnyH_one 4 (by kernel_rfl) ?_ ?_; rotate_left; (simp only [List.getElem?_toArray, List.getElem?_cons_zero, List.getElem?_cons_succ]; rfl)
    try simp only [Act.put]
    go_wp2_with fail
    have hx := verify8_any RT m1 n1 o1 o2 c1 c2 C1 P1 y149 DRT.out HD1.out.2.2 HY150.out.2.2.2.2.2.2.1 HY150.out.2.2.2.2.2.2.2.1 HD1.out.1 HD1.out.2.1
    rw [EVB.out] at hx
    refine Calls.mono hx ?_
    clear hx
    rintro e' y151 ⟨rfl, hb⟩
    have HY152 := Lib.hid (show Below w.heap.size w y151 ∧ y151.rangeAt w.heap.size 32 (ofK .u8 y) ∧ Blk y151 y23.heap.size 94 (ofK .u8 KK) ∧ Blk y151 g10 90 (sgC n (.slice so2 67 sc2) (.slice (some ⟨b2, 0, none⟩) 3 3)) ∧ SlD y151 (.slice so2 67 sc2) SG ∧ SlD y151 (.slice (some ⟨b2, 0, none⟩) 3 3) PT ∧ SlD y151 (.slice o1 C1.length c1) C1 ∧ SlD y151 (.slice o2 P1.length c2) P1 ∧ Blk y151 y140.heap.size 90 (sgC n1 (.slice o1 C1.length c1) (.slice o2 P1.length c2)) ∧ Blk y151 b142.heap.size 23 (ofK .u8 m1) from ⟨below_thn HY150.out.1 hb (Nat.le_refl _), rangeW_below HY150.out.2.1 hb, HY150.out.2.2.1.below hb HY150.out.2.2.1.lt, HY150.out.2.2.2.1.below hb HY150.out.2.2.2.1.lt, HY150.out.2.2.2.2.1.below hb, HY150.out.2.2.2.2.2.1.below hb, HY150.out.2.2.2.2.2.2.1.below hb, HY150.out.2.2.2.2.2.2.2.1.below hb, HY150.out.2.2.2.2.2.2.2.2.1.below hb HY150.out.2.2.2.2.2.2.2.2.1.lt, HY150.out.2.2.2.2.2.2.2.2.2.below hb HY150.out.2.2.2.2.2.2.2.2.2.lt⟩)
    clear hb
    go_wp2_with fail
    refine QK.normal ⟨⟨rangeW_blk HY152.out.2.2.1, rangeW_blk HY152.out.2.2.2.2.2.2.2.2.2, rangeW_blk HY152.out.2.2.2.2.2.2.2.2.1⟩, ?_⟩
    refine' wpAnyH_one 6 (by kernel_rfl) ?_ ?_; rotate_left; (simp only [List.getElem?_toArray, List.getElem?_cons_zero, List.getElem?_cons_succ]; rfl)
    try simp only [Act.put]
    go_wp2_with fail
    have hx := root8_any x y151 HX.out
    rw [EKK.out, ERT.out] at hx
    refine Calls.mono hx ?_
    clear hx
    rintro e' y153 ⟨rfl, hb⟩
    have HY154 := Lib.hid (show Below w.heap.size w y153 ∧ y153.rangeAt w.heap.size 32 (ofK .u8 y) ∧ Blk y153 y23.heap.size 94 (ofK .u8 KK) ∧ Blk y153 g10 90 (sgC n (.slice so2 67 sc2) (.slice (some ⟨b2, 0, none⟩) 3 3)) ∧ SlD y153 (.slice so2 67 sc2) SG ∧ SlD y153 (.slice (some ⟨b2, 0, none⟩) 3 3) PT ∧ SlD y153 (.slice o1 C1.length c1) C1 ∧ SlD y153 (.slice o2 P1.length c2) P1 ∧ Blk y153 y140.heap.size 90 (sgC n1 (.slice o1 C1.length c1) (.slice o2 P1.length c2)) ∧ Blk y153 b142.heap.size 23 (ofK .u8 m1) from ⟨below_thn HY152.out.1 hb (Nat.le_refl _), rangeW_below HY152.out.2.1 hb, HY152.out.2.2.1.below hb HY152.out.2.2.1.lt, HY152.out.2.2.2.1.below hb HY152.out.2.2.2.1.lt, HY152.out.2.2.2.2.1.below hb, HY152.out.2.2.2.2.2.1.below hb, HY152.out.2.2.2.2.2.2.1.below hb, HY152.out.2.2.2.2.2.2.2.1.below hb, HY152.out.2.2.2.2.2.2.2.2.1.below hb HY152.out.2.2.2.2.2.2.2.2.1.lt, HY152.out.2.2.2.2.2.2.2.2.2.below hb HY152.out.2.2.2.2.2.2.2.2.2.lt⟩)
    clear hb
    go_wp2_with fail
    refine QK.normal ⟨⟨rangeW_blk HY154.out.2.2.1, rangeW_blk HY154.out.2.2.2.2.2.2.2.2.2, rangeW_blk HY154.out.2.2.2.2.2.2.2.2.1⟩, ?_⟩
    refine' wpAnyH_one 9 (by kernel_rfl) ?_ ?_; rotate_left; (simp only [List.getElem?_toArray, List.getElem?_cons_zero, List.getElem?_cons_succ]; rfl)
    try simp only [Act.put]
    go_wp2_with fail
    have hx := verified8_any RT m1 n1 o1 o2 c1 c2 C1 P1 y153 DRT.out HD1.out.2.2 HY154.out.2.2.2.2.2.2.1 HY154.out.2.2.2.2.2.2.2.1 HD1.out.1 HD1.out.2.1
    rw [EVB.out] at hx
    refine Calls.mono hx ?_
    clear hx
    rintro e' y155 ⟨rfl, hb⟩
    have HY156 := Lib.hid (show Below w.heap.size w y155 ∧ y155.rangeAt w.heap.size 32 (ofK .u8 y) ∧ Blk y155 y23.heap.size 94 (ofK .u8 KK) ∧ Blk y155 g10 90 (sgC n (.slice so2 67 sc2) (.slice (some ⟨b2, 0, none⟩) 3 3)) ∧ SlD y155 (.slice so2 67 sc2) SG ∧ SlD y155 (.slice (some ⟨b2, 0, none⟩) 3 3) PT ∧ SlD y155 (.slice o1 C1.length c1) C1 ∧ SlD y155 (.slice o2 P1.length c2) P1 ∧ Blk y155 y140.heap.size 90 (sgC n1 (.slice o1 C1.length c1) (.slice o2 P1.length c2)) ∧ Blk y155 b142.heap.size 23 (ofK .u8 m1) from ⟨below_thn HY154.out.1 hb (Nat.le_refl _), rangeW_below HY154.out.2.1 hb, HY154.out.2.2.1.below hb HY154.out.2.2.1.lt, HY154.out.2.2.2.1.below hb HY154.out.2.2.2.1.lt, HY154.out.2.2.2.2.1.below hb, HY154.out.2.2.2.2.2.1.below hb, HY154.out.2.2.2.2.2.2.1.below hb, HY154.out.2.2.2.2.2.2.2.1.below hb, HY154.out.2.2.2.2.2.2.2.2.1.below hb HY154.out.2.2.2.2.2.2.2.2.1.lt, HY154.out.2.2.2.2.2.2.2.2.2.below hb HY154.out.2.2.2.2.2.2.2.2.2.lt⟩)
    clear hb
    go_wp2_with fail
    refine QK.normal ⟨⟨rangeW_blk HY156.out.2.2.1, rangeW_blk HY156.out.2.2.2.2.2.2.2.2.2, rangeW_blk HY156.out.2.2.2.2.2.2.2.2.1⟩, ?_⟩
    refine' wpAnyH_one 10 (by kernel_rfl) ?_ ?_; rotate_left; (simp only [List.getElem?_toArray, List.getElem?_cons_zero, List.getElem?_cons_succ]; rfl)
    try simp only [Act.put]
    go_wp2_with fail
    refine QK.normal ⟨⟨rangeW_blk HY156.out.2.2.1, rangeW_blk HY156.out.2.2.2.2.2.2.2.2.2, rangeW_blk HY156.out.2.2.2.2.2.2.2.2.1⟩, ?_⟩
    refine wpAnyH_done (by kernel_rfl) ?_ _
    refine NoPanic.normal ?_
    go_wp2_with fail
    go_roundw
    case rel => exact ⟨k + 1, by omega, by omega, by go_num, Lib.hid ⟨HY156.out.1, HY156.out.2.1, HY156.out.2.2.1, HY156.out.2.2.2.1, HY156.out.2.2.2.2.1, HY156.out.2.2.2.2.2.1⟩⟩
    case measure => simp [intOf]; omega


end Go.Proofs.Ytkbhehnpgnilmaa
