/-
  Law 11: wakes, walked. Conditions: none.
-/
import Derived.Test.YtampheimonmggaaPmN
namespace Go.Proofs.Ytampheimonmggaa
open Go Go.RowKit Go.Sort
set_option linter.unusedSimpArgs false
set_option linter.unusedVariables false

def pdA : PmD := ⟨1, 1, [], [], []⟩
def pdB : PmD := ⟨1, 1, [3], [3], []⟩
def pdC : PmD := ⟨1, 2, [], [], []⟩
theorem wpList_load_want {P : Program} {ops : Array Oper} {rest : List Oper} {op : Oper} {a : Act} {w : World} {Q : Exit → Act → World → Prop} (hgd : Region.wanted op (yielded ops a.tmps) = true) (ty : TypeId) (x : Operand) (ho : op.op = .load ty x)
    (b o : Nat) (hx : a.eval x = .pointer (some ⟨b, o, none⟩)) (cs : List Value) (d : TypeDesc) (hc : w.rangeAt b o cs)
    (hu : P.underlying ty = some d) (hd : d.isRow = true) (hi : (P.info? ty).map (·.size) = some cs.length)
    (h : wpList P ops Q rest (a.put op.dst (.agg cs.toArray)) w) : wpList P ops Q (op :: rest) a w :=
  wpList_step fun _ hK => by rw [if_pos hgd]; exact wp_load_mid ty x ho b o hx cs d hc hu hd hi (hK _ _ h)

theorem off_abv {g B : Nat} {vr vq vg : Value} (h : AbvS B vr vq vg) (hg : g < B) : Off g vr vq vg := ⟨fun k hk e => by have := h.1 k hk; omega, fun k hk e => by have := h.2.1 k hk; omega, fun k hk e => by have := h.2.2 k hk; omega⟩
theorem wkA : newR 1 = (pdA, 0) := rfl
theorem wkB : turnR pdA (shareR pdA 1 3 true) = (pdB, 0) := rfl
theorem wkC : turnR pdB (backR pdB 1 3) = (pdC, 0) := rfl
theorem wkB3 : mayWB pdB 3 = true := by decide
theorem wkC3 : mayWB pdC 3 = false := by decide
theorem lA : PmL pdA := by unfold PmL pdA; decide
theorem lB : PmL pdB := by unfold PmL pdB; decide
theorem calls_perm {f : FuncId} {args : Array Value} {w : World} {p : PmD} {e : Int} (h : Calls Try.prog f args w (PermP w (p, e))) :
    Calls Try.prog f args w (fun en w' => ∃ vr vq vg, en = .returned (.tuple #[.agg (pmC p.o p.e vr vq vg).toArray, .int .i64 e]) ∧ PmS w' p vr vq vg ∧ Below w.heap.size w w' ∧ AbvS w.heap.size vr vq vg) := h


set_option maxRecDepth 100000 in
set_option maxHeartbeats 4000000 in
theorem wakes11_any (w : World) : Calls Try.prog 7 #[] w (fun e w' => e = .returned (.bool true) ∧ Below w.heap.size w w') := by
  have H0 := Lib.hid (Below.refl w.heap.size w)
  have h1 := new_any 1 w
  rw [wkA] at h1
  have C1 := Lib.hid (calls_perm h1)
  clear h1
  go_enter Try.func7, Try.ntmps7
  go_wp2_with fail
  refine C1.out.mono ?_
  rintro e' y2 ⟨x1r, x1q, x1g, rfl, hs, hb, hab⟩
  obtain ⟨x1a0, x1c0, rfl, -⟩ := hs.1.shape
  obtain ⟨x1a1, x1c1, rfl, -⟩ := hs.2.1.shape
  obtain ⟨x1a2, x1c2, rfl, -⟩ := hs.2.2.shape
  generalize (ofK .i64 pdA.r).length = x1l0 at hs hab ⊢
  generalize (ofK .i64 pdA.q).length = x1l1 at hs hab ⊢
  generalize (ofK .i64 pdA.g).length = x1l2 at hs hab ⊢
  have HY3 := Lib.hid (show Below w.heap.size w y2 ∧ PmS y2 pdA (Value.slice x1a0 x1l0 x1c0) (Value.slice x1a1 x1l1 x1c1) (Value.slice x1a2 x1l2 x1c2) ∧ AbvS w.heap.size (Value.slice x1a0 x1l0 x1c0) (Value.slice x1a1 x1l1 x1c1) (Value.slice x1a2 x1l2 x1c2) from ⟨below_thn H0.out hb (Nat.le_refl _), hs, hab⟩)
  clear hs hb hab
  go_wp2_with (first
    | ((with_reducible refine wpList_alloc_blk y2 rfl 24 rfl (pmC 0 0 (.slice none 0 0) (.slice none 0 0) (.slice none 0 0)) Try.zeroPm ?_); intro a4 hb hbel hsz; have HA6 := Lib.hid (And.intro hb hbel); clear hb hbel hsz)
    | ((with_reducible refine wpList_store_blk a4 rfl 24 (.tmp 1) (.tmp 8) rfl y2.heap.size 24 (pmC 0 0 (.slice none 0 0) (.slice none 0 0) (.slice none 0 0)) (pmC pdA.o pdA.e (Value.slice x1a0 x1l0 x1c0) (Value.slice x1a1 x1l1 x1c1) (Value.slice x1a2 x1l2 x1c2)) HA6.out.1 rfl rfl rfl (pmC_info _ _ _ _ _) (pmC_one _ _ _ _ _ _ _ _ _ _ _) ?_); intro a5 hb hc hs; have hbw : Below y2.heap.size y2 a5 := below_ch HA6.out.2 hc (Nat.le_refl _) (fun k hk => by have e : k = y2.heap.size := hk; omega); have HA7 := Lib.hid (show Below w.heap.size w a5 ∧ PmS a5 pdA (Value.slice x1a0 x1l0 x1c0) (Value.slice x1a1 x1l1 x1c1) (Value.slice x1a2 x1l2 x1c2) ∧ AbvS w.heap.size (Value.slice x1a0 x1l0 x1c0) (Value.slice x1a1 x1l1 x1c1) (Value.slice x1a2 x1l2 x1c2) ∧ Blk a5 y2.heap.size 24 (pmC pdA.o pdA.e (Value.slice x1a0 x1l0 x1c0) (Value.slice x1a1 x1l1 x1c1) (Value.slice x1a2 x1l2 x1c2)) from ⟨below_thn HY3.out.1 hbw (Nat.le_refl _), HY3.out.2.1.below hbw, HY3.out.2.2, hb⟩); clear hb hc hs hbw)
    | (with_reducible refine wpList_load_any rfl 24 (.tmp 1) rfl y2.heap.size 0 rfl (pmC pdA.o pdA.e (Value.slice x1a0 x1l0 x1c0) (Value.slice x1a1 x1l1 x1c1) (Value.slice x1a2 x1l2 x1c2)) _ (rangeW_blk HA7.out.2.2.2) Try.underlying24 rfl (pmC_info _ _ _ _ _) ?_))
  have h1 := share_any pdA 1 3 true _ _ _ a5 HA7.out.2.1 lA
  rw [wkB] at h1
  refine (calls_perm h1).mono ?_
  clear h1
  rintro e' y9 ⟨x8r, x8q, x8g, rfl, hs, hb, hab⟩
  obtain ⟨x8a0, x8c0, rfl, -⟩ := hs.1.shape
  obtain ⟨x8a1, x8c1, rfl, -⟩ := hs.2.1.shape
  obtain ⟨x8a2, x8c2, rfl, -⟩ := hs.2.2.shape
  generalize (ofK .i64 pdB.r).length = x8l0 at hs hab ⊢
  generalize (ofK .i64 pdB.q).length = x8l1 at hs hab ⊢
  generalize (ofK .i64 pdB.g).length = x8l2 at hs hab ⊢
  have HY10 := Lib.hid (show Below w.heap.size w y9 ∧ PmS y9 pdA (Value.slice x1a0 x1l0 x1c0) (Value.slice x1a1 x1l1 x1c1) (Value.slice x1a2 x1l2 x1c2) ∧ AbvS w.heap.size (Value.slice x1a0 x1l0 x1c0) (Value.slice x1a1 x1l1 x1c1) (Value.slice x1a2 x1l2 x1c2) ∧ Blk y9 y2.heap.size 24 (pmC pdA.o pdA.e (Value.slice x1a0 x1l0 x1c0) (Value.slice x1a1 x1l1 x1c1) (Value.slice x1a2 x1l2 x1c2)) ∧ PmS y9 pdB (Value.slice x8a0 x8l0 x8c0) (Value.slice x8a1 x8l1 x8c1) (Value.slice x8a2 x8l2 x8c2) ∧ AbvS a5.heap.size (Value.slice x8a0 x8l0 x8c0) (Value.slice x8a1 x8l1 x8c1) (Value.slice x8a2 x8l2 x8c2) from ⟨below_thn HA7.out.1 hb (Nat.le_refl _), HA7.out.2.1.below hb, HA7.out.2.2.1, HA7.out.2.2.2.below hb HA7.out.2.2.2.lt, hs, hab⟩)
  clear hs hb hab
  have HG := Lib.hid (show Off y2.heap.size (Value.slice x8a0 x8l0 x8c0) (Value.slice x8a1 x8l1 x8c1) (Value.slice x8a2 x8l2 x8c2) from off_abv HY10.out.2.2.2.2.2 HA7.out.2.2.2.lt)
  go_wp2_with (first
    | ((with_reducible refine wpList_store_blk y9 rfl 24 (.tmp 1) (.tmp 13) rfl y2.heap.size 24 (pmC pdA.o pdA.e (Value.slice x1a0 x1l0 x1c0) (Value.slice x1a1 x1l1 x1c1) (Value.slice x1a2 x1l2 x1c2)) (pmC pdB.o pdB.e (Value.slice x8a0 x8l0 x8c0) (Value.slice x8a1 x8l1 x8c1) (Value.slice x8a2 x8l2 x8c2)) HY10.out.2.2.2.1 rfl rfl rfl (pmC_info _ _ _ _ _) (pmC_one _ _ _ _ _ _ _ _ _ _ _) ?_); intro b11 hb hc hs; have HB12 := Lib.hid (show Blk b11 y2.heap.size 24 (pmC pdB.o pdB.e (Value.slice x8a0 x8l0 x8c0) (Value.slice x8a1 x8l1 x8c1) (Value.slice x8a2 x8l2 x8c2)) ∧ PmS b11 pdB (Value.slice x8a0 x8l0 x8c0) (Value.slice x8a1 x8l1 x8c1) (Value.slice x8a2 x8l2 x8c2) ∧ Below w.heap.size w b11 from ⟨hb, HY10.out.2.2.2.2.1.ch hc HG.out, below_ch HY10.out.1 hc (Nat.le_refl _) (fun k hk => by have e : k = y2.heap.size := hk; have := HY3.out.1.size; omega)⟩); clear hb hc hs)
    | (with_reducible refine wpList_load_any rfl 24 (.tmp 1) rfl y2.heap.size 0 rfl (pmC pdB.o pdB.e (Value.slice x8a0 x8l0 x8c0) (Value.slice x8a1 x8l1 x8c1) (Value.slice x8a2 x8l2 x8c2)) _ (rangeW_blk HB12.out.1) Try.underlying24 rfl (pmC_info _ _ _ _ _) ?_))
  have h1 := back_any pdB 1 3 _ _ _ b11 HB12.out.2.1 lB
  rw [wkC] at h1
  refine (calls_perm h1).mono ?_
  clear h1
  rintro e' y14 ⟨x13r, x13q, x13g, rfl, hs, hb, hab⟩
  obtain ⟨x13a0, x13c0, rfl, -⟩ := hs.1.shape
  obtain ⟨x13a1, x13c1, rfl, -⟩ := hs.2.1.shape
  obtain ⟨x13a2, x13c2, rfl, -⟩ := hs.2.2.shape
  generalize (ofK .i64 pdC.r).length = x13l0 at hs hab ⊢
  generalize (ofK .i64 pdC.q).length = x13l1 at hs hab ⊢
  generalize (ofK .i64 pdC.g).length = x13l2 at hs hab ⊢
  have HY15 := Lib.hid (show Blk y14 y2.heap.size 24 (pmC pdB.o pdB.e (Value.slice x8a0 x8l0 x8c0) (Value.slice x8a1 x8l1 x8c1) (Value.slice x8a2 x8l2 x8c2)) ∧ PmS y14 pdB (Value.slice x8a0 x8l0 x8c0) (Value.slice x8a1 x8l1 x8c1) (Value.slice x8a2 x8l2 x8c2) ∧ Below w.heap.size w y14 ∧ PmS y14 pdC (Value.slice x13a0 x13l0 x13c0) (Value.slice x13a1 x13l1 x13c1) (Value.slice x13a2 x13l2 x13c2) ∧ AbvS b11.heap.size (Value.slice x13a0 x13l0 x13c0) (Value.slice x13a1 x13l1 x13c1) (Value.slice x13a2 x13l2 x13c2) from ⟨HB12.out.1.below hb HB12.out.1.lt, HB12.out.2.1.below hb, below_thn HB12.out.2.2 hb (Nat.le_refl _), hs, hab⟩)
  clear hs hb hab
  go_wp2_with (first
    | ((with_reducible refine wpList_alloc_blk y14 rfl 24 rfl (pmC 0 0 (.slice none 0 0) (.slice none 0 0) (.slice none 0 0)) Try.zeroPm ?_); intro a16 hb hbel hsz; have HA18 := Lib.hid (And.intro hb hbel); clear hb hbel hsz)
    | ((with_reducible refine wpList_store_blk a16 rfl 24 (.tmp 4) (.tmp 18) rfl y14.heap.size 24 (pmC 0 0 (.slice none 0 0) (.slice none 0 0) (.slice none 0 0)) (pmC pdC.o pdC.e (Value.slice x13a0 x13l0 x13c0) (Value.slice x13a1 x13l1 x13c1) (Value.slice x13a2 x13l2 x13c2)) HA18.out.1 rfl rfl rfl (pmC_info _ _ _ _ _) (pmC_one _ _ _ _ _ _ _ _ _ _ _) ?_); intro a17 hb hc hs; have hbw : Below y14.heap.size y14 a17 := below_ch HA18.out.2 hc (Nat.le_refl _) (fun k hk => by have e : k = y14.heap.size := hk; omega); have HA19 := Lib.hid (show Blk a17 y2.heap.size 24 (pmC pdB.o pdB.e (Value.slice x8a0 x8l0 x8c0) (Value.slice x8a1 x8l1 x8c1) (Value.slice x8a2 x8l2 x8c2)) ∧ PmS a17 pdB (Value.slice x8a0 x8l0 x8c0) (Value.slice x8a1 x8l1 x8c1) (Value.slice x8a2 x8l2 x8c2) ∧ Below w.heap.size w a17 ∧ PmS a17 pdC (Value.slice x13a0 x13l0 x13c0) (Value.slice x13a1 x13l1 x13c1) (Value.slice x13a2 x13l2 x13c2) ∧ AbvS b11.heap.size (Value.slice x13a0 x13l0 x13c0) (Value.slice x13a1 x13l1 x13c1) (Value.slice x13a2 x13l2 x13c2) ∧ Blk a17 y14.heap.size 24 (pmC pdC.o pdC.e (Value.slice x13a0 x13l0 x13c0) (Value.slice x13a1 x13l1 x13c1) (Value.slice x13a2 x13l2 x13c2)) from ⟨HY15.out.1.below hbw HY15.out.1.lt, HY15.out.2.1.below hbw, below_thn HY15.out.2.2.1 hbw (Nat.le_refl _), HY15.out.2.2.2.1.below hbw, HY15.out.2.2.2.2, hb⟩); clear hb hc hs hbw)
    | ((with_reducible refine wpList_load_want ?_ 24 (.tmp 1) rfl y2.heap.size 0 rfl (pmC pdB.o pdB.e (Value.slice x8a0 x8l0 x8c0) (Value.slice x8a1 x8l1 x8c1) (Value.slice x8a2 x8l2 x8c2)) _ (rangeW_blk HA19.out.1) Try.underlying24 rfl (pmC_info _ _ _ _ _) ?_); focus rfl))
  have h1 := mayWrite_any pdB 3 _ _ _ a17 HA19.out.2.1
  rw [wkB3] at h1
  refine Calls.mono h1 ?_
  clear h1
  rintro e' y7 ⟨rfl, hb⟩
  have HY7 := Lib.hid (show Blk y7 y2.heap.size 24 (pmC pdB.o pdB.e (Value.slice x8a0 x8l0 x8c0) (Value.slice x8a1 x8l1 x8c1) (Value.slice x8a2 x8l2 x8c2)) ∧ PmS y7 pdB (Value.slice x8a0 x8l0 x8c0) (Value.slice x8a1 x8l1 x8c1) (Value.slice x8a2 x8l2 x8c2) ∧ Below w.heap.size w y7 ∧ PmS y7 pdC (Value.slice x13a0 x13l0 x13c0) (Value.slice x13a1 x13l1 x13c1) (Value.slice x13a2 x13l2 x13c2) ∧ AbvS b11.heap.size (Value.slice x13a0 x13l0 x13c0) (Value.slice x13a1 x13l1 x13c1) (Value.slice x13a2 x13l2 x13c2) ∧ Blk y7 y14.heap.size 24 (pmC pdC.o pdC.e (Value.slice x13a0 x13l0 x13c0) (Value.slice x13a1 x13l1 x13c1) (Value.slice x13a2 x13l2 x13c2)) from ⟨HA19.out.1.below hb HA19.out.1.lt, HA19.out.2.1.below hb, below_thn HA19.out.2.2.1 hb (Nat.le_refl _), HA19.out.2.2.2.1.below hb, HA19.out.2.2.2.2.1, HA19.out.2.2.2.2.2.below hb HA19.out.2.2.2.2.2.lt⟩)
  clear hb
  go_wp2_with ((with_reducible refine wpList_load_want ?_ 24 (.tmp 4) rfl y14.heap.size 0 rfl (pmC pdC.o pdC.e (Value.slice x13a0 x13l0 x13c0) (Value.slice x13a1 x13l1 x13c1) (Value.slice x13a2 x13l2 x13c2)) _ (rangeW_blk HY7.out.2.2.2.2.2) Try.underlying24 rfl (pmC_info _ _ _ _ _) ?_); focus rfl)
  have h1 := mayWrite_any pdC 3 _ _ _ y7 HY7.out.2.2.2.1
  rw [wkC3] at h1
  refine Calls.mono h1 ?_
  clear h1
  rintro e' y8 ⟨rfl, hb⟩
  have HY8 := Lib.hid (show Blk y8 y2.heap.size 24 (pmC pdB.o pdB.e (Value.slice x8a0 x8l0 x8c0) (Value.slice x8a1 x8l1 x8c1) (Value.slice x8a2 x8l2 x8c2)) ∧ PmS y8 pdB (Value.slice x8a0 x8l0 x8c0) (Value.slice x8a1 x8l1 x8c1) (Value.slice x8a2 x8l2 x8c2) ∧ Below w.heap.size w y8 ∧ PmS y8 pdC (Value.slice x13a0 x13l0 x13c0) (Value.slice x13a1 x13l1 x13c1) (Value.slice x13a2 x13l2 x13c2) ∧ AbvS b11.heap.size (Value.slice x13a0 x13l0 x13c0) (Value.slice x13a1 x13l1 x13c1) (Value.slice x13a2 x13l2 x13c2) ∧ Blk y8 y14.heap.size 24 (pmC pdC.o pdC.e (Value.slice x13a0 x13l0 x13c0) (Value.slice x13a1 x13l1 x13c1) (Value.slice x13a2 x13l2 x13c2)) from ⟨HY7.out.1.below hb HY7.out.1.lt, HY7.out.2.1.below hb, below_thn HY7.out.2.2.1 hb (Nat.le_refl _), HY7.out.2.2.2.1.below hb, HY7.out.2.2.2.2.1, HY7.out.2.2.2.2.2.below hb HY7.out.2.2.2.2.2.lt⟩)
  clear hb
  have c1 : y8.cell? ⟨y14.heap.size, 1, none⟩ = some (.int .i64 2) := HY8.out.2.2.2.2.2.cell 1
  go_wp2_with fail
  go_ret
  exact ⟨rfl, HY8.out.2.2.1⟩

end Go.Proofs.Ytampheimonmggaa
