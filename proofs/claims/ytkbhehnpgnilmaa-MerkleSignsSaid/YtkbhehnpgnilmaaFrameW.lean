/-
  Rows of digests, of walks and of turns that come in. Conditions: none.
-/
import Derived.Test.YtkbhehnpgnilmaaEqA
import Derived.Test.YtkbhehnpgnilmaaWtN
import Derived.Deep.Slices
import Derived.Deep.Grids
import Derived.Deep.Fields
namespace Go.Proofs.Ytkbhehnpgnilmaa
open Go Go.RowKit Go.ChangeShapes Go.WideShapes Go.ChangeAt

/-- a row whose members are of n cells each -/
def SlF {α : Type} (w : World) (v : Value) (n : Nat) (cells : α → List Value) (l : List α) : Prop :=
  ∃ ao c, v = .slice ao l.length c ∧ l.length ≤ c ∧ c ≤ 9223372036854775807 ∧ (0 < l.length → ∃ g o, ao = some ⟨g, o, none⟩ ∧ ∀ k (hk : k < l.length), w.rangeAt g (o + k * n) (cells l[k]))

section
variable {H : Type} {enc : TypeId × Value → H} {W : World}

theorem read_arrK {t e : TypeId} {k : IntKind} {n fuel : Nat} {cs : List Value} {x : DataW H × List MemPlace} (ht : Try.prog.underlying t = some (.array n e)) (he : Try.prog.underlying e = some (.int k)) (hc : Try.prog.cellsOf e = 1) (hct : Try.prog.cellsOf t = n)
    (h : DataW.trod enc Try.prog W 0 (fun _ => true) true fuel t cs = some x) : ∃ bs : List Int, cs = ofK k bs ∧ bs.length = n ∧ ∀ c ∈ bs, (Lit.int k c).wf = true := by
  obtain ⟨xs, m, _, hx, hl, hxl, hall⟩ := DataW.trod_array ht h
  have hcs : cs.length = n := by rw [hl, hct]
  have each : ∀ i, i < n → ∃ z : Int, cs[i]? = some (.int k z) ∧ (Lit.int k z).wf = true := by
    intro i hi
    have h3 := hall i hi
    rw [hc, Nat.mul_one, List.getElem?_eq_getElem (by omega)] at h3
    have hd1 : (cs.drop i).take 1 = [cs[i]'(by omega)] := by
      rw [List.drop_eq_getElem_cons (by omega)]; rfl
    rw [hd1] at h3
    obtain ⟨z, e1, _, hw⟩ := DataW.trod_int he h3
    simp only [List.cons.injEq, and_true] at e1
    exact ⟨z, by rw [List.getElem?_eq_getElem (by omega), e1], hw⟩
  obtain ⟨q, hq⟩ := Deep.choose_lt each
  refine ⟨(List.range n).map q, ?_, by simp, fun c hc' => ?_⟩
  · apply List.ext_getElem?
    intro i
    by_cases hi : i < n
    · rw [(hq i hi).1]; simp [ofK, hi]
    · rw [List.getElem?_eq_none (Nat.le_trans (Nat.le_of_eq hcs) (Nat.le_of_not_lt hi)), List.getElem?_eq_none (by rw [length_ofK, List.length_map, List.length_range]; exact Nat.le_of_not_lt hi)]
  · obtain ⟨i, hi, rfl⟩ := List.mem_map.1 hc'
    exact (hq i (List.mem_range.1 hi)).2

theorem read_id {t e : TypeId} {fuel : Nat} {cs : List Value} {x : DataW H × List MemPlace} (ht : Try.prog.underlying t = some (.array 32 e)) (he : Try.prog.underlying e = some (.int .u8)) (hc : Try.prog.cellsOf e = 1) (hct : Try.prog.cellsOf t = 32)
    (h : DataW.trod enc Try.prog W 0 (fun _ => true) true fuel t cs = some x) : ∃ bs : List Int, cs = ofK .u8 bs ∧ IsD bs := by
  obtain ⟨bs, h1, h2, h3⟩ := read_arrK ht he hc hct h
  exact ⟨bs, h1, h2, fun c hc => wf_u8 (h3 c hc)⟩

theorem read_fixed {α : Type} [Inhabited α] {t e : TypeId} {v : Value} {d : DataW H} {p : List MemPlace} (n : Nat) (hn : 0 < n) (cells : α → List Value) (ok : α → Prop) (ht : Try.prog.underlying t = some (.slice e)) (hC : Try.prog.cellsOf e = n)
    (hlen : ∀ a, ok a → (cells a).length = n)
    (hread : ∀ (fuel : Nat) (cs : List Value) (x : DataW H × List MemPlace), DataW.trod enc Try.prog W 0 (fun _ => true) true fuel e cs = some x → ∃ a, cs = cells a ∧ ok a)
    (hv : ∃ a len cap, v = .slice a len cap) (h : DataW.Trod enc Try.prog W 0 (fun _ => true) true t v d p) : ∃ l : List α, SlF W v n cells l ∧ NilC v ∧ ∀ a ∈ l, ok a := by
  obtain ⟨a, len, cap, rfl⟩ := hv
  obtain ⟨fuel, hfu⟩ := h
  rcases Deep.open_slice ht hfu with ⟨hcs, _⟩ | ⟨x, l, c, m, n', D, Pl, hcs, _, hl, hm, hmm, hx, hcell⟩
  · simp [Value.cells] at hcs
    obtain ⟨rfl, rfl, rfl⟩ := hcs
    exact ⟨[], ⟨none, 0, rfl, Nat.le_refl _, by omega, fun h => by simp at h⟩, fun c h => by cases h; rfl, fun y hy => by simp at hy⟩
  · simp [Value.cells] at hcs
    obtain ⟨rfl, rfl, rfl⟩ := hcs
    have hm' : m = cap := by simpa using hmm
    subst hm'
    rw [hC] at hcell
    have each : ∀ i, i < len → ∃ q : α, ok q ∧ W.cells? 0 (x.add (i * n)) n = some (cells q) := by
      intro i hi
      obtain ⟨cs', h1, h2⟩ := hcell i (by omega)
      obtain ⟨a', rfl, hok⟩ := hread _ _ _ h2
      exact ⟨a', hok, h1⟩
    obtain ⟨q, hq⟩ := Deep.choose_lt each
    have hlen' : ((List.range len).map q).length = len := by simp
    refine ⟨(List.range len).map q, ⟨some x, m, by rw [hlen'], by rw [hlen']; exact hl, by unfold maxLen at hm; omega, fun h0 => ?_⟩, (fun c h => by cases h), ?_⟩
    · rw [hlen'] at h0
      obtain ⟨b, o, sp⟩ := x
      have hL := hlen _ (hq 0 h0).1
      have hc0 := (World.cells?_some (hq 0 h0).2).2.2 0 hn
      rw [List.getElem?_eq_getElem (by omega)] at hc0
      have hsp : sp = none := by simpa [Addr.add] using World.cell?_spot hc0
      subst hsp
      refine ⟨b, o, rfl, fun j hj k u hu => ?_⟩
      rw [hlen'] at hj
      simp only [List.getElem_map, List.getElem_range] at hu
      have hk : k < n := by have := (List.getElem?_eq_some_iff.1 hu).1; rwa [hlen _ (hq j hj).1] at this
      have hh := (World.cells?_some (hq j hj).2).2.2 k hk
      rw [add_none, add_none] at hh
      rw [hh]; exact hu
    · intro y hy
      obtain ⟨i, hi, rfl⟩ := List.mem_map.1 hy
      exact (hq i (List.mem_range.1 hi)).1

/-- a row of digests that came in -/
theorem read_ids {t e b : TypeId} {v : Value} {d : DataW H} {p : List MemPlace} (ht : Try.prog.underlying t = some (.slice e)) (he : Try.prog.underlying e = some (.array 32 b)) (hb : Try.prog.underlying b = some (.int .u8)) (hcb : Try.prog.cellsOf b = 1) (hC : Try.prog.cellsOf e = 32)
    (hv : ∃ a len cap, v = .slice a len cap) (h : DataW.Trod enc Try.prog W 0 (fun _ => true) true t v d p) : ∃ l : List (List Int), SlD W v l ∧ NilC v ∧ ∀ a ∈ l, IsD a :=
  read_fixed 32 (by omega) (ofK .u8) IsD ht hC (fun a h => by rw [length_ofK, h.1]) (fun _ _ _ h => read_id he hb hcb hC h) hv h

/-- what is asked of a chain -/
structure WalkD where
  x : List Int
  c : Int
  a : Int
  b : Int
instance : Inhabited WalkD := ⟨⟨[], 0, 0, 0⟩⟩
def walkC (q : WalkD) : List Value := ofK .u8 q.x ++ [.int .i64 q.c, .int .i64 q.a, .int .i64 q.b]
def I64 (n : Int) : Prop := -9223372036854775808 ≤ n ∧ n ≤ 9223372036854775807
def WalkOk (q : WalkD) : Prop := IsD q.x ∧ I64 q.c ∧ I64 q.a ∧ I64 q.b
theorem read_walk {t b : TypeId} {f0 f1 f2 f3 : Field} {fuel : Nat} {cs : List Value} {x : DataW H × List MemPlace} (hs : Try.prog.underlying t = some (.struct #[f0, f1, f2, f3])) (hC : Try.prog.cellsOf t = 35)
    (o0 : f0.offset = 0) (o1 : f1.offset = 32) (o2 : f2.offset = 33) (o3 : f3.offset = 34) (c0 : Try.prog.cellsOf f0.type = 32) (c1 : Try.prog.cellsOf f1.type = 1) (c2 : Try.prog.cellsOf f2.type = 1) (c3 : Try.prog.cellsOf f3.type = 1)
    (u0 : Try.prog.underlying f0.type = some (.array 32 b)) (ub : Try.prog.underlying b = some (.int .u8)) (cb : Try.prog.cellsOf b = 1) (u1 : Try.prog.underlying f1.type = some (.int .i64)) (u2 : Try.prog.underlying f2.type = some (.int .i64)) (u3 : Try.prog.underlying f3.type = some (.int .i64))
    (h : DataW.trod enc Try.prog W 0 (fun _ => true) true fuel t cs = some x) : ∃ q, cs = walkC q ∧ WalkOk q := by
  obtain ⟨xs, n, _, hx, hlen, hxl, hfd⟩ := DataW.trod_struct hs h
  rw [hC] at hlen
  obtain ⟨A, v1, v2, v3, rfl, hA⟩ : ∃ A v1 v2 v3, cs = A ++ [v1, v2, v3] ∧ A.length = 32 := by
    have hd : (cs.drop 32).length = 3 := by rw [List.length_drop, hlen]
    match hq : cs.drop 32, hd with
    | [p, q, r], _ => exact ⟨cs.take 32, p, q, r, by rw [← hq, List.take_append_drop], by rw [List.length_take, hlen]; rfl⟩
  have hx4 : xs.length = 4 := hxl
  have g0 := hfd 0 f0 rfl
  have g1 := hfd 1 f1 rfl
  have g2 := hfd 2 f2 rfl
  have g3 := hfd 3 f3 rfl
  rw [List.getElem?_eq_getElem (by omega)] at g0 g1 g2 g3
  rw [o0, c0, List.drop_zero, List.take_left' hA] at g0
  rw [o1, c1, List.drop_left' hA] at g1
  rw [o2, c2, List.drop_append, hA, List.drop_of_length_le (by omega)] at g2
  rw [o3, c3, List.drop_append, hA, List.drop_of_length_le (by omega)] at g3
  obtain ⟨y, rfl, hy⟩ := read_id u0 ub cb c0 g0
  obtain ⟨n1, e1, -, w1⟩ := DataW.trod_int u1 g1
  obtain ⟨n2, e2, -, w2⟩ := DataW.trod_int u2 g2
  obtain ⟨n3, e3, -, w3⟩ := DataW.trod_int u3 g3
  simp at e1 e2 e3
  subst e1 e2 e3
  exact ⟨⟨y, n1, n2, n3⟩, rfl, hy, wf_i64 w1, wf_i64 w2, wf_i64 w3⟩
theorem read_walks {t e b : TypeId} {f0 f1 f2 f3 : Field} {v : Value} {d : DataW H} {p : List MemPlace} (ht : Try.prog.underlying t = some (.slice e)) (hs : Try.prog.underlying e = some (.struct #[f0, f1, f2, f3])) (hC : Try.prog.cellsOf e = 35)
    (o0 : f0.offset = 0) (o1 : f1.offset = 32) (o2 : f2.offset = 33) (o3 : f3.offset = 34) (c0 : Try.prog.cellsOf f0.type = 32) (c1 : Try.prog.cellsOf f1.type = 1) (c2 : Try.prog.cellsOf f2.type = 1) (c3 : Try.prog.cellsOf f3.type = 1)
    (u0 : Try.prog.underlying f0.type = some (.array 32 b)) (ub : Try.prog.underlying b = some (.int .u8)) (cb : Try.prog.cellsOf b = 1) (u1 : Try.prog.underlying f1.type = some (.int .i64)) (u2 : Try.prog.underlying f2.type = some (.int .i64)) (u3 : Try.prog.underlying f3.type = some (.int .i64))
    (hv : ∃ a len cap, v = .slice a len cap) (h : DataW.Trod enc Try.prog W 0 (fun _ => true) true t v d p) : ∃ l : List WalkD, SlF W v 35 walkC l ∧ NilC v ∧ ∀ a ∈ l, WalkOk a :=
  read_fixed 35 (by omega) walkC WalkOk ht hC (fun a h => by unfold walkC; rw [List.length_append, length_ofK, h.1.1]; rfl) (fun _ _ _ h => read_walk hs hC o0 o1 o2 o3 c0 c1 c2 c3 u0 ub cb u1 u2 u3 h) hv h

/-- a digest of a signature that is another one -/
structure TurnD where
  i : Int
  y : List Int
instance : Inhabited TurnD := ⟨⟨0, []⟩⟩
def turnC (q : TurnD) : List Value := .int .i64 q.i :: ofK .u8 q.y
def TurnOk (q : TurnD) : Prop := I64 q.i ∧ IsD q.y
theorem read_turn {t b : TypeId} {f0 f1 : Field} {fuel : Nat} {cs : List Value} {x : DataW H × List MemPlace} (hs : Try.prog.underlying t = some (.struct #[f0, f1])) (hC : Try.prog.cellsOf t = 33)
    (o0 : f0.offset = 0) (o1 : f1.offset = 1) (c0 : Try.prog.cellsOf f0.type = 1) (c1 : Try.prog.cellsOf f1.type = 32) (u0 : Try.prog.underlying f0.type = some (.int .i64)) (u1 : Try.prog.underlying f1.type = some (.array 32 b)) (ub : Try.prog.underlying b = some (.int .u8)) (cb : Try.prog.cellsOf b = 1)
    (h : DataW.trod enc Try.prog W 0 (fun _ => true) true fuel t cs = some x) : ∃ q, cs = turnC q ∧ TurnOk q := by
  obtain ⟨xs, n, _, hx, hlen, hxl, hfd⟩ := DataW.trod_struct hs h
  rw [hC] at hlen
  obtain ⟨v1, A, rfl⟩ : ∃ v1 A, cs = v1 :: A := by
    cases cs with
    | nil => exact absurd hlen (by decide)
    | cons a l => exact ⟨a, l, rfl⟩
  have hA : A.length = 32 := by simpa using hlen
  have hx2 : xs.length = 2 := hxl
  have g0 := hfd 0 f0 rfl
  have g1 := hfd 1 f1 rfl
  rw [List.getElem?_eq_getElem (by omega)] at g0 g1
  rw [o0, c0] at g0
  rw [o1, c1, List.drop_succ_cons, List.drop_zero, List.take_of_length_le (by omega)] at g1
  obtain ⟨n0, e0, -, w0⟩ := DataW.trod_int u0 g0
  obtain ⟨y, rfl, hy⟩ := read_id u1 ub cb c1 g1
  simp at e0
  subst e0
  exact ⟨⟨n0, y⟩, rfl, wf_i64 w0, hy⟩
theorem read_turns {t e b : TypeId} {f0 f1 : Field} {v : Value} {d : DataW H} {p : List MemPlace} (ht : Try.prog.underlying t = some (.slice e)) (hs : Try.prog.underlying e = some (.struct #[f0, f1])) (hC : Try.prog.cellsOf e = 33)
    (o0 : f0.offset = 0) (o1 : f1.offset = 1) (c0 : Try.prog.cellsOf f0.type = 1) (c1 : Try.prog.cellsOf f1.type = 32) (u0 : Try.prog.underlying f0.type = some (.int .i64)) (u1 : Try.prog.underlying f1.type = some (.array 32 b)) (ub : Try.prog.underlying b = some (.int .u8)) (cb : Try.prog.cellsOf b = 1)
    (hv : ∃ a len cap, v = .slice a len cap) (h : DataW.Trod enc Try.prog W 0 (fun _ => true) true t v d p) : ∃ l : List TurnD, SlF W v 33 turnC l ∧ NilC v ∧ ∀ a ∈ l, TurnOk a :=
  read_fixed 33 (by omega) turnC TurnOk ht hC (fun a h => by unfold turnC; rw [List.length_cons, length_ofK, h.2.1]) (fun _ _ _ h => read_turn hs hC o0 o1 c0 c1 u0 u1 ub cb h) hv h
end

end Go.Proofs.Ytkbhehnpgnilmaa
