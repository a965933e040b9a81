/-
  Permissions that come in as arguments. Conditions: none.
-/
import Derived.Test.YtampheimonmggaaPmC
import Derived.Test.YtampheimonmggaaFrame
import Derived.Deep.Slices
import Derived.Deep.Grids
import Derived.Deep.Fields
namespace Go.Proofs.Ytampheimonmggaa
open Go Go.RowKit Go.ChangeShapes Go.WideShapes Go.ChangeAt

/-- a nil row has no room -/
def NilC (v : Value) : Prop := ∀ c, v = .slice none 0 c → c = 0

section
variable {H : Type} {enc : TypeId × Value → H} {W : World}
theorem read_ints {t e : TypeId} {fuel : Nat} {c0 : Value} {x : DataW H × List MemPlace} (ht : Try.prog.underlying t = some (.slice e)) (he : Try.prog.underlying e = some (.int .i64)) (hc : Try.prog.cellsOf e = 1)
    (h : DataW.trod enc Try.prog W 0 (fun _ => true) true fuel t [c0] = some x) : ∃ l, Sl W c0 (ofK .i64 l) ∧ ∀ c ∈ l, (Lit.int .i64 c).wf = true := by
  obtain ⟨a, l, c, rfl⟩ : ∃ a l c, c0 = .slice a l c := by
    rcases Deep.open_slice ht h with ⟨hcs, _⟩ | ⟨a, l, c, _, _, _, _, hcs, _⟩
    · simp at hcs; exact ⟨_, _, _, hcs⟩
    · simp at hcs; exact ⟨_, _, _, hcs⟩
  obtain ⟨bs, h1, h2, -⟩ := open_nums (v := .slice a l c) ht he hc ⟨a, l, c, rfl⟩ ⟨fuel, h⟩
  exact ⟨bs, h1, h2⟩
def PmI (p : PmD) : Prop := (-9223372036854775808 ≤ p.o ∧ p.o ≤ 9223372036854775807) ∧ (-9223372036854775808 ≤ p.e ∧ p.e ≤ 9223372036854775807)
theorem read_perm {t b : TypeId} {f0 f1 f2 f3 f4 : Field} {fuel : Nat} {cs : List Value} {x : DataW H × List MemPlace} (hs : Try.prog.underlying t = some (.struct #[f0, f1, f2, f3, f4])) (hone : Deep.oneCellFields Try.prog #[f0, f1, f2, f3, f4] = true) (hC : Try.prog.cellsOf t = 5)
    (u0 : Try.prog.underlying f0.type = some (.int .i64)) (u1 : Try.prog.underlying f1.type = some (.int .i64)) (u2 : Try.prog.underlying f2.type = some (.slice b)) (u3 : Try.prog.underlying f3.type = some (.slice b)) (u4 : Try.prog.underlying f4.type = some (.slice b)) (ub : Try.prog.underlying b = some (.int .i64)) (cb : Try.prog.cellsOf b = 1)
    (h : DataW.trod enc Try.prog W 0 (fun _ => true) true fuel t cs = some x) : ∃ p vr vq vg, cs = pmC p.o p.e vr vq vg ∧ PmS W p vr vq vg ∧ PmI p := by
  obtain ⟨xs, n, _, hx, hlen, hxl, hfd⟩ := DataW.trod_struct hs h
  rw [hC] at hlen
  obtain ⟨v0, v1, v2, v3, v4, rfl⟩ : ∃ v0 v1 v2 v3 v4, cs = [v0, v1, v2, v3, v4] := by
    match cs, hlen with
    | [c0, c1, c2, c3, c4], _ => exact ⟨_, _, _, _, _, rfl⟩
  have hx5 : xs.length = 5 := hxl
  have g0 := hfd 0 f0 rfl
  have g1 := hfd 1 f1 rfl
  have g2 := hfd 2 f2 rfl
  have g3 := hfd 3 f3 rfl
  have g4 := hfd 4 f4 rfl
  obtain ⟨o0, k0⟩ := Deep.hone_of hone 0 f0 rfl
  obtain ⟨o1, k1⟩ := Deep.hone_of hone 1 f1 rfl
  obtain ⟨o2, k2⟩ := Deep.hone_of hone 2 f2 rfl
  obtain ⟨o3, k3⟩ := Deep.hone_of hone 3 f3 rfl
  obtain ⟨o4, k4⟩ := Deep.hone_of hone 4 f4 rfl
  rw [List.getElem?_eq_getElem (by omega)] at g0 g1 g2 g3 g4
  simp only [o0, o1, o2, o3, o4, k0, k1, k2, k3, k4, List.drop_succ_cons, List.drop_zero, List.take_succ_cons, List.take_zero] at g0 g1 g2 g3 g4
  obtain ⟨n0, e0, -, w0⟩ := DataW.trod_int u0 g0
  obtain ⟨n1, e1, -, w1⟩ := DataW.trod_int u1 g1
  obtain ⟨l2, h2, -⟩ := read_ints u2 ub cb g2
  obtain ⟨l3, h3, -⟩ := read_ints u3 ub cb g3
  obtain ⟨l4, h4, -⟩ := read_ints u4 ub cb g4
  simp only [List.cons.injEq, and_true] at e0 e1
  subst e0 e1
  exact ⟨⟨n0, n1, l2, l3, l4⟩, v2, v3, v4, rfl, ⟨h2, h3, h4⟩, wf_i64 w0, wf_i64 w1⟩

/-- a change that is asked -/
structure Act3 where
  k : Int
  b : Int
  n : Int
instance : Inhabited Act3 := ⟨⟨0, 0, 0⟩⟩
def act3C (a : Act3) : List Value := [.int .i64 a.k, .int .i64 a.b, .int .i64 a.n]
def I64 (n : Int) : Prop := -9223372036854775808 ≤ n ∧ n ≤ 9223372036854775807
def Act3Ok (a : Act3) : Prop := I64 a.k ∧ I64 a.b ∧ I64 a.n
theorem read_act3 {t : TypeId} {f0 f1 f2 : Field} {fuel : Nat} {cs : List Value} {x : DataW H × List MemPlace} (hs : Try.prog.underlying t = some (.struct #[f0, f1, f2])) (hone : Deep.oneCellFields Try.prog #[f0, f1, f2] = true) (hC : Try.prog.cellsOf t = 3)
    (u0 : Try.prog.underlying f0.type = some (.int .i64)) (u1 : Try.prog.underlying f1.type = some (.int .i64)) (u2 : Try.prog.underlying f2.type = some (.int .i64))
    (h : DataW.trod enc Try.prog W 0 (fun _ => true) true fuel t cs = some x) : ∃ a, cs = act3C a ∧ Act3Ok a := by
  obtain ⟨xs, n, _, hx, hlen, hxl, hfd⟩ := DataW.trod_struct hs h
  rw [hC] at hlen
  obtain ⟨v0, v1, v2, rfl⟩ : ∃ v0 v1 v2, cs = [v0, v1, v2] := by
    match cs, hlen with
    | [c0, c1, c2], _ => exact ⟨_, _, _, rfl⟩
  have hx3 : xs.length = 3 := hxl
  have g0 := hfd 0 f0 rfl
  have g1 := hfd 1 f1 rfl
  have g2 := hfd 2 f2 rfl
  obtain ⟨o0, k0⟩ := Deep.hone_of hone 0 f0 rfl
  obtain ⟨o1, k1⟩ := Deep.hone_of hone 1 f1 rfl
  obtain ⟨o2, k2⟩ := Deep.hone_of hone 2 f2 rfl
  rw [List.getElem?_eq_getElem (by omega)] at g0 g1 g2
  simp only [o0, o1, o2, k0, k1, k2, List.drop_succ_cons, List.drop_zero, List.take_succ_cons, List.take_zero] at g0 g1 g2
  obtain ⟨n0, e0, -, w0⟩ := DataW.trod_int u0 g0
  obtain ⟨n1, e1, -, w1⟩ := DataW.trod_int u1 g1
  obtain ⟨n2, e2, -, w2⟩ := DataW.trod_int u2 g2
  simp only [List.cons.injEq, and_true] at e0 e1 e2
  subst e0 e1 e2
  exact ⟨⟨n0, n1, n2⟩, rfl, wf_i64 w0, wf_i64 w1, wf_i64 w2⟩

/-- a user, and who is in which group -/
theorem read_asked {t e : TypeId} {f0 f1 g0' g1' : Field} {fuel : Nat} {cs : List Value} {x : DataW H × List MemPlace} (hs : Try.prog.underlying t = some (.struct #[f0, f1])) (hone : Deep.oneCellFields Try.prog #[f0, f1] = true) (hC : Try.prog.cellsOf t = 2)
    (u0 : Try.prog.underlying f0.type = some (.int .i64)) (u1 : Try.prog.underlying f1.type = some (.slice e)) (ue : Try.prog.underlying e = some (.struct #[g0', g1'])) (he : Deep.oneCellFields Try.prog #[g0', g1'] = true) (hCe : Try.prog.cellsOf e = 2) (i0 : Try.prog.underlying g0'.type = some (.int .i64)) (i1 : Try.prog.underlying g1'.type = some (.int .i64))
    (h : DataW.trod enc Try.prog W 0 (fun _ => true) true fuel t cs = some x) : ∃ u v ls, cs = [.int .i64 u, v] ∧ I64 u ∧ SlP W v .i64 .i64 ls := by
  obtain ⟨xs, n, _, hx, hlen, hxl, hfd⟩ := DataW.trod_struct hs h
  rw [hC] at hlen
  obtain ⟨v0, v1, rfl⟩ : ∃ v0 v1, cs = [v0, v1] := by
    match cs, hlen with
    | [c0, c1], _ => exact ⟨_, _, rfl⟩
  have hx2 : xs.length = 2 := hxl
  have g0 := hfd 0 f0 rfl
  have g1 := hfd 1 f1 rfl
  obtain ⟨o0, k0⟩ := Deep.hone_of hone 0 f0 rfl
  obtain ⟨o1, k1⟩ := Deep.hone_of hone 1 f1 rfl
  rw [List.getElem?_eq_getElem (by omega)] at g0 g1
  simp only [o0, o1, k0, k1, List.drop_succ_cons, List.drop_zero, List.take_succ_cons, List.take_zero] at g0 g1
  obtain ⟨n0, e0, -, w0⟩ := DataW.trod_int u0 g0
  simp only [List.cons.injEq, and_true] at e0
  subst e0
  obtain ⟨a, l, c, rfl⟩ : ∃ a l c, v1 = .slice a l c := by
    rcases Deep.open_slice u1 g1 with ⟨hcs, _⟩ | ⟨a, l, c, _, _, _, _, hcs, _⟩
    · simp at hcs; exact ⟨_, _, _, hcs⟩
    · simp at hcs; exact ⟨_, _, _, hcs⟩
  obtain ⟨p0, q0⟩ := Deep.hone_of he 0 g0' rfl
  obtain ⟨p1, q1⟩ := Deep.hone_of he 1 g1' rfl
  obtain ⟨ls, h1, -⟩ := open_pairs (v := .slice a l c) u1 ue hCe p0 p1 q0 q1 i0 i1 ⟨a, l, c, rfl⟩ ⟨n, g1⟩
  exact ⟨n0, _, ls, rfl, wf_i64 w0, h1⟩

/-- a row whose members are of n cells each -/
def SlF {α : Type} (w : World) (v : Value) (n : Nat) (cells : α → List Value) (l : List α) : Prop :=
  ∃ ao c, v = .slice ao l.length c ∧ l.length ≤ c ∧ c ≤ 9223372036854775807 ∧ (0 < l.length → ∃ g o, ao = some ⟨g, o, none⟩ ∧ ∀ k (hk : k < l.length), w.rangeAt g (o + k * n) (cells l[k]))
theorem read_fixed {α : Type} [Inhabited α] {t e : TypeId} {v : Value} {d : DataW H} {p : List MemPlace} (n : Nat) (hn : 0 < n) (cells : α → List Value) (ok : α → Prop) (ht : Try.prog.underlying t = some (.slice e)) (hC : Try.prog.cellsOf e = n)
    (hlen : ∀ a, ok a → (cells a).length = n)
    (hread : ∀ (fuel : Nat) (cs : List Value) (x : DataW H × List MemPlace), DataW.trod enc Try.prog W 0 (fun _ => true) true fuel e cs = some x → ∃ a, cs = cells a ∧ ok a)
    (hv : ∃ a len cap, v = .slice a len cap) (h : DataW.Trod enc Try.prog W 0 (fun _ => true) true t v d p) : ∃ l : List α, SlF W v n cells l ∧ NilC v ∧ ∀ a ∈ l, ok a := by
  obtain ⟨a, len, cap, rfl⟩ := hv
  obtain ⟨fuel, hfu⟩ := h
  rcases Deep.open_slice ht hfu with ⟨hcs, _⟩ | ⟨x, l, c, m, n', D, Pl, hcs, _, hl, hm, hmm, hx, hcell⟩
  · simp [Value.cells] at hcs
    obtain ⟨rfl, rfl, rfl⟩ := hcs
    exact ⟨[], ⟨none, 0, rfl, Nat.le_refl _, by omega, fun h => by simp at h⟩, fun c h => by cases h; rfl, fun y hy => by simp at hy⟩
  · simp [Value.cells] at hcs
    obtain ⟨rfl, rfl, rfl⟩ := hcs
    have hm' : m = cap := by simpa using hmm
    subst hm'
    rw [hC] at hcell
    have each : ∀ i, i < len → ∃ q : α, ok q ∧ W.cells? 0 (x.add (i * n)) n = some (cells q) := by
      intro i hi
      obtain ⟨cs', h1, h2⟩ := hcell i (by omega)
      obtain ⟨a', rfl, hok⟩ := hread _ _ _ h2
      exact ⟨a', hok, h1⟩
    obtain ⟨q, hq⟩ := Deep.choose_lt each
    have hlen' : ((List.range len).map q).length = len := by simp
    refine ⟨(List.range len).map q, ⟨some x, m, by rw [hlen'], by rw [hlen']; exact hl, by unfold maxLen at hm; omega, fun h0 => ?_⟩, (fun c h => by cases h), ?_⟩
    · rw [hlen'] at h0
      obtain ⟨b, o, sp⟩ := x
      have hL := hlen _ (hq 0 h0).1
      have hc0 := (World.cells?_some (hq 0 h0).2).2.2 0 hn
      rw [List.getElem?_eq_getElem (by omega)] at hc0
      have hsp : sp = none := by simpa [Addr.add] using World.cell?_spot hc0
      subst hsp
      refine ⟨b, o, rfl, fun j hj k u hu => ?_⟩
      rw [hlen'] at hj
      simp only [List.getElem_map, List.getElem_range] at hu
      have hk : k < n := by have := (List.getElem?_eq_some_iff.1 hu).1; rwa [hlen _ (hq j hj).1] at this
      have hh := (World.cells?_some (hq j hj).2).2.2 k hk
      rw [add_none, add_none] at hh
      rw [hh]; exact hu
    · intro y hy
      obtain ⟨i, hi, rfl⟩ := List.mem_map.1 hy
      exact (hq i (List.mem_range.1 hi)).1

theorem read_act3s {t e : TypeId} {f0 f1 f2 : Field} {v : Value} {d : DataW H} {p : List MemPlace} (ht : Try.prog.underlying t = some (.slice e)) (hs : Try.prog.underlying e = some (.struct #[f0, f1, f2])) (hone : Deep.oneCellFields Try.prog #[f0, f1, f2] = true) (hC : Try.prog.cellsOf e = 3)
    (u0 : Try.prog.underlying f0.type = some (.int .i64)) (u1 : Try.prog.underlying f1.type = some (.int .i64)) (u2 : Try.prog.underlying f2.type = some (.int .i64))
    (hv : ∃ a len cap, v = .slice a len cap) (h : DataW.Trod enc Try.prog W 0 (fun _ => true) true t v d p) : ∃ l : List Act3, SlF W v 3 act3C l ∧ ∀ a ∈ l, Act3Ok a := by
  obtain ⟨l, h1, -, h3⟩ := read_fixed 3 (by omega) act3C Act3Ok ht hC (fun a _ => rfl) (fun _ _ _ h => read_act3 hs hone hC u0 u1 u2 h) hv h
  exact ⟨l, h1, h3⟩
end

end Go.Proofs.Ytampheimonmggaa
