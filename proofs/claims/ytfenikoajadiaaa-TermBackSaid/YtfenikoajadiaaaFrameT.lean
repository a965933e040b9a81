/-
  Terms that come in as arguments. Conditions: none.
-/
import Derived.Test.YtfenikoajadiaaaTmA
import Derived.Test.YtfenikoajadiaaaFrame
import Derived.Deep.Slices
import Derived.Deep.Grids
import Derived.Deep.Fields
namespace Go.Proofs.Ytfenikoajadiaaa
open Go Go.RowKit Go.ChangeShapes Go.WideShapes Go.ChangeAt

def AnyF : Nat → Prop := fun _ => True
section
variable {H : Type} {enc : TypeId × Value → H} {W : World}
/-- a row of terms, where each term is read -/
theorem read_kids {t e : TypeId} {n : Nat} {c0 : Value} {x : DataW H × List MemPlace} (ht : Try.prog.underlying t = some (.slice e)) (hC : Try.prog.cellsOf e = 5)
    (hread : ∀ m, m + 1 ≤ n → ∀ (cs : List Value) (x : DataW H × List MemPlace), DataW.trod enc Try.prog W 0 (fun _ => true) true m e cs = some x → ∃ t, TmC AnyF W cs t)
    (h : DataW.trod enc Try.prog W 0 (fun _ => true) true n t [c0] = some x) : ∃ ts, SlT AnyF W c0 ts := by
  rcases DataW.trod_slice ht h with ⟨hcs, _⟩ | ⟨a, len, cap, elems, rest, n', hn, hcs, hx, hb, hl, hm, hlen, hel, -, -⟩
  · simp only [List.cons.injEq, and_true] at hcs
    subst hcs
    exact ⟨[], SlT.nil _ _⟩
  · simp only [List.cons.injEq, and_true] at hcs
    subst hcs
    rw [hC] at hel
    have each : ∀ i, i < len → ∃ q : Tm × List Value, W.cells? 0 (a.add (i * 5)) 5 = some q.2 ∧ TmC AnyF W q.2 q.1 := by
      intro i hi
      have hi' := hel i hi
      rw [List.getElem?_eq_getElem (by omega)] at hi'
      obtain ⟨cs', h1, h2⟩ := Option.bind_eq_some_iff.1 hi'
      obtain ⟨t', ht'⟩ := hread n' (by omega) _ _ h2
      exact ⟨(t', cs'), h1, ht'⟩
    haveI : Inhabited (Tm × List Value) := ⟨(.mk 0 0 0 ⟨#[]⟩ [], [])⟩
    obtain ⟨q, hq⟩ := Deep.choose_lt each
    have hlen' : ((List.range len).map fun i => (q i).1).length = len := by simp
    refine ⟨(List.range len).map fun i => (q i).1, some a, cap, by rw [hlen'], by rw [hlen']; exact hl, hm, fun h0 => ?_⟩
    rw [hlen'] at h0
    obtain ⟨b, o, sp⟩ := a
    have h5 := (hq 0 h0).2.len
    have hc0 := (World.cells?_some (hq 0 h0).1).2.2 0 (by omega)
    rw [List.getElem?_eq_getElem (by omega)] at hc0
    have hsp : sp = none := by simpa [Addr.add] using World.cell?_spot hc0
    subst hsp
    have hblk : b < W.heap.size := by
      rw [add_none, add_none] at hc0
      exact block_of_cell hc0
    refine ⟨b, o, rfl, trivial, hblk, AtC.mk' fun j hj => ?_⟩
    rw [hlen'] at hj
    refine ⟨(q j).2, fun i u hu => ?_, ?_⟩
    · have hi : i < 5 := by have := (List.getElem?_eq_some_iff.1 hu).1; rwa [(hq j hj).2.len] at this
      have hh := (World.cells?_some (hq j hj).1).2.2 i hi
      rw [add_none, add_none] at hh
      rw [hh]; exact hu
    · have e : ((List.range len).map fun i => (q i).1)[j] = (q j).1 := by simp
      rw [e]; exact (hq j hj).2
set_option maxRecDepth 100000 in
theorem read_term {t : TypeId} {f0 f1 f2 f3 f4 : Field} (hs : Try.prog.underlying t = some (.struct #[f0, f1, f2, f3, f4])) (hone : Deep.oneCellFields Try.prog #[f0, f1, f2, f3, f4] = true) (hC : Try.prog.cellsOf t = 5)
    (u0 : Try.prog.underlying f0.type = some (.int .i64)) (u1 : Try.prog.underlying f1.type = some (.int .i64)) (u2 : Try.prog.underlying f2.type = some (.int .i64)) (u3 : Try.prog.underlying f3.type = some .string) (u4 : Try.prog.underlying f4.type = some (.slice t)) :
    ∀ (fuel : Nat) (cs : List Value) (x : DataW H × List MemPlace), DataW.trod enc Try.prog W 0 (fun _ => true) true fuel t cs = some x → ∃ t, TmC AnyF W cs t := by
  intro fuel
  induction fuel using Nat.strongRecOn with
  | ind fuel ih =>
    intro cs x h
    obtain ⟨xs, n, hf, hx, hlen, hxl, hfd⟩ := DataW.trod_struct hs h
    rw [hC] at hlen
    obtain ⟨v0, v1, v2, v3, v4, rfl⟩ : ∃ v0 v1 v2 v3 v4, cs = [v0, v1, v2, v3, v4] := by
      match cs, hlen with
      | [c0, c1, c2, c3, c4], _ => exact ⟨_, _, _, _, _, rfl⟩
    have hx5 : xs.length = 5 := hxl
    have g0 := hfd 0 f0 rfl
    have g1 := hfd 1 f1 rfl
    have g2 := hfd 2 f2 rfl
    have g3 := hfd 3 f3 rfl
    have g4 := hfd 4 f4 rfl
    obtain ⟨o0, k0⟩ := Deep.hone_of hone 0 f0 rfl
    obtain ⟨o1, k1⟩ := Deep.hone_of hone 1 f1 rfl
    obtain ⟨o2, k2⟩ := Deep.hone_of hone 2 f2 rfl
    obtain ⟨o3, k3⟩ := Deep.hone_of hone 3 f3 rfl
    obtain ⟨o4, k4⟩ := Deep.hone_of hone 4 f4 rfl
    rw [List.getElem?_eq_getElem (by omega)] at g0 g1 g2 g3 g4
    simp only [o0, o1, o2, o3, o4, k0, k1, k2, k3, k4, List.drop_succ_cons, List.drop_zero, List.take_succ_cons, List.take_zero] at g0 g1 g2 g3 g4
    obtain ⟨n0, e0, -, -⟩ := DataW.trod_int u0 g0
    obtain ⟨n1, e1, -, -⟩ := DataW.trod_int u1 g1
    obtain ⟨n2, e2, -, -⟩ := DataW.trod_int u2 g2
    obtain ⟨s, e3, -, -⟩ := DataW.trod_string u3 g3
    obtain ⟨ts, h4⟩ := read_kids u4 hC (fun m hm cs x h => ih m (by omega) cs x h) g4
    simp only [List.cons.injEq, and_true] at e0 e1 e2 e3
    subst e0 e1 e2 e3
    exact ⟨.mk n0 n1 n2 s ts, TmC_iff.2 ⟨_, rfl, h4⟩⟩
theorem read_terms {t e : TypeId} {v : Value} {d : DataW H} {p : List MemPlace} (ht : Try.prog.underlying t = some (.slice e)) (hC : Try.prog.cellsOf e = 5)
    (hread : ∀ (fuel : Nat) (cs : List Value) (x : DataW H × List MemPlace), DataW.trod enc Try.prog W 0 (fun _ => true) true fuel e cs = some x → ∃ t, TmC AnyF W cs t)
    (hv : ∃ a len cap, v = .slice a len cap) (h : DataW.Trod enc Try.prog W 0 (fun _ => true) true t v d p) : ∃ ts, SlT AnyF W v ts := by
  obtain ⟨a, len, cap, rfl⟩ := hv
  obtain ⟨fuel, hfu⟩ := h
  exact read_kids ht hC (fun m _ => hread m) (show DataW.trod enc Try.prog W 0 (fun _ => true) true fuel t [.slice a len cap] = some (d, p) from by simpa [Value.cells] using hfu)
end

end Go.Proofs.Ytfenikoajadiaaa
