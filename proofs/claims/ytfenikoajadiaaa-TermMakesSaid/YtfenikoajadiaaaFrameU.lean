/-
  What terms are made of, coming in as an argument. Conditions: none.
-/
import Derived.Test.YtfenikoajadiaaaFrameT
namespace Go.Proofs.Ytfenikoajadiaaa
open Go Go.RowKit Go.ChangeShapes Go.WideShapes Go.ChangeAt

def partC (u n : Int) (s : ByteArray) : List Value := [.int .i64 u, .int .i64 n, .string s]
section
variable {H : Type} {enc : TypeId × Value → H} {W : World}
set_option maxRecDepth 100000 in
theorem read_parts {t : TypeId} {f0 f1 f2 : Field} {fuel : Nat} {cs : List Value} {x : DataW H × List MemPlace} (hs : Try.prog.underlying t = some (.struct #[f0, f1, f2])) (hone : Deep.oneCellFields Try.prog #[f0, f1, f2] = true) (hC : Try.prog.cellsOf t = 3)
    (u0 : Try.prog.underlying f0.type = some (.int .i64)) (u1 : Try.prog.underlying f1.type = some (.int .i64)) (u2 : Try.prog.underlying f2.type = some .string)
    (h : DataW.trod enc Try.prog W 0 (fun _ => true) true fuel t cs = some x) : ∃ u n s, cs = partC u n s := by
  obtain ⟨xs, n, _, hx, hlen, hxl, hfd⟩ := DataW.trod_struct hs h
  rw [hC] at hlen
  obtain ⟨v0, v1, v2, rfl⟩ : ∃ v0 v1 v2, cs = [v0, v1, v2] := by
    match cs, hlen with
    | [c0, c1, c2], _ => exact ⟨_, _, _, rfl⟩
  have hx3 : xs.length = 3 := hxl
  have g0 := hfd 0 f0 rfl
  have g1 := hfd 1 f1 rfl
  have g2 := hfd 2 f2 rfl
  obtain ⟨o0, k0⟩ := Deep.hone_of hone 0 f0 rfl
  obtain ⟨o1, k1⟩ := Deep.hone_of hone 1 f1 rfl
  obtain ⟨o2, k2⟩ := Deep.hone_of hone 2 f2 rfl
  rw [List.getElem?_eq_getElem (by omega)] at g0 g1 g2
  simp only [o0, o1, o2, k0, k1, k2, List.drop_succ_cons, List.drop_zero, List.take_succ_cons, List.take_zero] at g0 g1 g2
  obtain ⟨n0, e0, -, -⟩ := DataW.trod_int u0 g0
  obtain ⟨n1, e1, -, -⟩ := DataW.trod_int u1 g1
  obtain ⟨s, e2, -, -⟩ := DataW.trod_string u2 g2
  simp only [List.cons.injEq, and_true] at e0 e1 e2
  subst e0 e1 e2
  exact ⟨n0, n1, s, rfl⟩
end

end Go.Proofs.Ytfenikoajadiaaa
