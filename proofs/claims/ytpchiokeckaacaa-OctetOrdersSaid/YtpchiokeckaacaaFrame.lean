/-
  What the rows' steps of this seat share: how an argument that came in is opened. Conditions: none.
-/
import Derived.Test.YtpchiokeckaacaaRows
import Derived.Test.YtpchiokeckaacaaLib
import Derived.ProofKit
import Derived.OpenShut
import Derived.ShutString
import Derived.ChangeOld
import Derived.Below
import Derived.SizedLaws
namespace Go.Proofs.Ytpchiokeckaacaa
open Go Go.RowKit Go.ChangeShapes Go.WideShapes Go.ChangeAt

def TrueP (w : World) (e : Ending) (w' : World) : Prop := e = .returned (.bool true) ∧ Below w.heap.size w w'

theorem Try.own : ownKnob Try.prog.godebug = none := by kernel_rfl
theorem Try.laidOut : laidOutB Try.prog = true := by kernel_rfl
theorem Try.cells1 : Try.prog.cellsOf 5 = 1 := by kernel_rfl
theorem Try.bytes1 : Try.prog.bytesOf 5 = 1 := by kernel_rfl

theorem wf_u8 {n : Int} (h : (Lit.int .u8 n).wf = true) : 0 ≤ n ∧ n ≤ 255 := by simpa [Lit.wf, IntKind.min, IntKind.max, IntKind.signed, IntKind.bits] using h
theorem wf_u16 {n : Int} (h : (Lit.int .u16 n).wf = true) : 0 ≤ n ∧ n ≤ 65535 := by simpa [Lit.wf, IntKind.min, IntKind.max, IntKind.signed, IntKind.bits] using h
theorem wf_u32 {n : Int} (h : (Lit.int .u32 n).wf = true) : 0 ≤ n ∧ n ≤ 4294967295 := by simpa [Lit.wf, IntKind.min, IntKind.max, IntKind.signed, IntKind.bits] using h
theorem wf_u64 {n : Int} (h : (Lit.int .u64 n).wf = true) : 0 ≤ n ∧ n ≤ 18446744073709551615 := by simpa [Lit.wf, IntKind.min, IntKind.max, IntKind.signed, IntKind.bits] using h
theorem wf_i64 {n : Int} (h : (Lit.int .i64 n).wf = true) : -9223372036854775808 ≤ n ∧ n ≤ 9223372036854775807 := by simpa [Lit.wf, IntKind.min, IntKind.max, IntKind.signed, IntKind.bits] using h

/-- a slice of numbers of one kind that came in -/
theorem open_nums {H : Type} {enc : TypeId × Value → H} {W : World} {t e : TypeId} {k : IntKind} {v : Value} {d : DataW H} {p : List MemPlace} (ht : Try.prog.underlying t = some (.slice e)) (he : Try.prog.underlying e = some (.int k)) (hc : Try.prog.cellsOf e = 1)
    (hv : ∃ a len cap, v = .slice a len cap) (h : DataW.Trod enc Try.prog W 0 (fun _ => true) true t v d p) :
    ∃ bs, Sl W v (ofK k bs) ∧ (∀ c ∈ bs, (Lit.int k c).wf = true) ∧ ((d = .nil ∧ bs = []) ∨ ∃ sp, d = .slice (lits k bs) sp) := by
  obtain ⟨a, len, cap, rfl⟩ := hv
  obtain ⟨fuel, hf⟩ := h
  rcases open_ints ht he hc hf with ⟨hcs, hx⟩ | ⟨x, l, c, zs, hcs, _, hl, hm, hz, hx, hcell, hwz⟩
  · simp [Value.cells] at hcs
    obtain ⟨rfl, rfl, rfl⟩ := hcs
    cases hx
    exact ⟨[], .inl ⟨rfl, rfl⟩, by simp, .inl ⟨rfl, rfl⟩⟩
  · simp [Value.cells] at hcs
    obtain ⟨rfl, rfl, rfl⟩ := hcs
    have hz' : zs.length = cap := by simpa using hz
    cases hx
    refine ⟨zs.take len, .inr ⟨x, cap, by rw [length_ofK]; simp; omega, by rw [length_ofK]; simp; omega, hm, fun i u hu => ?_⟩, fun c hc => hwz c (List.mem_of_mem_take hc), .inr ⟨_, rfl⟩⟩
    have hi : i < (ofK k (zs.take len)).length := (List.getElem?_eq_some_iff.1 hu).1
    rw [length_ofK] at hi
    rw [get_ofK _ _ _ hi] at hu
    have hi2 : i < zs.length := by simp at hi; omega
    rw [hcell i hi2, ← hu]
    simp [List.getD_eq_getElem?_getD, List.getElem?_eq_getElem hi2]

theorem reach_nums {H : Type} {ts : List TypeId} {ds : List (DataW H)} (h : (DataW.weightsEach Try.prog ts ds).all (· ≤ reachBytes) = true) {j : Nat} {t e : TypeId} {k : IntKind} {d : DataW H} {bs : List Int} (ht : ts[j]? = some t) (hd : ds[j]? = some d)
    (hu : Try.prog.underlying t = some (.slice e)) (m : Nat) (hb : Try.prog.bytesOf e = m) (hs : (d = .nil ∧ bs = []) ∨ ∃ sp, d = .slice (lits k bs) sp) : bs.length * m ≤ 140737488351232 := by
  rcases hs with ⟨_, rfl⟩ | ⟨sp, rfl⟩
  · simp
  · have := sized_slice h ht hd hu
    rw [hb] at this
    simp only [lits, List.length_map, reachBytes] at this
    refine Nat.le_trans (Nat.mul_le_mul_right m (Nat.le_add_right _ sp.length)) this

end Go.Proofs.Ytpchiokeckaacaa
