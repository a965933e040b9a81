/-
  A string as a row of numbers, and a range over one whose iterator lies in a block of its own; results of two parts. No program in sight. Conditions: none.
-/
import Derived.Test.YtfenikoajadiaaaArr
import Derived.Laws.RangeAny
import Derived.Laws.ResultCell
namespace Go.Proofs.Ytfenikoajadiaaa
open Go Go.RowKit

/-- a string's bytes -/
def ints (s : ByteArray) : List Int := s.data.toList.map fun u => (u.toNat : Int)

theorem ints_length (s : ByteArray) : (ints s).length = s.size := by simp [ints]

theorem ints_get (s : ByteArray) (i : Nat) (h : i < s.size) : (ints s)[i]'(by rw [ints_length]; exact h) = ((s[i]'h).toNat : Int) := by
  simp [ints]; rfl

theorem ints_getD (s : ByteArray) (i : Nat) (h : i < s.size) : (ints s).getD i 0 = ((s[i]'h).toNat : Int) := by
  rw [List.getD_eq_getElem?_getD, List.getElem?_eq_getElem (by rw [ints_length]; exact h), ← ints_get s i h]; rfl

theorem ints_allB (s : ByteArray) : AllB (ints s) := by
  intro c hc
  obtain ⟨u, _, rfl⟩ := List.mem_map.1 hc
  have := u.toNat_lt
  omega

theorem ints_toB {bs : List Int} (h : AllB bs) : ints (toB bs) = bs := by
  unfold ints toB
  exact toU8_back h

theorem ints_inj {s t : ByteArray} (h : ints s = ints t) : s = t := by
  have h1 : s.data.toList = t.data.toList := by
    unfold ints at h
    have := congrArg (List.map fun x : Int => UInt8.ofNat x.toNat) h
    simpa [List.map_map, Function.comp_def] using this
  have h2 : s.data = t.data := Array.toList_inj.1 h1
  obtain ⟨a⟩ := s
  obtain ⟨b⟩ := t
  exact congrArg ByteArray.mk h2

/-- the iterator of a string, in block r, at a place -/
def IterS (w : World) (r : Nat) (s : ByteArray) (pos : Nat) : Prop := w.heap[r]? = some (.stringIter s pos)

theorem IterS.lt {w : World} {r : Nat} {s : ByteArray} {pos : Nat} (h : IterS w r s pos) : r < w.heap.size := lt_of_block h
theorem IterS.keep {S : Nat → Prop} {w w' : World} {r : Nat} {s : ByteArray} {pos : Nat} (h : IterS w r s pos) (hc : Ch S w w') (hr : ¬ S r) : IterS w' r s pos := by
  unfold IterS at *; rw [hc.block r (lt_of_block h) hr]; exact h

theorem run_next_str {P : Program} {w : World} {r : Nat} {s : ByteArray} {pos : Nat} (h : IterS w r s pos) (ty : TypeId) (hp : pos < s.size) :
    ∃ w', (Instr.next (.pointer (some ⟨r, 0, none⟩)) true ty).run P w = .ok (.tuple #[.bool true, .int .i64 pos, .int .i32 (Utf8.decode s pos).1]) w' ∧ IterS w' r s (pos + (Utf8.decode s pos).2) ∧ Ch (· = r) w w' ∧ w'.heap.size = w.heap.size := by
  have hlt := h.lt
  unfold IterS at h
  refine ⟨{ w with heap := w.heap.setIfInBounds r (.stringIter s (pos + (Utf8.decode s pos).2)) }, ?_, ?_, ⟨rfl, rfl, rfl, by simp, fun k hk hs => ?_⟩, by simp⟩
  · simp only [Instr.next, getObj, setObj, Sem.run_bind, Sem.run, h, Result.andThen, hp, if_true]
    simp [goInt]
  · show (w.heap.setIfInBounds r _)[r]? = _
    simp [hlt]
  · show (w.heap.setIfInBounds r _)[k]? = _
    rw [Array.getElem?_setIfInBounds_ne (fun e => hs e.symm)]

theorem run_next_over {P : Program} {w : World} {r : Nat} {s : ByteArray} {pos : Nat} (h : IterS w r s pos) (ty : TypeId) (hp : ¬ pos < s.size) :
    (Instr.next (.pointer (some ⟨r, 0, none⟩)) true ty).run P w = .ok (.tuple #[.bool false]) w := by
  unfold IterS at h
  simp only [Instr.next, getObj, Sem.run_bind, Sem.run, h, Result.andThen, hp, if_false]
  rfl

theorem results_blk_tmp {P : Program} {fn : Func} {p u : Tmp} {ty : TypeId} (h : fn.results = #[.cell p ty, .tmp u]) (tmps : Array Value) (w : World) (g : Nat) (e : TypeId) (xs : List Value) (hp : tmps.getD p undef = .pointer (some ⟨g, 0, none⟩)) (hb : Blk w g e xs) (d : TypeDesc)
    (hu : P.underlying ty = some d) (hd : d.isRow = true) (hi : (P.info? ty).map (·.size) = some xs.length) (v : Value) (hv : tmps.getD u undef = v) : (results fn tmps).run P w = .ok (.tuple #[.agg xs.toArray, v]) w := by
  rw [results_cell_tmp h, hp, hv]
  have hl := run_loadVar_mid (P := P) w g 0 ty xs d (fun j v hv => by rw [Nat.zero_add, hb.cell]; exact hv) hu hd hi
  simp only [asAddr, Sem.run_pure, Result.andThen_ok, hl]

end Go.Proofs.Ytfenikoajadiaaa
