/-
  Five blocks are the same as themselves. Conditions: none.
-/
import Derived.Test.YticcjaccpcnjhaaDuo
namespace Go.Proofs.Yticcjaccpcnjhaa
open Go Go.RowKit

theorem Try.cellsBl : Try.prog.cellsOf 39 = 64 := by kernel_rfl

theorem eq_same (d : Nat) (w : World) (m : List Int) (hm : m.length = 64) : (Op.equalIn (d + 2) 39 (.agg (ofK .u8 m).toArray) (.agg (ofK .u8 m).toArray)).run Try.prog w = .ok true w := by
  have he := run_equalIn_arrK (P := Try.prog) w .u8 d 39 5 64 Try.underlying39 Try.underlying5 (fun _ => by rfl) m m hm hm
  rwa [show decide (m = m) = true from decide_eq_true rfl] at he

theorem eq_items (d : Nat) (w : World) (X : Array Value) (e : TypeId) (hp : ∀ i, i < 5 → ∃ v, (part e X (i * 64)).run Try.prog w = .ok v w ∧ (Op.equalIn d e v v).run Try.prog w = .ok true w) : ∀ l : List Nat, (∀ i ∈ l, i < 5) → (Op.eqItems d e 64 X X l).run Try.prog w = .ok true w
  | [], _ => by simp [Op.eqItems]
  | j :: l, hl => by
    obtain ⟨v, h1, h2⟩ := hp j (hl j (by simp))
    simp only [Op.eqItems, Sem.run_bind, h1, h2, Result.andThen_ok, Bool.not_true, Bool.false_eq_true, if_false]
    exact eq_items d w X e hp l (fun i hi => hl i (by simp [hi]))

theorem eq_five_at (d : Nat) (w : World) (c : List Int) (hc : c.length = 320) : (Op.equalIn (d + 3) 61 (.agg (ofK .u8 c).toArray) (.agg (ofK .u8 c).toArray)).run Try.prog w = .ok true w := by
  obtain ⟨i, hi, _⟩ := Option.map_eq_some_iff.1 Try.infoBl
  rw [run_equalIn_array w (d + 2) _ _ Try.underlying61 hi, Try.cellsBl]
  exact eq_items (d + 2) w _ _ (fun i hi => by obtain ⟨m, hm, hp⟩ := part_blk hc hi w; exact ⟨_, hp, eq_same d w m hm⟩) _ (fun i hi => List.mem_range.1 hi)

theorem eq_five (w : World) (c : List Int) (hc : c.length = 320) : (Op.equalIn 10000 61 (.agg (ofK .u8 c).toArray) (.agg (ofK .u8 c).toArray)).run Try.prog w = .ok true w :=
  eq_five_at 9997 w c hc

end Go.Proofs.Yticcjaccpcnjhaa
