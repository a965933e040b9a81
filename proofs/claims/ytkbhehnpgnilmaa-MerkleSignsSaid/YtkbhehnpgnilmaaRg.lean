/-
  A drawn region: what yields one value in every world that meets S is taken first, in an order of one's own; the rest is met operation by operation. No program in sight. Conditions: none.
-/
import Derived.Test.YtkbhehnpgnilmaaQt
import Derived.Deep.MidRow
namespace Go.Proofs.Ytkbhehnpgnilmaa
open Go Go.RowKit Go.Sort

section
variable {P : Program} {ops : Array Oper} {md : Region.Mode} {Q : Exit → Act → World → Prop} {S : World → Prop}

/-- the marks of what has been taken -/
def marks : List Nat → Array Bool → Array Bool
  | [], l => l
  | i :: is, l => marks is (l.setIfInBounds i true)

/-- they may be taken in this order -/
def takesB (md : Region.Mode) (ops : Array Oper) : List Nat → Array Bool → Bool
  | [], _ => true
  | i :: is, l => Region.free md ops l i && (Region.ready md ops l).contains i && takesB md ops is (l.setIfInBounds i true)

/-- each yields one value in every world that meets S -/
def HeldL (P : Program) (ops : Array Oper) (S : World → Prop) : List Nat → (Act → Prop) → Act → Prop
  | [], K, a => K a
  | i :: is, K, a => ∃ o v, ops[i]? = some o ∧ YieldsIf P ops S o v a ∧ HeldL P ops S is K (a.put o.dst v)

theorem HeldL.step {i : Nat} {is : List Nat} {o : Oper} {v : Value} {K : Act → Prop} {a : Act} (hi : ops[i]? = some o) (hy : YieldsIf P ops S o v a) (h : HeldL P ops S is K (a.put o.dst v)) : HeldL P ops S (i :: is) K a := ⟨o, v, hi, hy, h⟩
theorem HeldL.run {i : Nat} {is : List Nat} {o : Oper} {v : Value} {K : Act → Prop} {a : Act} (hi : ops[i]? = some o) (hw : Region.wanted o (yielded ops a.tmps) = true) (hy : ∀ w, S w → (execOp a.eval o).run P w = .ok (.value v) w) (h : HeldL P ops S is K (a.put o.dst v)) : HeldL P ops S (i :: is) K a := ⟨o, v, hi, .inl ⟨hw, hy⟩, h⟩

theorem wpAnyH_takes (hsel : Region.noSelect ops = true) (hQ : ∀ c a a' w, Q (.panic c) a' w → Q (.panic c) a w) {fuel : Nat} {w : World} (hS : S w) : ∀ (is : List Nat) (listed : Array Bool) (a : Act), takesB md ops is listed = true →
    HeldL P ops S is (fun a' => wpAnyH P md ops Q S fuel (marks is listed) a' w) a → wpAnyH P md ops Q S (is.length + fuel) listed a w
  | [], listed, a, _, h => by rw [List.length_nil, Nat.zero_add]; exact h
  | i :: is, listed, a, hB, h => by
    simp only [takesB, Bool.and_eq_true] at hB
    obtain ⟨o, v, hi, hy, h⟩ := h
    rw [List.length_cons, show is.length + 1 + fuel = is.length + fuel + 1 by omega]
    exact wpAnyH_take hi hsel hB.1.1 hB.1.2 (fun c a' w' hh => hQ c _ _ w' hh) hy hS (wpAnyH_takes hsel hQ hS is _ _ hB.2 h)

/-- what follows, at the end of one operation -/
def QK (Q : Exit → Act → World → Prop) (K : Act → World → Prop) : Exit → Act → World → Prop
  | .normal, a, w => K a w
  | e, a, w => Q e a w

theorem QK.normal {K : Act → World → Prop} {a : Act} {w : World} (h : K a w) : QK Q K .normal a w := h

theorem upon_QK {o : Oper} {a : Act} {K : Act → World → Prop} (r : Result Next) (h : o.upon P a (wpList P ops (QK Q K) []) (QK Q K) r) : o.upon P a K Q r := by
  cases r with
  | ok n w =>
    cases n <;> first | exact h | (simp only [Oper.upon] at h ⊢; exact h)
  | halt x w => first | exact h | (simp only [Oper.upon] at h ⊢; exact h)

theorem wpOp_of_list {i : Nat} {o : Oper} {K : Act → World → Prop} {a : Act} {w : World} (hi : ops[i]? = some o) (h : wpList P ops (QK Q K) [o] a w) : wpOp P ops Q i K a w := by
  unfold wpOp
  simp only [hi]
  unfold wpList at h
  split at h
  · rename_i hw
    rw [if_pos hw]
    refine h.imp (fun h => upon_QK _ h) (fun h => ⟨h.1, ?_⟩)
    obtain ⟨a', w', h2⟩ := h.2
    exact ⟨a', w', h2⟩
  · rename_i hw
    rw [if_neg hw]
    exact h

theorem wpAnyH_one (i : Nat) {o : Oper} {fuel : Nat} {listed : Array Bool} {a : Act} {w : World} (hr : Region.ready md ops listed = [i]) (ho : ops[i]? = some o)
    (h : wpList P ops (QK Q (fun a' w' => S w' ∧ wpAnyH P md ops Q S fuel (listed.setIfInBounds i true) a' w')) [o] a w) : wpAnyH P md ops Q S (fuel + 1) listed a w :=
  wpAnyH_all hr (by simp) (fun j hj => by obtain rfl : j = i := by simpa using hj
                                          exact wpOp_of_list ho h)

theorem wpAnyH_two (i j : Nat) {o p : Oper} {fuel : Nat} {listed : Array Bool} {a : Act} {w : World} (hr : Region.ready md ops listed = [i, j]) (ho : ops[i]? = some o) (hp : ops[j]? = some p)
    (h : wpList P ops (QK Q (fun a' w' => S w' ∧ wpAnyH P md ops Q S fuel (listed.setIfInBounds i true) a' w')) [o] a w)
    (k : wpList P ops (QK Q (fun a' w' => S w' ∧ wpAnyH P md ops Q S fuel (listed.setIfInBounds j true) a' w')) [p] a w) : wpAnyH P md ops Q S (fuel + 1) listed a w :=
  wpAnyH_all hr (by simp) (fun n hn => by
    rcases (show n = i ∨ n = j by simpa using hn) with rfl | rfl
    · exact wpOp_of_list ho h
    · exact wpOp_of_list hp k)
end

theorem exec_load_mid {P : Program} {ev : Operand → Value} {o : Oper} {ty : TypeId} {x : Operand} (ho : o.op = .load ty x) {b off : Nat} (hx : ev x = .pointer (some ⟨b, off, none⟩)) {cs : List Value} {d : TypeDesc} {w : World} (hc : w.rangeAt b off cs)
    (hu : P.underlying ty = some d) (hd : d.isRow = true) (hi : (P.info? ty).map (·.size) = some cs.length) : (execOp ev o).run P w = .ok (.value (.agg cs.toArray)) w := by
  unfold execOp
  simp only [ho, hx, Instr.loadAt, Instr.sureAddr, Sem.run_bind, Sem.run_pure, Result.andThen_ok, run_loadVar_mid w b off ty cs d hc hu hd hi]

theorem exec_build {P : Program} {ev : Operand → Value} {o : Oper} {t : TypeId} {parts : Array (Nat × Operand)} (ho : o.op = .build t parts) {vs : Array (Nat × Value)} (hv : parts.map (fun (i, x) => (i, ev x)) = vs) {v : Value} {w : World} (h : (Instr.build t vs).run P w = .ok v w) : (execOp ev o).run P w = .ok (.value v) w := by
  subst hv
  simp [execOp, ho, h, Result.andThen]

theorem noPanic_any {Q : Exit → Act → World → Prop} : ∀ c a a' w, NoPanic Q (.panic c) a' w → NoPanic Q (.panic c) a w := fun _ _ _ _ h => (h : False).elim

/-- the region: first these, then the rest -/
theorem wp_region_takes {P : Program} {id : Nat} {Q : Exit → Act → World → Prop} {a : Act} {w : World} {l : List Oper} (S : World → Prop) (is : List Nat) (fuel : Nat) (hm : P.follows .mixedOrders = true) (hn : l.length = is.length + fuel)
    (hsel : Region.noSelect l.toArray = true) (hB : takesB .any l.toArray is (Array.replicate l.toArray.size false) = true) (hS : S w.drew)
    (h : HeldL P l.toArray S is (fun a' => wpAnyH P .any l.toArray (NoPanic Q) S fuel (marks is (Array.replicate l.toArray.size false)) a' w.drew) a) : (Code.region id l.toArray true).wp P Q a w := by
  refine wp_region_noPanic (wp_region_held (S := S) hm ?_)
  have := wpAnyH_takes (P := P) (md := .any) (Q := NoPanic Q) hsel noPanic_any (fuel := fuel) hS is _ a hB h
  rw [← show l.toArray.size = is.length + fuel by simpa using hn] at this
  exact this

end Go.Proofs.Ytkbhehnpgnilmaa
