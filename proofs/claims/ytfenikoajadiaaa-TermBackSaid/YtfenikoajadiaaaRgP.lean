/-
  A drawn region in which a call may panic: what is taken first wants S only till a marked operation has come up; the post of a panic may hang on the frame but for its slots. No program in sight. Conditions: none.
-/
import Derived.Test.YtfenikoajadiaaaRgM
namespace Go.Proofs.Ytfenikoajadiaaa
open Go Go.RowKit Go.Sort

section
variable {P : Program} {ops : Array Oper} {md : Region.Mode} {Q : Exit → Act → World → Prop} {S : World → Prop} {m : Nat}
theorem wpAnyM_takesP (hsel : Region.noSelect ops = true) (hQ : ∀ c (a : Act) d v w, Q (.panic c) (a.put d v) w → Q (.panic c) a w) {fuel : Nat} {w : World} (hS : S w) : ∀ (is : List Nat) (l : Array Bool) (a : Act), takesMB md ops m is l = true →
    HeldL P ops S is (fun a' => wpAnyM P md ops Q S m fuel (marks is l) a' w) a → wpAnyM P md ops Q S m (is.length + fuel) l a w
  | [], l, a, _, h => by rw [List.length_nil, Nat.zero_add]; exact h
  | i :: is, l, a, hB, h => by
    simp only [takesMB, Bool.and_eq_true, bne_iff_ne, Bool.not_eq_true'] at hB
    obtain ⟨o, v, hi, hy, h⟩ := h
    rw [List.length_cons, show is.length + 1 + fuel = is.length + fuel + 1 by omega]
    exact wpAnyM_first hi (Region.noSelect_spec hsel) (fun c a' w' hh => hQ c _ _ _ w' hh) hB.2.2.1 hB.2.2.2.1 _ _ _ _ hB.2.2.2.2.1 (Region.free_spec hi hB.1) (by simpa using hB.2.1) hy hS (wpAnyM_takesP hsel hQ hS is _ _ hB.2.2.2.2.2 h)
theorem wpAnyH_three (i j n : Nat) {o p q : Oper} {fuel : Nat} {listed : Array Bool} {a : Act} {w : World} (hr : Region.ready md ops listed = [i, j, n]) (ho : ops[i]? = some o) (hp : ops[j]? = some p) (hq : ops[n]? = some q)
    (h : wpList P ops (QK Q (fun a' w' => S w' ∧ wpAnyH P md ops Q S fuel (listed.setIfInBounds i true) a' w')) [o] a w)
    (k : wpList P ops (QK Q (fun a' w' => S w' ∧ wpAnyH P md ops Q S fuel (listed.setIfInBounds j true) a' w')) [p] a w)
    (r : wpList P ops (QK Q (fun a' w' => S w' ∧ wpAnyH P md ops Q S fuel (listed.setIfInBounds n true) a' w')) [q] a w) : wpAnyH P md ops Q S (fuel + 1) listed a w :=
  wpAnyH_all hr (by simp) (fun x hx => by
    rcases (show x = i ∨ x = j ∨ x = n by simpa using hx) with rfl | rfl | rfl
    · exact wpOp_of_list ho h
    · exact wpOp_of_list hp k
    · exact wpOp_of_list hq r)
end

/-- the region: first these, then the rest, S till the marked one; a call may panic -/
theorem wp_region_markedP {P : Program} {id : Nat} {Q : Exit → Act → World → Prop} {a : Act} {w : World} {ls : List Oper} (S : World → Prop) (m : Nat) (is : List Nat) (fuel : Nat) (hm : P.follows .mixedOrders = true) (hn : ls.length = is.length + fuel)
    (hsel : Region.noSelect ls.toArray = true) (hB : takesMB .any ls.toArray m is (Array.replicate ls.toArray.size false) = true) (hS : S w.drew) (hQ : ∀ c (a : Act) d v w, Q (.panic c) (a.put d v) w → Q (.panic c) a w)
    (h : HeldL P ls.toArray S is (fun a' => wpAnyM P .any ls.toArray Q S m fuel (marks is (Array.replicate ls.toArray.size false)) a' w.drew) a) : (Code.region id ls.toArray true).wp P Q a w := by
  refine wp_region_any hm (wpAny_of_marked _ _ _ _ (?_ : wpAnyM P .any ls.toArray Q S m _ _ _ _))
  have h2 := wpAnyM_takesP (P := P) (md := .any) (m := m) (Q := Q) hsel hQ (fuel := fuel) hS is _ a hB h
  rw [← show ls.toArray.size = is.length + fuel by simpa using hn] at h2
  exact h2
end Go.Proofs.Ytfenikoajadiaaa
