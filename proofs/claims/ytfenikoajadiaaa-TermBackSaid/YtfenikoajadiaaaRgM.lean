/-
  A drawn region whose last operations write what its first ones read: what is taken first wants S only till a marked operation, which waits for it, has come up. No program in sight. Conditions: none.
-/
import Derived.Test.YtfenikoajadiaaaRg
namespace Go.Proofs.Ytfenikoajadiaaa
open Go Go.RowKit Go.Sort

section
variable {P : Program} {ops : Array Oper} {md : Region.Mode} {Q : Exit → Act → World → Prop} {S : World → Prop} {m : Nat}

/-- every order from here on; S behind each operation, while the marked one has not come up -/
def wpAnyM (P : Program) (md : Region.Mode) (ops : Array Oper) (Q : Exit → Act → World → Prop) (S : World → Prop) (m : Nat) : Nat → Array Bool → Act → World → Prop
  | 0, l, a, w => Region.ready md ops l = [] ∧ Q .normal a w
  | f + 1, l, a, w => (Region.ready md ops l = [] → Q .normal a w) ∧
      ∀ i ∈ Region.ready md ops l, wpOp P ops Q i (fun a' w' => ((l.setIfInBounds i true).getD m true = false → S w') ∧ wpAnyM P md ops Q S m f (l.setIfInBounds i true) a' w') a w

theorem wpAny_of_marked : ∀ (f : Nat) (l : Array Bool) (a : Act) (w : World), wpAnyM P md ops Q S m f l a w → wpAny P md ops Q f l a w
  | 0, _, _, _, h => h
  | f + 1, _, _, _, h => ⟨h.1, fun i hi => wpOp_mono (fun a' w' k => wpAny_of_marked f _ a' w' k.2) (h.2 i hi)⟩

/-- the marked one waits for the i-th -/
def waitsB (md : Region.Mode) (ops : Array Oper) (m i : Nat) : Bool :=
  match ops[m]? with
  | some o => o.after.any (fun e => Region.binds md e && e.on == i)
  | none => false

theorem ready_no_wait {l : Array Bool} {i : Nat} (hi : i ∈ Region.ready md ops l) (hw : waitsB md ops m i = true) : m ∉ Region.ready md ops l := fun hm => by
  obtain ⟨hmu, om, hom, hall⟩ := mem_ready.1 hm
  unfold waitsB at hw
  rw [hom] at hw
  simp only [Array.any_eq_true] at hw
  obtain ⟨k, hk, hb⟩ := hw
  rw [Bool.and_eq_true, beq_iff_eq] at hb
  have h1 := hall _ (Array.getElem_mem hk) hb.1
  have h0 := (mem_ready.1 hi).1
  rw [hb.2] at h1
  rcases Nat.lt_or_ge i l.size with h | h
  · simp [h] at h0 h1
    rw [h0] at h1; cases h1
  · simp [Array.getElem?_eq_none h] at h1

theorem wpAnyM_first {i : Nat} {oi : Oper} {v : Value} (hi : ops[i]? = some oi) (hsel : ∀ (j : Nat) (o : Oper) cs b, ops[j]? = some o → o.op ≠ .select cs b)
    (hQ : ∀ c a w, Q (.panic c) (a.put oi.dst v) w → Q (.panic c) a w) (hwm : waitsB md ops m i = true) (him : i ≠ m) :
    ∀ (f : Nat) (l : Array Bool) (a : Act) (w : World), l.getD m true = false →
      (∀ j oj, ops[j]? = some oj → j ≠ i → l.getD j true = false → (∀ e ∈ oj.after, Region.binds md e = true → e.on ≠ i) → oi.apart ops oj = true) →
      i ∈ Region.ready md ops l → YieldsIf P ops S oi v a → S w →
      wpAnyM P md ops Q S m f (l.setIfInBounds i true) (a.put oi.dst v) w → wpAnyM P md ops Q S m (f + 1) l a w
  | 0, l, a, w, hl, _, hr, hy, hS, H => by
    refine ⟨fun h => (by rw [h] at hr; cases hr), fun j hj => ?_⟩
    rcases Nat.decEq j i with hji | hji
    · have := ready_mono hj hji
      rw [H.1] at this; cases this
    · subst hji
      exact hy.wpOp hi hS ⟨fun _ => hS, H⟩
  | f + 1, l, a, w, hl, hfree, hr, hy, hS, H => by
    refine ⟨fun h => (by rw [h] at hr; cases hr), fun j hj => ?_⟩
    rcases Nat.decEq j i with hji | hji
    rotate_left
    · subst hji
      exact hy.wpOp hi hS ⟨fun _ => hS, H⟩
    · have hjm : j ≠ m := fun e => ready_no_wait hr hwm (e ▸ hj)
      have hnext := H.2 j (ready_mono hj hji)
      obtain ⟨hju, oj, hoj, hall⟩ := mem_ready.1 hj
      have hno : ∀ e ∈ oj.after, Region.binds md e = true → e.on ≠ i := fun e he hb heq => by
        have h1 := hall e he hb
        have h0 := (mem_ready.1 hr).1
        rw [heq] at h1
        rcases Nat.lt_or_ge i l.size with h | h
        · simp [h] at h0 h1
          rw [h0] at h1; cases h1
        · simp [Array.getElem?_eq_none h] at h1
      have hput := wpOp_putIf hoj (hfree j oj hoj hji hju hno) (fun cs b => hsel i oi cs b hi) (fun cs b => hsel j oj cs b hoj) hQ hy hnext
      have hl' : (l.setIfInBounds j true).getD m true = false := by rw [getD_set_ne true hjm]; exact hl
      have hl2 : ((l.setIfInBounds i true).setIfInBounds j true).getD m true = false := by rw [getD_set_ne true hjm, getD_set_ne true him]; exact hl
      refine wpOp_mono (fun a' w' k => ?_) hput
      have hS' := k.2.1 hl2
      refine ⟨fun _ => hS', wpAnyM_first hi hsel hQ hwm him f (l.setIfInBounds j true) a' w' hl' (fun k' ok hk hki hun hn => ?_) (ready_mono hr (Ne.symm hji)) k.1 hS' ?_⟩
      · refine hfree k' ok hk hki ?_ hn
        by_cases hjk : j = k'
        · subst hjk; exact hju
        · rw [getD_set_ne true hjk] at hun; exact hun
      · rw [Array.setIfInBounds_comm _ _ hji]
        exact k.2.2

/-- they may be taken in this order, ahead of the marked one -/
def takesMB (md : Region.Mode) (ops : Array Oper) (m : Nat) : List Nat → Array Bool → Bool
  | [], _ => true
  | i :: is, l => Region.free md ops l i && ((Region.ready md ops l).contains i && (waitsB md ops m i && ((i != m) && (!(l.getD m true) && takesMB md ops m is (l.setIfInBounds i true)))))

theorem wpAnyM_takes (hsel : Region.noSelect ops = true) (hQ : ∀ c a a' w, Q (.panic c) a' w → Q (.panic c) a w) {fuel : Nat} {w : World} (hS : S w) : ∀ (is : List Nat) (l : Array Bool) (a : Act), takesMB md ops m is l = true →
    HeldL P ops S is (fun a' => wpAnyM P md ops Q S m fuel (marks is l) a' w) a → wpAnyM P md ops Q S m (is.length + fuel) l a w
  | [], l, a, _, h => by rw [List.length_nil, Nat.zero_add]; exact h
  | i :: is, l, a, hB, h => by
    simp only [takesMB, Bool.and_eq_true, bne_iff_ne, Bool.not_eq_true'] at hB
    obtain ⟨o, v, hi, hy, h⟩ := h
    rw [List.length_cons, show is.length + 1 + fuel = is.length + fuel + 1 by omega]
    exact wpAnyM_first hi (Region.noSelect_spec hsel) (fun c a' w' hh => hQ c _ _ w' hh) hB.2.2.1 hB.2.2.2.1 _ _ _ _ hB.2.2.2.2.1 (Region.free_spec hi hB.1) (by simpa using hB.2.1) hy hS (wpAnyM_takes hsel hQ hS is _ _ hB.2.2.2.2.2 h)

theorem wpAnyM_all {rs : List Nat} {f : Nat} {l : Array Bool} {a : Act} {w : World} (hr : Region.ready md ops l = rs) (hne : rs ≠ [])
    (h : ∀ i ∈ rs, wpOp P ops Q i (fun a' w' => ((l.setIfInBounds i true).getD m true = false → S w') ∧ wpAnyM P md ops Q S m f (l.setIfInBounds i true) a' w') a w) : wpAnyM P md ops Q S m (f + 1) l a w :=
  ⟨fun h0 => (hne (hr ▸ h0)).elim, hr ▸ h⟩
theorem wpAnyM_done {l : Array Bool} {a : Act} {w : World} (hr : Region.ready md ops l = []) (h : Q .normal a w) : ∀ f, wpAnyM P md ops Q S m f l a w
  | 0 => ⟨hr, h⟩
  | _ + 1 => ⟨fun _ => h, by rw [hr]; intro i hi; cases hi⟩

theorem wpAnyM_one (i : Nat) {o : Oper} {f : Nat} {l : Array Bool} {a : Act} {w : World} (hr : Region.ready md ops l = [i]) (ho : ops[i]? = some o)
    (h : wpList P ops (QK Q (fun a' w' => ((l.setIfInBounds i true).getD m true = false → S w') ∧ wpAnyM P md ops Q S m f (l.setIfInBounds i true) a' w')) [o] a w) : wpAnyM P md ops Q S m (f + 1) l a w :=
  wpAnyM_all hr (by simp) (fun j hj => by obtain rfl : j = i := by simpa using hj
                                          exact wpOp_of_list ho h)
theorem wpAnyM_two (i j : Nat) {o p : Oper} {f : Nat} {l : Array Bool} {a : Act} {w : World} (hr : Region.ready md ops l = [i, j]) (ho : ops[i]? = some o) (hp : ops[j]? = some p)
    (h : wpList P ops (QK Q (fun a' w' => ((l.setIfInBounds i true).getD m true = false → S w') ∧ wpAnyM P md ops Q S m f (l.setIfInBounds i true) a' w')) [o] a w)
    (k : wpList P ops (QK Q (fun a' w' => ((l.setIfInBounds j true).getD m true = false → S w') ∧ wpAnyM P md ops Q S m f (l.setIfInBounds j true) a' w')) [p] a w) : wpAnyM P md ops Q S m (f + 1) l a w :=
  wpAnyM_all hr (by simp) (fun n hn => by
    rcases (show n = i ∨ n = j by simpa using hn) with rfl | rfl
    · exact wpOp_of_list ho h
    · exact wpOp_of_list hp k)
theorem wpAnyM_three (i j n : Nat) {o p q : Oper} {f : Nat} {l : Array Bool} {a : Act} {w : World} (hr : Region.ready md ops l = [i, j, n]) (ho : ops[i]? = some o) (hp : ops[j]? = some p) (hq : ops[n]? = some q)
    (h : wpList P ops (QK Q (fun a' w' => ((l.setIfInBounds i true).getD m true = false → S w') ∧ wpAnyM P md ops Q S m f (l.setIfInBounds i true) a' w')) [o] a w)
    (k : wpList P ops (QK Q (fun a' w' => ((l.setIfInBounds j true).getD m true = false → S w') ∧ wpAnyM P md ops Q S m f (l.setIfInBounds j true) a' w')) [p] a w)
    (r : wpList P ops (QK Q (fun a' w' => ((l.setIfInBounds n true).getD m true = false → S w') ∧ wpAnyM P md ops Q S m f (l.setIfInBounds n true) a' w')) [q] a w) : wpAnyM P md ops Q S m (f + 1) l a w :=
  wpAnyM_all hr (by simp) (fun x hx => by
    rcases (show x = i ∨ x = j ∨ x = n by simpa using hx) with rfl | rfl | rfl
    · exact wpOp_of_list ho h
    · exact wpOp_of_list hp k
    · exact wpOp_of_list hq r)
end

/-- the region: first these, then the rest, S till the marked one -/
theorem wp_region_marked {P : Program} {id : Nat} {Q : Exit → Act → World → Prop} {a : Act} {w : World} {ls : List Oper} (S : World → Prop) (m : Nat) (is : List Nat) (fuel : Nat) (hm : P.follows .mixedOrders = true) (hn : ls.length = is.length + fuel)
    (hsel : Region.noSelect ls.toArray = true) (hB : takesMB .any ls.toArray m is (Array.replicate ls.toArray.size false) = true) (hS : S w.drew)
    (h : HeldL P ls.toArray S is (fun a' => wpAnyM P .any ls.toArray (NoPanic Q) S m fuel (marks is (Array.replicate ls.toArray.size false)) a' w.drew) a) : (Code.region id ls.toArray true).wp P Q a w := by
  refine wp_region_noPanic (wp_region_any hm (wpAny_of_marked _ _ _ _ (?_ : wpAnyM P .any ls.toArray (NoPanic Q) S m _ _ _ _)))
  have h2 := wpAnyM_takes (P := P) (md := .any) (m := m) (Q := NoPanic Q) hsel noPanic_any (fuel := fuel) hS is _ a hB h
  rw [← show ls.toArray.size = is.length + fuel by simpa using hn] at h2
  exact h2

end Go.Proofs.Ytfenikoajadiaaa
